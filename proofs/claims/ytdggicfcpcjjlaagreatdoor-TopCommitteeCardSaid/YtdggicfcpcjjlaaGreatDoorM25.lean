/- Part 25 of the texts below the row: Jac2. -/
import Derived.Test.YtdggicfcpcjjlaaGreatDoorM1
import Derived.Test.YtdggicfcpcjjlaaGreatDoorM13
import Derived.Test.YtdggicfcpcjjlaaGreatDoorM24
/- Points without divisions: sums; in, out. -/
set_option autoImplicit false
namespace Go.Proofs
open Go.SL
attribute [local irreducible] J JL QOp JOp seqQ blockQ loopQ retQ slc cel hex star pur stars Does RV Ent pAt scopeQ
section
variable (E : World)
theorem jadd_ok (j k : Jq) : Does Tryz.prog E 134 [cuV, jv j, jv k] [] fun r L => r = jv (Ec.jadd j k) ∧ L = [] := by
 have hd := jdbl_ok E j
 obtain ⟨X, Y, Z⟩ := j
 obtain ⟨X', Y', Z'⟩ := k
 have hz := eqvN (mw_ok Z) z4_ok
 rw [mw_z] at hz
 by_cases h0 : Z = 0
 ·rw [decide_eq_true h0] at hz
  rw [show Ec.jadd (⟨X, Y, Z⟩ : Jq) ⟨X', Y', Z'⟩ = ⟨X', Y', Z'⟩ by unfold Ec.jadd; rw [if_pos h0]]
  refine Does.of Tryz.func134 rfl Tryz.ntmps134 rfl rfl fun F => ?_
  refine Xb ?_
  refine L_o rfl rfl rfl (O_box rfl fun b3 => ?_)
  refine L_o rfl rfl rfl (O_box rfl fun b4 => ?_)
  refine L_o rfl rfl rfl (O_box rfl fun b5 => ?_)
  refine L_o rfl rfl rfl (O_alloc fun b6 => ?_)
  refine Xt ?_
  refine J_block ?_
  refine X3 ?_
  refine X0 ?_
  refine XbR ?_
  refine XaR ?_
  refine XM ?_
  refine Xbh ?_
  exact XfH
 ·rw [decide_eq_false h0] at hz
  have hz' := eqvN (mw_ok Z') z4_ok
  rw [mw_z] at hz'
  by_cases h1 : Z' = 0
  ·rw [decide_eq_true h1] at hz'
   rw [show Ec.jadd (⟨X, Y, Z⟩ : Jq) ⟨X', Y', Z'⟩ = ⟨X, Y, Z⟩ by unfold Ec.jadd; rw [if_neg h0, if_pos h1]]
   refine Does.of Tryz.func134 rfl Tryz.ntmps134 rfl rfl fun F => ?_
   refine Xb ?_
   refine L_o rfl rfl rfl (O_box rfl fun b3 => ?_)
   refine L_o rfl rfl rfl (O_box rfl fun b4 => ?_)
   refine L_o rfl rfl rfl (O_box rfl fun b5 => ?_)
   refine L_o rfl rfl rfl (O_alloc fun b6 => ?_)
   refine Xt ?_
   refine J_block ?_
   refine X3 ?_
   refine X0 ?_
   refine XbR ?_
   refine XF ?_
   refine XbS ?_
   refine Xea ?_
   refine XaR ?_
   refine XZ ?_
   refine Xbh ?_
   exact XfH
  ·rw [decide_eq_false h1] at hz'
   unfold Ec.jadd
   rw [if_neg h0, if_neg h1]
   dsimp only
   have m1 := mulM E Z Z
   have m2 := mulM E Z' Z'
   generalize hpp : Z * Z = pp at *
   generalize hqq : Z' * Z' = qq at *
   have m3 := mulM E X qq
   have m4 := mulM E X' pp
   have m5 := mulM E qq Z'
   have m6 := mulM E Y (qq * Z')
   have m7 := mulM E pp Z
   have m8 := mulM E Y' (pp * Z)
   generalize X * qq = u at *
   generalize X' * pp = v at *
   generalize Y * (qq * Z') = s at *
   generalize Y' * (pp * Z) = t at *
   have m9 := subM E v u
   have m10 := subM E t s
   generalize v - u = h at *
   generalize t - s = r at *
   have hh := eqvN (mw_ok h) z4_ok
   have hr := eqvN (mw_ok r) z4_ok
   rw [mw_z] at hh hr
   by_cases b1 : h = 0
   ·rw [decide_eq_true b1] at hh
    rw [if_pos b1]
    by_cases b2 : r = 0
    ·rw [decide_eq_true b2] at hr
     rw [if_pos b2]
     generalize Ec.jdbl (⟨X, Y, Z⟩ : Jq) = w at *
     refine Does.of Tryz.func134 rfl Tryz.ntmps134 rfl rfl fun F => ?_
     refine Xb ?_
     refine L_o rfl rfl rfl (O_box rfl fun b3 => ?_)
     refine L_o rfl rfl rfl (O_box rfl fun b4 => ?_)
     refine L_o rfl rfl rfl (O_box rfl fun b5 => ?_)
     refine L_o rfl rfl rfl (O_alloc fun b6 => ?_)
     refine Xt ?_
     refine J_block ?_
     refine X3 ?_
     refine X0 ?_
     refine XbR ?_
     refine XF ?_
     refine XbS ?_
     refine Xea ?_
     refine XF ?_
     refine Xbe ?_
     refine X3 ?_
     refine Xa5 ?_
     refine L_o rfl rfl rfl (O_alloc fun b7 => ?_)
     refine XB ?_
     refine J_flo [0,2,3] [0,1,2,3,4,6,7,8,9,10] [⟨12, 8, 24, [.int .u64 0, .int .u64 0, .int .u64 0, .int .u64 0]⟩, ⟨13, 9, 24, [.int .u64 0, .int .u64 0, .int .u64 0, .int .u64 0]⟩] [(false, 0), (false, 1), (false, 2), (false, 3), (false, 4), (false, 6), (false, 7), (false, 8), (false, 9), (false, 10), (true, 5), (true, 11)] (.loud 14 (.loud 15 .done)) Tryz.mixed (by kernel_rfl) (by kernel_rfl) (by repeat (first | exact retQ_noP | refine seqQ_noP ?_ | refine blockQ_noP ?_ | refine loopQ_noP ?_ | refine scopeQ_noP ?_ | (intro _ _ _ h; cases h.1))) (List.forall_mem_cons.2 ⟨AlOk.of rfl rfl rfl, (List.forall_mem_cons.2 ⟨AlOk.of rfl rfl rfl, (List.forall_mem_nil _)⟩)⟩) rfl ?_
     refine Xe0 ?_
     refine Xd4 ?_
     refine XcI ?_
     refine XcI ?_
     refine F_o (Ent.re [0,2,3] rfl) rfl rfl rfl rfl fun X => O_callP (m1) rfl ⟨_, _, rfl, fun _ => ⟨(Ent.re [0,2,3] rfl), Ent.refl _⟩, ?_⟩
     refine F_o (Ent.re [0,2,3] rfl) rfl rfl rfl rfl fun X => O_callP (m2) rfl ⟨_, _, rfl, fun _ => ⟨(Ent.re [0,2,3] rfl), Ent.refl _⟩, ?_⟩
     refine F_nil (Ent.re [0,2,3] rfl) (land2 fun b8 b9 => ?_)
     refine Xa2 ?_
     refine J_flo [0,1,2,4,5] [0,1,2,3,5,6,7,8] [⟨10, 10, 24, [.int .u64 0, .int .u64 0, .int .u64 0, .int .u64 0]⟩, ⟨11, 11, 24, [.int .u64 0, .int .u64 0, .int .u64 0, .int .u64 0]⟩] [(false, 0), (false, 1), (false, 2), (false, 3), (false, 5), (false, 6), (false, 7), (false, 8), (true, 4), (true, 9)] (.loud 12 (.loud 13 .done)) Tryz.mixed (by kernel_rfl) (by kernel_rfl) (by repeat (first | exact retQ_noP | refine seqQ_noP ?_ | refine blockQ_noP ?_ | refine loopQ_noP ?_ | refine scopeQ_noP ?_ | (intro _ _ _ h; cases h.1))) (List.forall_mem_cons.2 ⟨AlOk.of rfl rfl rfl, (List.forall_mem_cons.2 ⟨AlOk.of rfl rfl rfl, (List.forall_mem_nil _)⟩)⟩) rfl ?_
     refine XcG ?_
     refine Xeu ?_
     refine XcG ?_
     refine Xev ?_
     refine F_o (Ent.re [0,1,2,4,5] rfl) rfl rfl rfl rfl fun X => O_callP (m3) rfl ⟨_, _, rfl, fun _ => ⟨(Ent.re [0,1,2,4,5] rfl), Ent.refl _⟩, ?_⟩
     refine F_o (Ent.re [0,1,2,4,5] rfl) rfl rfl rfl rfl fun X => O_callP (m4) rfl ⟨_, _, rfl, fun _ => ⟨(Ent.re [0,1,2,4,5] rfl), Ent.refl _⟩, ?_⟩
     refine F_nil (Ent.re [0,1,2,4,5] rfl) (land2 fun b10 b11 => ?_)
     refine Xa2 ?_
     refine J_flo [2,3,4,6,7] [0,1,2,3,4,5,6,9,10,11,12,13,14,15] [⟨18, 12, 24, [.int .u64 0, .int .u64 0, .int .u64 0, .int .u64 0]⟩, ⟨19, 13, 24, [.int .u64 0, .int .u64 0, .int .u64 0, .int .u64 0]⟩] [(false, 0), (false, 1), (false, 2), (false, 3), (false, 4), (false, 5), (false, 6), (false, 9), (false, 10), (false, 11), (false, 12), (false, 13), (false, 14), (false, 15), (true, 7), (true, 8), (true, 16), (true, 17)] (.loud 20 (.loud 21 .done)) Tryz.mixed (by kernel_rfl) (by kernel_rfl) (by repeat (first | exact retQ_noP | refine seqQ_noP ?_ | refine blockQ_noP ?_ | refine loopQ_noP ?_ | refine scopeQ_noP ?_ | (intro _ _ _ h; cases h.1))) (List.forall_mem_cons.2 ⟨AlOk.of rfl rfl rfl, (List.forall_mem_cons.2 ⟨AlOk.of rfl rfl rfl, (List.forall_mem_nil _)⟩)⟩) rfl ?_
     refine XdG ?_
     refine XcH ?_
     refine Xew ?_
     refine XdT ?_
     refine XeY ?_
     refine XcH ?_
     refine F_o (Ent.re [2,3,4,6,7] rfl) rfl rfl rfl rfl fun X => O_callP (m5) rfl ⟨_, _, rfl, fun _ => ⟨(Ent.re [2,3,4,6,7] rfl), Ent.refl _⟩, ?_⟩
     refine F_o (Ent.re [2,3,4,6,7] rfl) rfl rfl rfl rfl fun X => O_callP (m6) rfl ⟨_, _, rfl, fun _ => ⟨(Ent.re [2,3,4,6,7] rfl), Ent.refl _⟩, ?_⟩
     refine F_o (Ent.re [2,3,4,6,7] rfl) rfl rfl rfl rfl fun X => O_callP (m7) rfl ⟨_, _, rfl, fun _ => ⟨(Ent.re [2,3,4,6,7] rfl), Ent.refl _⟩, ?_⟩
     refine F_o (Ent.re [2,3,4,6,7] rfl) rfl rfl rfl rfl fun X => O_callP (m8) rfl ⟨_, _, rfl, fun _ => ⟨(Ent.re [2,3,4,6,7] rfl), Ent.refl _⟩, ?_⟩
     refine F_nil (Ent.re [2,3,4,6,7] rfl) (land2 fun b12 b13 => ?_)
     refine Xa2 ?_
     refine J_flo [0,1,2,3,6] [0,1,2,4,5,6] [⟨8, 14, 24, [.int .u64 0, .int .u64 0, .int .u64 0, .int .u64 0]⟩, ⟨9, 15, 24, [.int .u64 0, .int .u64 0, .int .u64 0, .int .u64 0]⟩] [(false, 0), (false, 1), (false, 2), (false, 4), (false, 5), (false, 6), (true, 3), (true, 7)] (.loud 10 (.loud 11 .done)) Tryz.mixed (by kernel_rfl) (by kernel_rfl) (by repeat (first | exact retQ_noP | refine seqQ_noP ?_ | refine blockQ_noP ?_ | refine loopQ_noP ?_ | refine scopeQ_noP ?_ | (intro _ _ _ h; cases h.1))) (List.forall_mem_cons.2 ⟨AlOk.of rfl rfl rfl, (List.forall_mem_cons.2 ⟨AlOk.of rfl rfl rfl, (List.forall_mem_nil _)⟩)⟩) rfl ?_
     refine Xex ?_
     refine Xey ?_
     refine Xez ?_
     refine F_o (Ent.re [0,1,2,3,6] rfl) rfl rfl rfl rfl fun X => O_callP (m9) rfl ⟨_, _, rfl, fun _ => ⟨(Ent.re [0,1,2,3,6] rfl), Ent.refl _⟩, ?_⟩
     refine F_o (Ent.re [0,1,2,3,6] rfl) rfl rfl rfl rfl fun X => O_callP (m10) rfl ⟨_, _, rfl, fun _ => ⟨(Ent.re [0,1,2,3,6] rfl), Ent.refl _⟩, ?_⟩
     refine F_nil (Ent.re [0,1,2,3,6] rfl) (land2 fun b14 b15 => ?_)
     refine Xa2 ?_
     refine Xo ?_
     refine Xk ?_
     refine Lq (Q_geql eqgN hh rfl rfl) ?_
     refine Xm ?_
     refine J_seq ?_
     refine XM ?_
     refine Xk ?_
     refine Lq (Q_geql eqgN hr rfl rfl) ?_
     refine Xm ?_
     refine Sr ?_
     refine Lq (Q_ldA 12 rfl rfl rfl) ?_
     refine Lq (Q_ldA 11 rfl rfl rfl) ?_
     refine L_o rfl rfl rfl (O_callP (hd) rfl ?_)
     refine L_s rfl rfl (O_stW 9 rfl rfl rfl rfl ?_)
     refine Xr ?_
     refine Xa1 ?_
     refine seqQ_ret ?_
     exact Xf4
    ·rw [decide_eq_false b2] at hr
     rw [if_neg b2, show (⟨0, 0, 0⟩ : Jq) = jz from rfl, show jv jz = .agg #[u64 0, u64 0, u64 0, u64 0, u64 0, u64 0, u64 0, u64 0, u64 0, u64 0, u64 0, u64 0] by unfold jv; rw [jz_l]]
     refine Does.of Tryz.func134 rfl Tryz.ntmps134 rfl rfl fun F => ?_
     refine Xb ?_
     refine L_o rfl rfl rfl (O_box rfl fun b3 => ?_)
     refine L_o rfl rfl rfl (O_box rfl fun b4 => ?_)
     refine L_o rfl rfl rfl (O_box rfl fun b5 => ?_)
     refine L_o rfl rfl rfl (O_alloc fun b6 => ?_)
     refine Xt ?_
     refine J_block ?_
     refine X3 ?_
     refine X0 ?_
     refine XbR ?_
     refine XF ?_
     refine XbS ?_
     refine Xea ?_
     refine XF ?_
     refine Xbe ?_
     refine X3 ?_
     refine Xa5 ?_
     refine L_o rfl rfl rfl (O_alloc fun b7 => ?_)
     refine XB ?_
     refine J_flo [0,2,3] [0,1,2,3,4,6,7,8,9,10] [⟨12, 8, 24, [.int .u64 0, .int .u64 0, .int .u64 0, .int .u64 0]⟩, ⟨13, 9, 24, [.int .u64 0, .int .u64 0, .int .u64 0, .int .u64 0]⟩] [(false, 0), (false, 1), (false, 2), (false, 3), (false, 4), (false, 6), (false, 7), (false, 8), (false, 9), (false, 10), (true, 5), (true, 11)] (.loud 14 (.loud 15 .done)) Tryz.mixed (by kernel_rfl) (by kernel_rfl) (by repeat (first | exact retQ_noP | refine seqQ_noP ?_ | refine blockQ_noP ?_ | refine loopQ_noP ?_ | refine scopeQ_noP ?_ | (intro _ _ _ h; cases h.1))) (List.forall_mem_cons.2 ⟨AlOk.of rfl rfl rfl, (List.forall_mem_cons.2 ⟨AlOk.of rfl rfl rfl, (List.forall_mem_nil _)⟩)⟩) rfl ?_
     refine Xe0 ?_
     refine Xd4 ?_
     refine XcI ?_
     refine XcI ?_
     refine F_o (Ent.re [0,2,3] rfl) rfl rfl rfl rfl fun X => O_callP (m1) rfl ⟨_, _, rfl, fun _ => ⟨(Ent.re [0,2,3] rfl), Ent.refl _⟩, ?_⟩
     refine F_o (Ent.re [0,2,3] rfl) rfl rfl rfl rfl fun X => O_callP (m2) rfl ⟨_, _, rfl, fun _ => ⟨(Ent.re [0,2,3] rfl), Ent.refl _⟩, ?_⟩
     refine F_nil (Ent.re [0,2,3] rfl) (land2 fun b8 b9 => ?_)
     refine Xa2 ?_
     refine J_flo [0,1,2,4,5] [0,1,2,3,5,6,7,8] [⟨10, 10, 24, [.int .u64 0, .int .u64 0, .int .u64 0, .int .u64 0]⟩, ⟨11, 11, 24, [.int .u64 0, .int .u64 0, .int .u64 0, .int .u64 0]⟩] [(false, 0), (false, 1), (false, 2), (false, 3), (false, 5), (false, 6), (false, 7), (false, 8), (true, 4), (true, 9)] (.loud 12 (.loud 13 .done)) Tryz.mixed (by kernel_rfl) (by kernel_rfl) (by repeat (first | exact retQ_noP | refine seqQ_noP ?_ | refine blockQ_noP ?_ | refine loopQ_noP ?_ | refine scopeQ_noP ?_ | (intro _ _ _ h; cases h.1))) (List.forall_mem_cons.2 ⟨AlOk.of rfl rfl rfl, (List.forall_mem_cons.2 ⟨AlOk.of rfl rfl rfl, (List.forall_mem_nil _)⟩)⟩) rfl ?_
     refine XcG ?_
     refine Xeu ?_
     refine XcG ?_
     refine Xev ?_
     refine F_o (Ent.re [0,1,2,4,5] rfl) rfl rfl rfl rfl fun X => O_callP (m3) rfl ⟨_, _, rfl, fun _ => ⟨(Ent.re [0,1,2,4,5] rfl), Ent.refl _⟩, ?_⟩
     refine F_o (Ent.re [0,1,2,4,5] rfl) rfl rfl rfl rfl fun X => O_callP (m4) rfl ⟨_, _, rfl, fun _ => ⟨(Ent.re [0,1,2,4,5] rfl), Ent.refl _⟩, ?_⟩
     refine F_nil (Ent.re [0,1,2,4,5] rfl) (land2 fun b10 b11 => ?_)
     refine Xa2 ?_
     refine J_flo [2,3,4,6,7] [0,1,2,3,4,5,6,9,10,11,12,13,14,15] [⟨18, 12, 24, [.int .u64 0, .int .u64 0, .int .u64 0, .int .u64 0]⟩, ⟨19, 13, 24, [.int .u64 0, .int .u64 0, .int .u64 0, .int .u64 0]⟩] [(false, 0), (false, 1), (false, 2), (false, 3), (false, 4), (false, 5), (false, 6), (false, 9), (false, 10), (false, 11), (false, 12), (false, 13), (false, 14), (false, 15), (true, 7), (true, 8), (true, 16), (true, 17)] (.loud 20 (.loud 21 .done)) Tryz.mixed (by kernel_rfl) (by kernel_rfl) (by repeat (first | exact retQ_noP | refine seqQ_noP ?_ | refine blockQ_noP ?_ | refine loopQ_noP ?_ | refine scopeQ_noP ?_ | (intro _ _ _ h; cases h.1))) (List.forall_mem_cons.2 ⟨AlOk.of rfl rfl rfl, (List.forall_mem_cons.2 ⟨AlOk.of rfl rfl rfl, (List.forall_mem_nil _)⟩)⟩) rfl ?_
     refine XdG ?_
     refine XcH ?_
     refine Xew ?_
     refine XdT ?_
     refine XeY ?_
     refine XcH ?_
     refine F_o (Ent.re [2,3,4,6,7] rfl) rfl rfl rfl rfl fun X => O_callP (m5) rfl ⟨_, _, rfl, fun _ => ⟨(Ent.re [2,3,4,6,7] rfl), Ent.refl _⟩, ?_⟩
     refine F_o (Ent.re [2,3,4,6,7] rfl) rfl rfl rfl rfl fun X => O_callP (m6) rfl ⟨_, _, rfl, fun _ => ⟨(Ent.re [2,3,4,6,7] rfl), Ent.refl _⟩, ?_⟩
     refine F_o (Ent.re [2,3,4,6,7] rfl) rfl rfl rfl rfl fun X => O_callP (m7) rfl ⟨_, _, rfl, fun _ => ⟨(Ent.re [2,3,4,6,7] rfl), Ent.refl _⟩, ?_⟩
     refine F_o (Ent.re [2,3,4,6,7] rfl) rfl rfl rfl rfl fun X => O_callP (m8) rfl ⟨_, _, rfl, fun _ => ⟨(Ent.re [2,3,4,6,7] rfl), Ent.refl _⟩, ?_⟩
     refine F_nil (Ent.re [2,3,4,6,7] rfl) (land2 fun b12 b13 => ?_)
     refine Xa2 ?_
     refine J_flo [0,1,2,3,6] [0,1,2,4,5,6] [⟨8, 14, 24, [.int .u64 0, .int .u64 0, .int .u64 0, .int .u64 0]⟩, ⟨9, 15, 24, [.int .u64 0, .int .u64 0, .int .u64 0, .int .u64 0]⟩] [(false, 0), (false, 1), (false, 2), (false, 4), (false, 5), (false, 6), (true, 3), (true, 7)] (.loud 10 (.loud 11 .done)) Tryz.mixed (by kernel_rfl) (by kernel_rfl) (by repeat (first | exact retQ_noP | refine seqQ_noP ?_ | refine blockQ_noP ?_ | refine loopQ_noP ?_ | refine scopeQ_noP ?_ | (intro _ _ _ h; cases h.1))) (List.forall_mem_cons.2 ⟨AlOk.of rfl rfl rfl, (List.forall_mem_cons.2 ⟨AlOk.of rfl rfl rfl, (List.forall_mem_nil _)⟩)⟩) rfl ?_
     refine Xex ?_
     refine Xey ?_
     refine Xez ?_
     refine F_o (Ent.re [0,1,2,3,6] rfl) rfl rfl rfl rfl fun X => O_callP (m9) rfl ⟨_, _, rfl, fun _ => ⟨(Ent.re [0,1,2,3,6] rfl), Ent.refl _⟩, ?_⟩
     refine F_o (Ent.re [0,1,2,3,6] rfl) rfl rfl rfl rfl fun X => O_callP (m10) rfl ⟨_, _, rfl, fun _ => ⟨(Ent.re [0,1,2,3,6] rfl), Ent.refl _⟩, ?_⟩
     refine F_nil (Ent.re [0,1,2,3,6] rfl) (land2 fun b14 b15 => ?_)
     refine Xa2 ?_
     refine Xo ?_
     refine Xk ?_
     refine Lq (Q_geql eqgN hh rfl rfl) ?_
     refine Xm ?_
     refine J_seq ?_
     refine XM ?_
     refine Xk ?_
     refine Lq (Q_geql eqgN hr rfl rfl) ?_
     refine Xy ?_
     refine XW ?_
     refine L_s rfl rfl (O_stW 9 rfl rfl rfl rfl ?_)
     refine Xr ?_
     refine Xa1 ?_
     exact Xf4
   ·rw [decide_eq_false b1] at hh
    rw [if_neg b1]
    have m11 := mulM E h h
    generalize h * h = hh2 at *
    have m12 := mulM E hh2 h
    have m13 := mulM E u hh2
    generalize hh2 * h = hhh at *
    generalize u * hh2 = w at *
    have m14 := mulM E r r
    have m15 := subM E (r * r) hhh
    have m16 := twice_ok E w
    have m17 := subM E (r * r - hhh) (w + w)
    generalize r * r - hhh - (w + w) = x at *
    have m18 := subM E w x
    have m19 := mulM E r (w - x)
    have m20 := mulM E s hhh
    have m21 := subM E (r * (w - x)) (s * hhh)
    generalize r * (w - x) - s * hhh = y at *
    have m22 := mulM E Z Z'
    have m23 := mulM E h (Z * Z')
    refine Does.of Tryz.func134 rfl Tryz.ntmps134 rfl rfl fun F => ?_
    refine Xb ?_
    refine L_o rfl rfl rfl (O_box rfl fun b3 => ?_)
    refine L_o rfl rfl rfl (O_box rfl fun b4 => ?_)
    refine L_o rfl rfl rfl (O_box rfl fun b5 => ?_)
    refine L_o rfl rfl rfl (O_alloc fun b6 => ?_)
    refine Xt ?_
    refine J_block ?_
    refine X3 ?_
    refine X0 ?_
    refine XbR ?_
    refine XF ?_
    refine XbS ?_
    refine Xea ?_
    refine XF ?_
    refine Xbe ?_
    refine X3 ?_
    refine Xa5 ?_
    refine L_o rfl rfl rfl (O_alloc fun b7 => ?_)
    refine XB ?_
    refine J_flo [0,2,3] [0,1,2,3,4,6,7,8,9,10] [⟨12, 8, 24, [.int .u64 0, .int .u64 0, .int .u64 0, .int .u64 0]⟩, ⟨13, 9, 24, [.int .u64 0, .int .u64 0, .int .u64 0, .int .u64 0]⟩] [(false, 0), (false, 1), (false, 2), (false, 3), (false, 4), (false, 6), (false, 7), (false, 8), (false, 9), (false, 10), (true, 5), (true, 11)] (.loud 14 (.loud 15 .done)) Tryz.mixed (by kernel_rfl) (by kernel_rfl) (by repeat (first | exact retQ_noP | refine seqQ_noP ?_ | refine blockQ_noP ?_ | refine loopQ_noP ?_ | refine scopeQ_noP ?_ | (intro _ _ _ h; cases h.1))) (List.forall_mem_cons.2 ⟨AlOk.of rfl rfl rfl, (List.forall_mem_cons.2 ⟨AlOk.of rfl rfl rfl, (List.forall_mem_nil _)⟩)⟩) rfl ?_
    refine Xe0 ?_
    refine Xd4 ?_
    refine XcI ?_
    refine XcI ?_
    refine F_o (Ent.re [0,2,3] rfl) rfl rfl rfl rfl fun X => O_callP (m1) rfl ⟨_, _, rfl, fun _ => ⟨(Ent.re [0,2,3] rfl), Ent.refl _⟩, ?_⟩
    refine F_o (Ent.re [0,2,3] rfl) rfl rfl rfl rfl fun X => O_callP (m2) rfl ⟨_, _, rfl, fun _ => ⟨(Ent.re [0,2,3] rfl), Ent.refl _⟩, ?_⟩
    refine F_nil (Ent.re [0,2,3] rfl) (land2 fun b8 b9 => ?_)
    refine Xa2 ?_
    refine J_flo [0,1,2,4,5] [0,1,2,3,5,6,7,8] [⟨10, 10, 24, [.int .u64 0, .int .u64 0, .int .u64 0, .int .u64 0]⟩, ⟨11, 11, 24, [.int .u64 0, .int .u64 0, .int .u64 0, .int .u64 0]⟩] [(false, 0), (false, 1), (false, 2), (false, 3), (false, 5), (false, 6), (false, 7), (false, 8), (true, 4), (true, 9)] (.loud 12 (.loud 13 .done)) Tryz.mixed (by kernel_rfl) (by kernel_rfl) (by repeat (first | exact retQ_noP | refine seqQ_noP ?_ | refine blockQ_noP ?_ | refine loopQ_noP ?_ | refine scopeQ_noP ?_ | (intro _ _ _ h; cases h.1))) (List.forall_mem_cons.2 ⟨AlOk.of rfl rfl rfl, (List.forall_mem_cons.2 ⟨AlOk.of rfl rfl rfl, (List.forall_mem_nil _)⟩)⟩) rfl ?_
    refine XcG ?_
    refine Xeu ?_
    refine XcG ?_
    refine Xev ?_
    refine F_o (Ent.re [0,1,2,4,5] rfl) rfl rfl rfl rfl fun X => O_callP (m3) rfl ⟨_, _, rfl, fun _ => ⟨(Ent.re [0,1,2,4,5] rfl), Ent.refl _⟩, ?_⟩
    refine F_o (Ent.re [0,1,2,4,5] rfl) rfl rfl rfl rfl fun X => O_callP (m4) rfl ⟨_, _, rfl, fun _ => ⟨(Ent.re [0,1,2,4,5] rfl), Ent.refl _⟩, ?_⟩
    refine F_nil (Ent.re [0,1,2,4,5] rfl) (land2 fun b10 b11 => ?_)
    refine Xa2 ?_
    refine J_flo [2,3,4,6,7] [0,1,2,3,4,5,6,9,10,11,12,13,14,15] [⟨18, 12, 24, [.int .u64 0, .int .u64 0, .int .u64 0, .int .u64 0]⟩, ⟨19, 13, 24, [.int .u64 0, .int .u64 0, .int .u64 0, .int .u64 0]⟩] [(false, 0), (false, 1), (false, 2), (false, 3), (false, 4), (false, 5), (false, 6), (false, 9), (false, 10), (false, 11), (false, 12), (false, 13), (false, 14), (false, 15), (true, 7), (true, 8), (true, 16), (true, 17)] (.loud 20 (.loud 21 .done)) Tryz.mixed (by kernel_rfl) (by kernel_rfl) (by repeat (first | exact retQ_noP | refine seqQ_noP ?_ | refine blockQ_noP ?_ | refine loopQ_noP ?_ | refine scopeQ_noP ?_ | (intro _ _ _ h; cases h.1))) (List.forall_mem_cons.2 ⟨AlOk.of rfl rfl rfl, (List.forall_mem_cons.2 ⟨AlOk.of rfl rfl rfl, (List.forall_mem_nil _)⟩)⟩) rfl ?_
    refine XdG ?_
    refine XcH ?_
    refine Xew ?_
    refine XdT ?_
    refine XeY ?_
    refine XcH ?_
    refine F_o (Ent.re [2,3,4,6,7] rfl) rfl rfl rfl rfl fun X => O_callP (m5) rfl ⟨_, _, rfl, fun _ => ⟨(Ent.re [2,3,4,6,7] rfl), Ent.refl _⟩, ?_⟩
    refine F_o (Ent.re [2,3,4,6,7] rfl) rfl rfl rfl rfl fun X => O_callP (m6) rfl ⟨_, _, rfl, fun _ => ⟨(Ent.re [2,3,4,6,7] rfl), Ent.refl _⟩, ?_⟩
    refine F_o (Ent.re [2,3,4,6,7] rfl) rfl rfl rfl rfl fun X => O_callP (m7) rfl ⟨_, _, rfl, fun _ => ⟨(Ent.re [2,3,4,6,7] rfl), Ent.refl _⟩, ?_⟩
    refine F_o (Ent.re [2,3,4,6,7] rfl) rfl rfl rfl rfl fun X => O_callP (m8) rfl ⟨_, _, rfl, fun _ => ⟨(Ent.re [2,3,4,6,7] rfl), Ent.refl _⟩, ?_⟩
    refine F_nil (Ent.re [2,3,4,6,7] rfl) (land2 fun b12 b13 => ?_)
    refine Xa2 ?_
    refine J_flo [0,1,2,3,6] [0,1,2,4,5,6] [⟨8, 14, 24, [.int .u64 0, .int .u64 0, .int .u64 0, .int .u64 0]⟩, ⟨9, 15, 24, [.int .u64 0, .int .u64 0, .int .u64 0, .int .u64 0]⟩] [(false, 0), (false, 1), (false, 2), (false, 4), (false, 5), (false, 6), (true, 3), (true, 7)] (.loud 10 (.loud 11 .done)) Tryz.mixed (by kernel_rfl) (by kernel_rfl) (by repeat (first | exact retQ_noP | refine seqQ_noP ?_ | refine blockQ_noP ?_ | refine loopQ_noP ?_ | refine scopeQ_noP ?_ | (intro _ _ _ h; cases h.1))) (List.forall_mem_cons.2 ⟨AlOk.of rfl rfl rfl, (List.forall_mem_cons.2 ⟨AlOk.of rfl rfl rfl, (List.forall_mem_nil _)⟩)⟩) rfl ?_
    refine Xex ?_
    refine Xey ?_
    refine Xez ?_
    refine F_o (Ent.re [0,1,2,3,6] rfl) rfl rfl rfl rfl fun X => O_callP (m9) rfl ⟨_, _, rfl, fun _ => ⟨(Ent.re [0,1,2,3,6] rfl), Ent.refl _⟩, ?_⟩
    refine F_o (Ent.re [0,1,2,3,6] rfl) rfl rfl rfl rfl fun X => O_callP (m10) rfl ⟨_, _, rfl, fun _ => ⟨(Ent.re [0,1,2,3,6] rfl), Ent.refl _⟩, ?_⟩
    refine F_nil (Ent.re [0,1,2,3,6] rfl) (land2 fun b14 b15 => ?_)
    refine Xa2 ?_
    refine Xo ?_
    refine Xk ?_
    refine Lq (Q_geql eqgN hh rfl rfl) ?_
    refine Xy ?_
    refine Sr ?_
    refine Lq (Q_ldA 8 rfl rfl rfl) ?_
    refine X1 ?_
    refine X1 ?_
    refine L_o rfl rfl rfl (O_callP (m11) rfl ?_)
    refine L_o rfl rfl rfl (O_alloc fun b16 => ?_)
    refine XB ?_
    refine J_flo [0,1,5,9] [0,1,2,4,5,6] [⟨8, 17, 24, [.int .u64 0, .int .u64 0, .int .u64 0, .int .u64 0]⟩, ⟨9, 18, 24, [.int .u64 0, .int .u64 0, .int .u64 0, .int .u64 0]⟩] [(false, 0), (false, 1), (false, 2), (false, 4), (false, 5), (false, 6), (true, 3), (true, 7)] (.loud 10 (.loud 11 .done)) Tryz.mixed (by kernel_rfl) (by kernel_rfl) (by repeat (first | exact retQ_noP | refine seqQ_noP ?_ | refine blockQ_noP ?_ | refine loopQ_noP ?_ | refine scopeQ_noP ?_ | (intro _ _ _ h; cases h.1))) (List.forall_mem_cons.2 ⟨AlOk.of rfl rfl rfl, (List.forall_mem_cons.2 ⟨AlOk.of rfl rfl rfl, (List.forall_mem_nil _)⟩)⟩) rfl ?_
    refine F_q (Ent.re [0,1,5,9] rfl) rfl (Q_ldA 3 rfl rfl rfl) rfl rfl rfl ?_
    refine F_q (Ent.re [0,1,5,9] rfl) rfl (Q_ldA 0 rfl rfl rfl) rfl rfl rfl ?_
    refine F_q (Ent.re [0,1,5,9] rfl) rfl (Q_ldA 1 rfl rfl rfl) rfl rfl rfl ?_
    refine F_q (Ent.re [0,1,5,9] rfl) rfl (Q_ldA 3 rfl rfl rfl) rfl rfl rfl ?_
    refine F_q (Ent.re [0,1,5,9] rfl) rfl (Q_ldA 2 rfl rfl rfl) rfl rfl rfl ?_
    refine F_q (Ent.re [0,1,5,9] rfl) rfl (Q_ldA 0 rfl rfl rfl) rfl rfl rfl ?_
    refine F_o (Ent.re [0,1,5,9] rfl) rfl rfl rfl rfl fun X => O_callP (m12) rfl ⟨_, _, rfl, fun _ => ⟨(Ent.re [0,1,5,9] rfl), Ent.refl _⟩, ?_⟩
    refine F_o (Ent.re [0,1,5,9] rfl) rfl rfl rfl rfl fun X => O_callP (m13) rfl ⟨_, _, rfl, fun _ => ⟨(Ent.re [0,1,5,9] rfl), Ent.refl _⟩, ?_⟩
    refine F_nil (Ent.re [0,1,5,9] rfl) (land2 fun b17 b18 => ?_)
    refine Xa2 ?_
    refine J_flo [0,1,4,11,15] [0,1,2,3,4,6,8,9] [⟨12, 19, 24, [.int .u64 0, .int .u64 0, .int .u64 0, .int .u64 0]⟩] [(false, 0), (false, 1), (false, 2), (false, 3), (false, 4), (false, 6), (false, 8), (false, 9), (true, 5), (true, 7), (true, 10), (true, 11)] (.loud 13 .done) Tryz.mixed (by kernel_rfl) (by kernel_rfl) (by repeat (first | exact retQ_noP | refine seqQ_noP ?_ | refine blockQ_noP ?_ | refine loopQ_noP ?_ | refine scopeQ_noP ?_ | (intro _ _ _ h; cases h.1))) (List.forall_mem_cons.2 ⟨AlOk.of rfl rfl rfl, (List.forall_mem_nil _)⟩) rfl ?_
    refine Xfa ?_
    refine Xfa ?_
    refine Xfa ?_
    refine F_q (Ent.re [0,1,4,11,15] rfl) rfl (Q_ldA 2 rfl rfl rfl) rfl rfl rfl ?_
    refine F_q (Ent.re [0,1,4,11,15] rfl) rfl (Q_ldA 2 rfl rfl rfl) rfl rfl rfl ?_
    refine F_q (Ent.re [0,1,4,11,15] rfl) rfl (Q_ldA 0 rfl rfl rfl) rfl rfl rfl ?_
    refine F_q (Ent.re [0,1,4,11,15] rfl) rfl (Q_ldA 4 rfl rfl rfl) rfl rfl rfl ?_
    refine F_q (Ent.re [0,1,4,11,15] rfl) rfl (Q_ldA 1 rfl rfl rfl) rfl rfl rfl ?_
    refine F_o (Ent.re [0,1,4,11,15] rfl) rfl rfl rfl rfl fun X => O_callP (m14) rfl ⟨_, _, rfl, fun _ => ⟨(Ent.re [0,1,4,11,15] rfl), Ent.refl _⟩, ?_⟩
    refine F_o (Ent.re [0,1,4,11,15] rfl) rfl rfl rfl rfl fun X => O_callP (m15) rfl ⟨_, _, rfl, fun _ => ⟨(Ent.re [0,1,4,11,15] rfl), Ent.refl _⟩, ?_⟩
    refine F_o (Ent.re [0,1,4,11,15] rfl) rfl rfl rfl rfl fun X => O_callP (m16) rfl ⟨_, _, rfl, fun _ => ⟨(Ent.re [0,1,4,11,15] rfl), Ent.refl _⟩, ?_⟩
    refine F_o (Ent.re [0,1,4,11,15] rfl) rfl rfl rfl rfl fun X => O_callP (m17) rfl ⟨_, _, rfl, fun _ => ⟨(Ent.re [0,1,4,11,15] rfl), Ent.refl _⟩, ?_⟩
    refine F_nil (Ent.re [0,1,4,11,15] rfl) (land1 fun b19 => ?_)
    refine Xar ?_
    refine J_flo [0,1,2,5,6,12] [0,1,2,3,4,5,8,9,10] [⟨13, 20, 24, [.int .u64 0, .int .u64 0, .int .u64 0, .int .u64 0]⟩] [(false, 0), (false, 1), (false, 2), (false, 3), (false, 4), (false, 5), (false, 8), (false, 9), (false, 10), (true, 6), (true, 7), (true, 11), (true, 12)] (.loud 14 .done) Tryz.mixed (by kernel_rfl) (by kernel_rfl) (by repeat (first | exact retQ_noP | refine seqQ_noP ?_ | refine blockQ_noP ?_ | refine loopQ_noP ?_ | refine scopeQ_noP ?_ | (intro _ _ _ h; cases h.1))) (List.forall_mem_cons.2 ⟨AlOk.of rfl rfl rfl, (List.forall_mem_nil _)⟩) rfl ?_
    refine Xel ?_
    refine Xel ?_
    refine F_q (Ent.re [0,1,2,5,6,12] rfl) rfl (Q_ldA 3 rfl rfl rfl) rfl rfl rfl ?_
    refine Xel ?_
    refine F_q (Ent.re [0,1,2,5,6,12] rfl) rfl (Q_ldA 2 rfl rfl rfl) rfl rfl rfl ?_
    refine F_q (Ent.re [0,1,2,5,6,12] rfl) rfl (Q_ldA 0 rfl rfl rfl) rfl rfl rfl ?_
    refine Xel ?_
    refine F_q (Ent.re [0,1,2,5,6,12] rfl) rfl (Q_ldA 4 rfl rfl rfl) rfl rfl rfl ?_
    refine F_q (Ent.re [0,1,2,5,6,12] rfl) rfl (Q_ldA 1 rfl rfl rfl) rfl rfl rfl ?_
    refine F_o (Ent.re [0,1,2,5,6,12] rfl) rfl rfl rfl rfl fun X => O_callP (m18) rfl ⟨_, _, rfl, fun _ => ⟨(Ent.re [0,1,2,5,6,12] rfl), Ent.refl _⟩, ?_⟩
    refine F_o (Ent.re [0,1,2,5,6,12] rfl) rfl rfl rfl rfl fun X => O_callP (m19) rfl ⟨_, _, rfl, fun _ => ⟨(Ent.re [0,1,2,5,6,12] rfl), Ent.refl _⟩, ?_⟩
    refine F_o (Ent.re [0,1,2,5,6,12] rfl) rfl rfl rfl rfl fun X => O_callP (m20) rfl ⟨_, _, rfl, fun _ => ⟨(Ent.re [0,1,2,5,6,12] rfl), Ent.refl _⟩, ?_⟩
    refine F_o (Ent.re [0,1,2,5,6,12] rfl) rfl rfl rfl rfl fun X => O_callP (m21) rfl ⟨_, _, rfl, fun _ => ⟨(Ent.re [0,1,2,5,6,12] rfl), Ent.refl _⟩, ?_⟩
    refine F_nil (Ent.re [0,1,2,5,6,12] rfl) (land1 fun b20 => ?_)
    refine Xar ?_
    refine DH [0,1,5,13,15,16] [0,1,2,3,4,5,6,7,8,11] (.quiet 0 (.quiet 1 (.quiet 2 (.quiet 3 (.quiet 4 (.quiet 5 (.quiet 6 (.quiet 7 (.quiet 8 (.loud 9 (.loud 10 (.quiet 11 (.loud 12 .done))))))))))))) Tryz.mixed ?_
    refine Sq (Ent.re [0,1,5,13,15,16] rfl) rfl (Q_ldA 1 rfl rfl rfl) ?_
    refine Sq (Ent.re [0,1,5,13,15,16] rfl) rfl (Q_ldA 0 rfl rfl rfl) ?_
    refine Sq (Ent.re [0,1,5,13,15,16] rfl) rfl (Q_ldA 3 rfl rfl rfl) ?_
    refine Sq (Ent.re [0,1,5,13,15,16] rfl) rfl (Q_ldA 2 rfl rfl rfl) ?_
    refine Sq (Ent.re [0,1,5,13,15,16] rfl) rfl (Q_ldA 3 rfl rfl rfl) ?_
    refine Sq (Ent.re [0,1,5,13,15,16] rfl) rfl (Q_fa0 rfl) ?_
    refine Sq (Ent.re [0,1,5,13,15,16] rfl) rfl (Q_ldA 5 rfl rfl rfl) ?_
    refine Sq (Ent.re [0,1,5,13,15,16] rfl) rfl (Q_fa0 rfl) ?_
    refine Sq (Ent.re [0,1,5,13,15,16] rfl) rfl (Q_ldA 4 rfl rfl rfl) ?_
    refine S_o rfl rfl rfl rfl (O_callP (m22) rfl ⟨_, fun _ => ⟨Ent.reN [0,1,5,13,15,16] rfl, Ent.refl _⟩, ?_⟩)
    refine Xa ?_
    refine S_o rfl rfl rfl rfl (O_callP (m23) rfl ⟨_, fun _ => ⟨Ent.reN [0,1,5,13,15,16] rfl, Ent.refl _⟩, ?_⟩)
    refine Xa ?_
    refine Sq (Ent.re [0,1,5,13,15,16] rfl) rfl (Q_build rfl) ?_
    refine S_s rfl rfl rfl (O_stW 14 rfl rfl rfl rfl ⟨[], free_no (by kernel_rfl), ?_⟩)
    refine Xbg ?_
    refine J_ret ?_
    exact retQ_ret _ [] (.cons (RV_cell 14 rfl rfl rfl rfl) .nil) ⟨rfl, rfl⟩ (Ent.re [18] rfl)
/-- A point of the curve, as the code begins with it. -/
def jin : Option (Ec.Af Nt.pP) → Jq
 | none => jz
 | some P => ⟨P.x, P.y, 1⟩
theorem jin_ok (A : Option (Ec.Af Nt.pP)) : Does Tryz.prog E 176 [cuV, (pwO A).v] [] fun r L => r = jv (jin A) ∧ L = [] := by
 cases A with
 | none =>
  rw [show jv (jin none) = .agg #[u64 0, u64 0, u64 0, u64 0, u64 0, u64 0, u64 0, u64 0, u64 0, u64 0, u64 0, u64 0] by unfold jv jin; dsimp only; rw [jz_l]]
  refine Does.of Tryz.func176 rfl Tryz.ntmps176 rfl rfl fun F => ?_
  refine Xb ?_
  refine L_o rfl rfl rfl (O_box rfl fun b2 => ?_)
  refine L_o rfl rfl rfl (O_box rfl fun b3 => ?_)
  refine L_o rfl rfl rfl (O_alloc fun b4 => ?_)
  refine Xt ?_
  refine X3 ?_
  refine XE ?_
  refine Xm ?_
  refine XW ?_
  refine Xbh ?_
  exact Xc8
 | some P =>
  have h1 := inM E (wf P.x) (wf_ok _)
  have h2 := inM E (wf P.y) (wf_ok _)
  rw [fv_wf] at h1 h2
  refine Does.of Tryz.func176 rfl Tryz.ntmps176 rfl rfl fun F => ?_
  refine Xb ?_
  refine L_o rfl rfl rfl (O_box rfl fun b2 => ?_)
  refine L_o rfl rfl rfl (O_box rfl fun b3 => ?_)
  refine L_o rfl rfl rfl (O_alloc fun b4 => ?_)
  refine Xt ?_
  refine X3 ?_
  refine XE ?_
  refine Xay ?_
  refine DH [1,2] [0,1,2,3,5,6,7,8,10,11,12] (.quiet 0 (.quiet 1 (.quiet 2 (.quiet 3 (.quiet 5 (.quiet 6 (.quiet 7 (.quiet 8 (.quiet 10 (.quiet 11 (.loud 4 (.loud 9 (.quiet 12 (.loud 13 .done)))))))))))))) Tryz.mixed ?_
  refine Xdg ?_
  refine XdZ ?_
  refine Xdg ?_
  refine XdZ ?_
  refine Xdg ?_
  refine S_o rfl rfl rfl rfl (O_callP (h1) rfl ⟨_, fun _ => ⟨Ent.reN [1,2] rfl, Ent.refl _⟩, ?_⟩)
  refine Xa ?_
  refine S_o rfl rfl rfl rfl (O_callP (h2) rfl ⟨_, fun _ => ⟨Ent.reN [1,2] rfl, Ent.refl _⟩, ?_⟩)
  refine Xa ?_
  refine Sq (Ent.re [1,2] rfl) rfl (Q_build rfl) ?_
  refine Xau ?_
  refine Xu ?_
  exact Xda
theorem scaled_ok (j : Jq) (i : Fp) : Does Tryz.prog E 130 [cuV, jv j, (mw i).v] [] fun r L => r = (pwA ⟨j.X * (i * i), j.Y * (i * i * i)⟩).v ∧ L = [] := by
 obtain ⟨X, Y, Z⟩ := j
 have m1 := mulM E i i
 generalize hii : i * i = ii at *
 have m2 := mulM E X ii
 have m3 := outM E (X * ii)
 have m4 := mulM E ii i
 have m5 := mulM E Y (ii * i)
 have m6 := outM E (Y * (ii * i))
 refine Does.of Tryz.func130 rfl Tryz.ntmps130 rfl rfl fun F => ?_
 refine Xb ?_
 refine L_o rfl rfl rfl (O_box rfl fun b3 => ?_)
 refine L_o rfl rfl rfl (O_box rfl fun b4 => ?_)
 refine L_o rfl rfl rfl (O_box rfl fun b5 => ?_)
 refine L_o rfl rfl rfl (O_alloc fun b6 => ?_)
 refine Ln ?_
 refine X3 ?_
 refine Xa5 ?_
 refine XI ?_
 refine XI ?_
 refine L_o rfl rfl rfl (O_callP (m1) rfl ?_)
 refine L_o rfl rfl rfl (O_alloc fun b7 => ?_)
 refine XB ?_
 refine DH [0,2,3,4] [0,1,2,3,4,5,6,9,10,11,12,13,14,15,16,17,18,22] (.quiet 0 (.quiet 1 (.quiet 2 (.quiet 3 (.quiet 4 (.quiet 5 (.quiet 6 (.quiet 9 (.quiet 10 (.quiet 11 (.quiet 12 (.quiet 13 (.quiet 14 (.quiet 15 (.quiet 16 (.quiet 17 (.quiet 18 (.loud 7 (.loud 8 (.loud 19 (.loud 20 (.loud 21 (.quiet 22 (.loud 23 .done)))))))))))))))))))))))) Tryz.mixed ?_
 refine Xdc ?_
 refine Xdc ?_
 refine Sq (Ent.re [0,2,3,4] rfl) rfl (Q_fa0 rfl) ?_
 refine Sq (Ent.re [0,2,3,4] rfl) rfl (Q_ldA 2 rfl rfl rfl) ?_
 refine Sq (Ent.re [0,2,3,4] rfl) rfl (Q_ldA 0 rfl rfl rfl) ?_
 refine Xdc ?_
 refine Xdc ?_
 refine Sq (Ent.re [0,2,3,4] rfl) rfl (Q_fa0 rfl) ?_
 refine Sq (Ent.re [0,2,3,4] rfl) rfl (Q_ldA 2 rfl rfl rfl) ?_
 refine Xdc ?_
 refine Sq (Ent.re [0,2,3,4] rfl) rfl (Q_ldA 0 rfl rfl rfl) ?_
 refine Sq (Ent.re [0,2,3,4] rfl) rfl (Q_ldA 1 rfl rfl rfl) ?_
 refine S_o rfl rfl rfl rfl (O_callP (m2) rfl ⟨_, fun _ => ⟨Ent.reN [0,2,3,4] rfl, Ent.refl _⟩, ?_⟩)
 refine Xa ?_
 refine S_o rfl rfl rfl rfl (O_callP (m3) rfl ⟨_, fun _ => ⟨Ent.reN [0,2,3,4] rfl, Ent.refl _⟩, ?_⟩)
 refine Xa ?_
 refine S_o rfl rfl rfl rfl (O_callP (m4) rfl ⟨_, fun _ => ⟨Ent.reN [0,2,3,4] rfl, Ent.refl _⟩, ?_⟩)
 refine Xa ?_
 refine S_o rfl rfl rfl rfl (O_callP (m5) rfl ⟨_, fun _ => ⟨Ent.reN [0,2,3,4] rfl, Ent.refl _⟩, ?_⟩)
 refine Xa ?_
 refine S_o rfl rfl rfl rfl (O_callP (m6) rfl ⟨_, fun _ => ⟨Ent.reN [0,2,3,4] rfl, Ent.refl _⟩, ?_⟩)
 refine Xa ?_
 refine Sq (Ent.re [0,2,3,4] rfl) rfl (Q_build rfl) ?_
 refine Xbd ?_
 exact XdU
theorem jout_ok (j : Jq) (A : Pt) (h : Ec.Rep j A.p) : Does Tryz.prog E 77 [cuV, jv j] [] fun r L => r = (pw A).v ∧ L = [] := by
 have hz := eqvN (mw_ok j.Z) z4_ok
 rw [mw_z] at hz
 rcases h with ⟨h0, hA⟩ | ⟨h0, P, hP, hX, hY⟩
 ·rw [decide_eq_true h0] at hz
  rw [pw_none hA]
  obtain ⟨X, Y, Z⟩ := j
  refine Does.of Tryz.func77 rfl Tryz.ntmps77 rfl rfl fun F => ?_
  refine Xb ?_
  refine L_o rfl rfl rfl (O_box rfl fun b2 => ?_)
  refine L_o rfl rfl rfl (O_box rfl fun b3 => ?_)
  refine L_o rfl rfl rfl (O_alloc fun b4 => ?_)
  refine Xt ?_
  refine XbS ?_
  refine XbR ?_
  refine Xm ?_
  refine XW ?_
  refine Xbh ?_
  exact Xc8
 ·rw [decide_eq_false h0] at hz
  rw [pw_some hP]
  have hne : j.Z * RF ≠ 0 := Ec.Fld.mul0 KP h0 RF_ne
  have hi := fiv_mul hne
  have h1 := invM E (j.Z * RF)
  have h2 := inM E (wf (fiv (j.Z * RF))) (wf_ok _)
  rw [fv_wf] at h2
  have h3 := inM E (mw (fiv (j.Z * RF))) (mw_ok _)
  rw [fv_mw] at h3
  have e1 : j.Z * (fiv (j.Z * RF) * RF) = 1 := by rw [← hi]; grobner
  generalize fiv (j.Z * RF) = q at *
  generalize q * RF = i at *
  obtain ⟨o1, o2⟩ := Ec.rep_out (.inr ⟨h0, P, rfl, hX, hY⟩) e1
  have h4 := scaled_ok E j i
  rw [show (⟨j.X * (i * i), j.Y * (i * i * i)⟩ : Ec.Af Nt.pP) = P from Ec.Af.ext o1 o2] at h4
  have h1' : Does Tryz.prog E 129 [mPV, (mw j.Z).v] [] fun r L => r = (wf q).v ∧ L = [] := h1
  clear h1
  obtain ⟨X, Y, Z⟩ := j
  refine Does.of Tryz.func77 rfl Tryz.ntmps77 rfl rfl fun F => ?_
  refine Xb ?_
  refine L_o rfl rfl rfl (O_box rfl fun b2 => ?_)
  refine L_o rfl rfl rfl (O_box rfl fun b3 => ?_)
  refine L_o rfl rfl rfl (O_alloc fun b4 => ?_)
  refine Xt ?_
  refine XbS ?_
  refine XbR ?_
  refine Xay ?_
  refine J_flo [1,2] [0,1,2,3,4,5,6,7] [⟨11, 5, 24, [.int .u64 0, .int .u64 0, .int .u64 0, .int .u64 0]⟩] [(false, 0), (false, 1), (false, 2), (false, 3), (false, 4), (false, 5), (false, 6), (false, 7), (true, 8), (true, 9), (true, 10)] (.loud 12 .done) Tryz.mixed (by kernel_rfl) (by kernel_rfl) (by repeat (first | exact retQ_noP | refine seqQ_noP ?_ | refine blockQ_noP ?_ | refine loopQ_noP ?_ | refine scopeQ_noP ?_ | (intro _ _ _ h; cases h.1))) (List.forall_mem_cons.2 ⟨AlOk.of rfl rfl rfl, (List.forall_mem_nil _)⟩) rfl ?_
  refine XeL ?_
  refine XeL ?_
  refine XeL ?_
  refine F_q (Ent.re [1,2] rfl) rfl (Q_fa0 rfl) rfl rfl rfl ?_
  refine F_q (Ent.re [1,2] rfl) rfl (Q_ldA 0 rfl rfl rfl) rfl rfl rfl ?_
  refine F_o (Ent.re [1,2] rfl) rfl rfl rfl rfl fun X => O_callP (h1') rfl ⟨_, _, rfl, fun _ => ⟨(Ent.re [1,2] rfl), Ent.refl _⟩, ?_⟩
  refine F_o (Ent.re [1,2] rfl) rfl rfl rfl rfl fun X => O_callP (h2) rfl ⟨_, _, rfl, fun _ => ⟨(Ent.re [1,2] rfl), Ent.refl _⟩, ?_⟩
  refine F_o (Ent.re [1,2] rfl) rfl rfl rfl rfl fun X => O_callP (h3) rfl ⟨_, _, rfl, fun _ => ⟨(Ent.re [1,2] rfl), Ent.refl _⟩, ?_⟩
  refine F_nil (Ent.re [1,2] rfl) (land1 fun b5 => ?_)
  refine Xau ?_
  refine Xu ?_
  refine Sr ?_
  refine Xa5 ?_
  refine X0 ?_
  refine X1 ?_
  refine L_o rfl rfl rfl (O_callP (h4) rfl ?_)
  refine XaH ?_
  exact XdH
end
end Go.Proofs
