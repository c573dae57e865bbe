/- Part 19 of the texts below the row: Num16, PrimP, Num17, Num20. -/
import Derived.Test.YtdggicfcpcjjlaaGreatDoorM1
import Derived.Test.YtdggicfcpcjjlaaGreatDoorM11
import Derived.Test.YtdggicfcpcjjlaaGreatDoorM13
import Derived.Test.YtdggicfcpcjjlaaGreatDoorM16
import Derived.Test.YtdggicfcpcjjlaaGreatDoorM17
import Derived.Test.YtdggicfcpcjjlaaGreatDoorM18
/- Modulo an odd prime: inverses. -/
set_option autoImplicit false
namespace Go.Proofs
open Go.SL
structure Inv4 where
 u : Nat
 v : Nat
 x : Nat
 y : Nat
def invW (m a : W4) : W4 := if a.n = 0 then a else W4.of (Nt.invN m.n a.n)
theorem hlf_of {m : W4} {x : Nat} (hx : x < 115792089237316195423570985008687907853269984665640564039457584007913129639936) : W4.of (if (W4.of x).n % 2 = 0 then (W4.of x).n / 2 else ((W4.of x).n + m.n) / 2) = W4.of (Nt.hlf m.n x) := by
 rw [W4.n_of hx]; rfl
theorem half_of {u : Nat} (hu : u < 115792089237316195423570985008687907853269984665640564039457584007913129639936) : halfW (W4.of u) false 4 = W4.of (u / 2) :=
 of_eq (halfW_ok (W4.of_ok _) _) (by rw [halfW_n (W4.of_ok _), W4.n_of hu]; rfl)
theorem sub_of {u v : Nat} (hu : u < 115792089237316195423570985008687907853269984665640564039457584007913129639936) (hv : v ≤ u) : subW (W4.of u) (W4.of v) = W4.of (u - v) := by
 have hs := subW_n (W4.of_ok u) (W4.of_ok v)
 rw [W4.n_of hu, W4.n_of (Nat.lt_of_le_of_lt hv hu)] at hs
 have h1 := W4.lt (subW_ok (W4.of u) (W4.of v))
 exact of_eq (subW_ok _ _) (by omega)
theorem mul_red {M rr ri R a b : Nat} (h1 : rr * ri % M = R % M) (h2 : R * ri % M = 1 % M) : a * rr * ri % M * b * ri % M = a * b % M := by
 have e1 : a * rr * ri % M * b * ri % M = a * rr * ri * b * ri % M := by
  rw [Nat.mul_assoc (a * rr * ri % M), Nat.mul_mod (a * rr * ri % M), Nat.mod_mod, ← Nat.mul_mod, ← Nat.mul_assoc]
 have e2 : a * rr * ri * b * ri = a * b * (rr * ri * ri) := by simp only [Nat.mul_comm, Nat.mul_left_comm]
 have e3 : rr * ri * ri % M = 1 % M := by rw [Nat.mul_mod, h1, ← Nat.mul_mod, h2]
 rw [e1, e2, Nat.mul_mod, e3, ← Nat.mul_mod, Nat.mul_one]
theorem inv_zero {M : Nat} (h : 2 < M) : Nt.invN M 0 = 0 := by
 unfold Nt.invN
 obtain ⟨k, rfl⟩ : ∃ k, M = k + 3 := ⟨M - 3, by omega⟩
 rw [show k + 3 - 2 = k + 1 from rfl, Nat.pow_succ, Nat.mul_zero, Nat.zero_mod]
theorem low_of (u : Nat) : (W4.of u).a % 2 = u % 2 := by unfold W4.of; dsimp only; omega
theorem eq_one {u : Nat} (hu : u < 115792089237316195423570985008687907853269984665640564039457584007913129639936) : decide ((W4.of u).n = one4.n) = decide (u = 1) := by rw [W4.n_of hu]; rfl
theorem of_1 : W4.of 1 = one4 := rfl
theorem of_0 : W4.of 0 = ⟨0, 0, 0, 0⟩ := rfl
theorem one4_ok : one4.ok := by constructor <;> decide
theorem W4.sub_n {m : W4} {x y : Nat} (hx : x < 115792089237316195423570985008687907853269984665640564039457584007913129639936) (hy : y < 115792089237316195423570985008687907853269984665640564039457584007913129639936) : ((W4.of x).n + m.n - (W4.of y).n) % m.n = (x + m.n - y) % m.n := by rw [W4.n_of hx, W4.n_of hy]
attribute [local irreducible] J JL QOp JOp seqQ blockQ loopQ retQ slc cel hex star pur stars Does RV Ent pAt scopeQ
theorem minvE (E : World) (m rr a : W4) (N : Nat) (hm : m.ok) (hP : Nt.Pr m.n) (h2 : 2 < m.n) (hodd : m.n % 2 = 1) (ha : a.ok) (hl : a.n < m.n) : Does Tryz.prog E 129 [modV m N rr, a.v] [] fun r L => r = (invW m a).v ∧ L = [] := by
 have lm := W4.lt hm
 have hz0 : (⟨0, 0, 0, 0⟩ : W4).ok := by constructor <;> decide
 have he := eqvN ha hz0
 have e0 : (⟨0, 0, 0, 0⟩ : W4).n = 0 := rfl
 rw [e0] at he
 by_cases h0 : a.n = 0
 ·rw [decide_eq_true h0] at he
  unfold invW
  rw [if_pos h0]
  refine Does.of Tryz.func129 rfl Tryz.ntmps129 rfl rfl fun F => ?_
  refine Xb ?_
  refine L_o rfl rfl rfl (O_box rfl fun b2 => ?_)
  refine L_o rfl rfl rfl (O_box rfl fun b3 => ?_)
  refine L_o rfl rfl rfl (O_alloc fun b4 => ?_)
  refine Xt ?_
  refine XM ?_
  refine Xk ?_
  refine Lq (Q_geql eqgN he rfl rfl) ?_
  refine Xm ?_
  refine XM ?_
  refine Xbh ?_
  exact Xc8
 ·rw [decide_eq_false h0] at he
  haveI : NeZero m.n := ⟨by omega⟩
  have K := Nt.fld hP h2
  have hna : ¬ m.n ∣ a.n := fun h => by have := Nat.le_of_dvd (by omega) h; omega
  unfold invW
  rw [if_neg h0]
  refine Does.of Tryz.func129 rfl Tryz.ntmps129 rfl rfl fun F => ?_
  refine Xb ?_
  refine L_o rfl rfl rfl (O_box rfl fun b2 => ?_)
  refine L_o rfl rfl rfl (O_box rfl fun b3 => ?_)
  refine L_o rfl rfl rfl (O_alloc fun b4 => ?_)
  refine Xt ?_
  refine XM ?_
  refine Xk ?_
  refine Lq (Q_geql eqgN he rfl rfl) ?_
  refine Xy ?_
  refine XW ?_
  refine L_o rfl rfl rfl (O_alloc fun b5 => ?_)
  refine XB ?_
  refine J_flo [0,2,3] [0,1,2,3,4] [⟨5, 6, 24, [.int .u64 0, .int .u64 0, .int .u64 0, .int .u64 0]⟩, ⟨6, 7, 24, [.int .u64 0, .int .u64 0, .int .u64 0, .int .u64 0]⟩, ⟨7, 8, 24, [.int .u64 0, .int .u64 0, .int .u64 0, .int .u64 0]⟩, ⟨8, 9, 24, [.int .u64 0, .int .u64 0, .int .u64 0, .int .u64 0]⟩] [(false, 0), (false, 1), (false, 2), (false, 3), (false, 4)] (.loud 9 (.loud 10 (.loud 11 (.loud 12 .done)))) Tryz.mixed (by kernel_rfl) (by kernel_rfl) (by repeat (first | exact retQ_noP | refine seqQ_noP ?_ | refine blockQ_noP ?_ | refine loopQ_noP ?_ | refine scopeQ_noP ?_ | (intro _ _ _ h; cases h.1))) (List.forall_mem_cons.2 ⟨AlOk.of rfl rfl rfl, (List.forall_mem_cons.2 ⟨AlOk.of rfl rfl rfl, (List.forall_mem_cons.2 ⟨AlOk.of rfl rfl rfl, (List.forall_mem_cons.2 ⟨AlOk.of rfl rfl rfl, (List.forall_mem_nil _)⟩)⟩)⟩)⟩) rfl ?_
  refine F_q (Ent.re [0,2,3] rfl) rfl (Q_ldA 1 rfl rfl rfl) rfl rfl rfl ?_
  refine Xd4 ?_
  refine F_q (Ent.re [0,2,3] rfl) rfl (Q_build rfl) rfl rfl rfl ?_
  refine F_nil (Ent.re [0,2,3] rfl) (land4 fun b6 b7 b8 b9 => ?_)
  refine S_s rfl rfl rfl (O_stW 0 rfl rfl rfl rfl ⟨_, fun _ => ⟨Ent.reN [4,6,7] rfl, Ent.refl _⟩, ?_⟩)
  refine Xa ?_
  refine S_s rfl rfl rfl (O_stW 1 rfl rfl rfl rfl ⟨_, fun _ => ⟨Ent.reN [4,6,7] rfl, Ent.refl _⟩, ?_⟩)
  refine Xa ?_
  refine S_s rfl rfl rfl (O_stW 2 rfl rfl rfl rfl ⟨_, fun _ => ⟨Ent.reN [4,6,7] rfl, Ent.refl _⟩, ?_⟩)
  refine Xa ?_
  refine Xe8 ?_
  refine Xbg ?_
  refine X5 ?_
  refine J_loop (fun i : Inv4 => Nt.Iv m.n a.n i.u i.v i.x i.y) (fun _ => [(2, .pointer (some ⟨b2, 0, none⟩)), (4, .pointer (some ⟨b4, 0, none⟩)), (5, .pointer (some ⟨b5, 0, none⟩)), (6, .pointer (some ⟨b6, 0, none⟩)), (7, .pointer (some ⟨b7, 0, none⟩)), (8, .pointer (some ⟨b8, 0, none⟩)), (9, .pointer (some ⟨b9, 0, none⟩))]) (fun i => [cel b6 (W4.of i.u).l 24, cel b7 (W4.of i.v).l 24, cel b8 (W4.of i.x).l 24, cel b9 (W4.of i.y).l 24, cel b5 one4.l 24, cel b4 [u64 0, u64 0, u64 0, u64 0] 24, cel b3 a.l 24, cel b2 (modL m N rr) 143, F]) (fun i => i.u + i.v) ⟨a.n, m.n, 1, 0⟩ (Nt.Iv.start hP h2 (by omega) hl) ⟨rfl, rfl, rfl, rfl, rfl, rfl, rfl, trivial⟩ (by dsimp only; rw [W4.of_n ha, W4.of_n hm, of_1, of_0]; exact Ent.refl _) ?_
  intro i hI
  obtain ⟨u, v, x, y⟩ := i
  dsimp only at hI ⊢
  have l1 : u < 115792089237316195423570985008687907853269984665640564039457584007913129639936 := Nat.lt_of_le_of_lt hI.uM lm
  have l2 : v < 115792089237316195423570985008687907853269984665640564039457584007913129639936 := Nat.lt_of_le_of_lt hI.vM lm
  have l3 : x < 115792089237316195423570985008687907853269984665640564039457584007913129639936 := Nat.lt_trans hI.xM lm
  have l4 : y < 115792089237316195423570985008687907853269984665640564039457584007913129639936 := Nat.lt_trans hI.yM lm
  have q1 := eqvN (W4.of_ok u) one4_ok
  have q2 := eqvN (W4.of_ok v) one4_ok
  rw [eq_one l1] at q1
  rw [eq_one l2] at q2
  by_cases hu1 : u = 1
  ·rw [decide_eq_true hu1] at q1
   have hx := ((Nt.Iv.done hP h2 hna hI).1 hu1)
   rw [← hx]
   refine J_seq ?_
   refine Xo ?_
   refine XaU ?_
   refine Lq ((Q_gneq eqgN q1 rfl rfl).as (v' := .bool false) rfl) ?_
   refine Xcv ?_
   refine Xp ?_
   refine X2 ?_
   refine XaA ?_
   refine J_seq ?_
   refine Xo ?_
   refine XaU ?_
   refine Lq (Q_geql eqgN q1 rfl rfl) ?_
   refine Xm ?_
   refine XZ ?_
   refine Xdx ?_
   refine Xr ?_
   refine Xa1 ?_
   exact Xf2
  ·rw [decide_eq_false hu1] at q1
   by_cases hv1 : v = 1
   ·rw [decide_eq_true hv1] at q2
    have hy := ((Nt.Iv.done hP h2 hna hI).2 hv1)
    rw [← hy]
    refine J_seq ?_
    refine Xo ?_
    refine XaU ?_
    refine Lq ((Q_gneq eqgN q1 rfl rfl).as (v' := .bool true) rfl) ?_
    refine Xd ?_
    refine XI ?_
    refine XaU ?_
    refine Lq ((Q_gneq eqgN q2 rfl rfl).as (v' := .bool false) rfl) ?_
    refine Xah ?_
    refine X2 ?_
    refine XaA ?_
    refine J_seq ?_
    refine Xo ?_
    refine XaU ?_
    refine Lq (Q_geql eqgN q1 rfl rfl) ?_
    refine Xy ?_
    refine Sr ?_
    refine Xa5 ?_
    refine Xdx ?_
    refine Xr ?_
    refine J_ret ?_
    exact Xf2
   ·rw [decide_eq_false hv1] at q2
    have p1 := hI.u0
    have p2 := hI.v0
    refine J_seq ?_
    refine Xo ?_
    refine XaU ?_
    refine Lq ((Q_gneq eqgN q1 rfl rfl).as (v' := .bool true) rfl) ?_
    refine Xd ?_
    refine XI ?_
    refine XaU ?_
    refine Lq ((Q_gneq eqgN q2 rfl rfl).as (v' := .bool true) rfl) ?_
    refine Xah ?_
    refine Ln ?_
    refine J_condT rfl ?_
    refine XS ?_
    refine J_block ?_
    refine J_block ?_
    refine J_seq ?_
    by_cases hue : u % 2 = 0
    ·have hh := lhalf_ok E (W4.of u) false (W4.of_ok u)
     have hd := mhalved_ok E m rr (W4.of x) N hm (W4.of_ok x)
     rw [half_of l1] at hh
     rw [hlf_of l3] at hd
     refine Xh ?_
     refine Xfv ?_
     refine Lq ((Q_eql rfl rfl).as (v' := .bool true) (congrArg Value.bool (decide_eq_true ((by have := low_of u; omega))))) ?_
     refine XaR ?_
     refine DH [0,2,7] [0,2,3] (.quiet 0 (.quiet 2 (.quiet 3 (.loud 1 (.loud 4 (.loud 5 (.loud 6 .done))))))) Tryz.mixed ?_
     refine Sq (Ent.re [0,2,7] rfl) rfl (Q_ldA 0 rfl rfl rfl) ?_
     refine Sq (Ent.re [0,2,7] rfl) rfl (Q_ldA 2 rfl rfl rfl) ?_
     refine Sq (Ent.re [0,2,7] rfl) rfl (Q_ldA 1 rfl rfl rfl) ?_
     refine S_o rfl rfl rfl rfl (O_callP (hh) rfl ⟨_, fun _ => ⟨Ent.reN [0,2,7] rfl, Ent.refl _⟩, ?_⟩)
     refine Xa ?_
     refine S_o rfl rfl rfl rfl (O_callP (hd) rfl ⟨[], free_no (by kernel_rfl), ?_⟩)
     refine Xa ?_
     refine Xau ?_
     refine Xcq ?_
     refine S_nil ?_
     refine Xeg ?_
     exact loopQ_normal ⟨u / 2, v, Nt.hlf m.n x, y⟩ (hI.hu K hodd hue) (by dsimp only; omega) ⟨rfl, rfl, rfl, rfl, rfl, rfl, rfl, trivial⟩ (Ent.refl _)
    ·skip
     refine Xh ?_
     refine Xfv ?_
     refine Lq ((Q_eql rfl rfl).as (v' := .bool false) (congrArg Value.bool (decide_eq_false ((by have := low_of u; omega))))) ?_
     refine XF ?_
     refine J_seq ?_
     by_cases hve : v % 2 = 0
     ·have hh := lhalf_ok E (W4.of v) false (W4.of_ok v)
      have hd := mhalved_ok E m rr (W4.of y) N hm (W4.of_ok y)
      rw [half_of l2] at hh
      rw [hlf_of l4] at hd
      refine Xh ?_
      refine Xfs ?_
      refine Lq ((Q_eql rfl rfl).as (v' := .bool true) (congrArg Value.bool (decide_eq_true ((by have := low_of v; omega))))) ?_
      refine XaR ?_
      refine DH [1,3,7] [0,2,3] (.quiet 0 (.quiet 2 (.quiet 3 (.loud 1 (.loud 4 (.loud 5 (.loud 6 .done))))))) Tryz.mixed ?_
      refine Sq (Ent.re [1,3,7] rfl) rfl (Q_ldA 0 rfl rfl rfl) ?_
      refine Sq (Ent.re [1,3,7] rfl) rfl (Q_ldA 2 rfl rfl rfl) ?_
      refine Sq (Ent.re [1,3,7] rfl) rfl (Q_ldA 1 rfl rfl rfl) ?_
      refine S_o rfl rfl rfl rfl (O_callP (hh) rfl ⟨_, fun _ => ⟨Ent.reN [1,3,7] rfl, Ent.refl _⟩, ?_⟩)
      refine Xa ?_
      refine S_o rfl rfl rfl rfl (O_callP (hd) rfl ⟨[], free_no (by kernel_rfl), ?_⟩)
      refine Xa ?_
      refine Xc4 ?_
      refine Xe8 ?_
      refine Xaq ?_
      refine Xeg ?_
      exact loopQ_normal ⟨u, v / 2, x, Nt.hlf m.n y⟩ (hI.hv K hodd hve) (by dsimp only; omega) ⟨rfl, rfl, rfl, rfl, rfl, rfl, rfl, trivial⟩ (Ent.refl _)
     ·skip
      refine Xh ?_
      refine Xfs ?_
      refine Lq ((Q_eql rfl rfl).as (v' := .bool false) (congrArg Value.bool (decide_eq_false ((by have := low_of v; omega))))) ?_
      refine XF ?_
      refine J_seq ?_
      have hc := lcmp_ok E (W4.of u) (W4.of v) (W4.of_ok u) (W4.of_ok v)
      rw [W4.n_of l1, W4.n_of l2] at hc
      by_cases hle : v ≤ u
      ·have hs := lsub_ok E (W4.of u) (W4.of v) (W4.of_ok u) (W4.of_ok v)
       rw [sub_of l1 hle] at hs
       have hd := msub_ok E m rr N hm (W4.of x) (W4.of y) (W4.of_ok x) (W4.of_ok y) (by rw [W4.n_of l3]; exact hI.xM) (by rw [W4.n_of l4]; exact hI.yM)
       rw [W4.sub_n l3 l4] at hd
       refine Xcd ?_
       refine XI ?_
       refine Xcy ?_
       refine Lq ((Q_geq rfl rfl).as (v' := .bool true) (congrArg Value.bool (decide_eq_true ((by unfold cmpN; split <;> (try split) <;> omega))))) ?_
       refine XaR ?_
       refine Xo ?_
       refine XI ?_
       refine L_o rfl rfl rfl (O_callP (hs) rfl ?_)
       refine XK ?_
       refine XG ?_
       refine Xh ?_
       refine Lq (Q_ldA 7 rfl rfl rfl) ?_
       refine X0 ?_
       refine Xa5 ?_
       refine L_o rfl rfl rfl (O_callP (hd) rfl ?_)
       refine XbW ?_
       refine X6 ?_
       refine Xeg ?_
       exact loopQ_normal ⟨u - v, v, (x + m.n - y) % m.n, y⟩ (hI.su hu1 hle) (by dsimp only; omega) ⟨rfl, rfl, rfl, rfl, rfl, rfl, rfl, trivial⟩ (Ent.refl _)
      ·have hs := lsub_ok E (W4.of v) (W4.of u) (W4.of_ok v) (W4.of_ok u)
       rw [sub_of l2 (by omega)] at hs
       have hd := msub_ok E m rr N hm (W4.of y) (W4.of x) (W4.of_ok y) (W4.of_ok x) (by rw [W4.n_of l4]; exact hI.yM) (by rw [W4.n_of l3]; exact hI.xM)
       rw [W4.sub_n l4 l3] at hd
       refine Xcd ?_
       refine XI ?_
       refine Xcy ?_
       refine Lq ((Q_geq rfl rfl).as (v' := .bool false) (congrArg Value.bool (decide_eq_false ((by unfold cmpN; split <;> (try split) <;> omega))))) ?_
       refine XF ?_
       refine XbT ?_
       refine L_o rfl rfl rfl (O_callP (hs) rfl ?_)
       refine XK ?_
       refine XaH ?_
       refine Xh ?_
       refine Lq (Q_ldA 7 rfl rfl rfl) ?_
       refine Xa5 ?_
       refine X0 ?_
       refine L_o rfl rfl rfl (O_callP (hd) rfl ?_)
       refine Xdw ?_
       refine X6 ?_
       refine Xeg ?_
       exact loopQ_normal ⟨u, v - u, x, (y + m.n - x) % m.n⟩ (hI.sv (by omega)) (by dsimp only; omega) ⟨rfl, rfl, rfl, rfl, rfl, rfl, rfl, trivial⟩ (Ent.refl _)
end Go.Proofs
/- The two primes of the curve. -/
set_option autoImplicit false
namespace Go.Nt
theorem pr0 : Pr 704251 := pr_trial 839 (by decide) (by decide) (by decide +kernel)
theorem pr1 : Pr 78283 := pr_trial 279 (by decide) (by decide) (by decide +kernel)
theorem pr2 : Pr 46076956964474543 := pock [704251,78283] (by decide) (by decide) (fun q hq => by
 simp only [List.mem_cons, List.not_mem_nil, or_false] at hq
 rcases hq with rfl | rfl
 ·exact ⟨2, wit_of 56 pr0 (by decide) (by decide +kernel) (by decide +kernel) (by decide +kernel) (by decide +kernel)⟩
 ·exact ⟨2, wit_of 56 pr1 (by decide) (by decide +kernel) (by decide +kernel) (by decide +kernel) (by decide +kernel)⟩) (by decide +kernel)
theorem pr3 : Pr 3677 := pr_trial 60 (by decide) (by decide) (by decide +kernel)
theorem pr4 : Pr 197 := pr_trial 14 (by decide) (by decide) (by decide +kernel)
theorem pr5 : Pr 66417393611 := pock [3677,197] (by decide) (by decide) (fun q hq => by
 simp only [List.mem_cons, List.not_mem_nil, or_false] at hq
 rcases hq with rfl | rfl
 ·exact ⟨2, wit_of 36 pr3 (by decide) (by decide +kernel) (by decide +kernel) (by decide +kernel) (by decide +kernel)⟩
 ·exact ⟨2, wit_of 36 pr4 (by decide) (by decide +kernel) (by decide +kernel) (by decide +kernel) (by decide +kernel)⟩) (by decide +kernel)
theorem pr6 : Pr 11290956913871 := pock [66417393611] (by decide) (by decide) (fun q hq => by
 simp only [List.mem_cons, List.not_mem_nil, or_false] at hq
 subst hq
 exact ⟨2, wit_of 44 pr5 (by decide) (by decide +kernel) (by decide +kernel) (by decide +kernel) (by decide +kernel)⟩) (by decide +kernel)
theorem pr7 : Pr 774023187263532362759620327192479577272145303 := pock [46076956964474543,11290956913871] (by decide) (by decide) (fun q hq => by
 simp only [List.mem_cons, List.not_mem_nil, or_false] at hq
 rcases hq with rfl | rfl
 ·exact ⟨2, wit_of 150 pr2 (by decide) (by decide +kernel) (by decide +kernel) (by decide +kernel) (by decide +kernel)⟩
 ·exact ⟨2, wit_of 150 pr6 (by decide) (by decide +kernel) (by decide +kernel) (by decide +kernel) (by decide +kernel)⟩) (by decide +kernel)
theorem pr8 : Pr 835945042244614951780389953367877943453916927241 := pock [774023187263532362759620327192479577272145303] (by decide) (by decide) (fun q hq => by
 simp only [List.mem_cons, List.not_mem_nil, or_false] at hq
 subst hq
 exact ⟨2, wit_of 160 pr7 (by decide) (by decide +kernel) (by decide +kernel) (by decide +kernel) (by decide +kernel)⟩) (by decide +kernel)
theorem pr9 : Pr 115792089210356248762697446949407573530086143415290314195533631308867097853951 := pock [835945042244614951780389953367877943453916927241] (by decide) (by decide) (fun q hq => by
 simp only [List.mem_cons, List.not_mem_nil, or_false] at hq
 subst hq
 exact ⟨2, wit_of 256 pr8 (by decide) (by decide +kernel) (by decide +kernel) (by decide +kernel) (by decide +kernel)⟩) (by decide +kernel)
theorem pr10 : Pr 191039911 := pr_trial 13821 (by decide) (by decide) (by decide +kernel)
theorem pr11 : Pr 3023 := pr_trial 54 (by decide) (by decide) (by decide +kernel)
theorem pr12 : Pr 208150935158385979 := pock [191039911,3023] (by decide) (by decide) (fun q hq => by
 simp only [List.mem_cons, List.not_mem_nil, or_false] at hq
 rcases hq with rfl | rfl
 ·exact ⟨2, wit_of 58 pr10 (by decide) (by decide +kernel) (by decide +kernel) (by decide +kernel) (by decide +kernel)⟩
 ·exact ⟨2, wit_of 58 pr11 (by decide) (by decide +kernel) (by decide +kernel) (by decide +kernel) (by decide +kernel)⟩) (by decide +kernel)
theorem pr13 : Pr 2624747550333869278416773953 := pock [208150935158385979] (by decide) (by decide) (fun q hq => by
 simp only [List.mem_cons, List.not_mem_nil, or_false] at hq
 subst hq
 exact ⟨2, wit_of 92 pr12 (by decide) (by decide +kernel) (by decide +kernel) (by decide +kernel) (by decide +kernel)⟩) (by decide +kernel)
theorem pr14 : Pr 3969899 := pr_trial 1992 (by decide) (by decide) (by decide +kernel)
theorem pr15 : Pr 1002328039319 := pock [3969899] (by decide) (by decide) (fun q hq => by
 simp only [List.mem_cons, List.not_mem_nil, or_false] at hq
 subst hq
 exact ⟨2, wit_of 40 pr14 (by decide) (by decide +kernel) (by decide +kernel) (by decide +kernel) (by decide +kernel)⟩) (by decide +kernel)
theorem pr16 : Pr 115792089210356248762697446949407573529996955224135760342422259061068512044369 := pock [2624747550333869278416773953,1002328039319] (by decide) (by decide) (fun q hq => by
 simp only [List.mem_cons, List.not_mem_nil, or_false] at hq
 rcases hq with rfl | rfl
 ·exact ⟨2, wit_of 256 pr13 (by decide) (by decide +kernel) (by decide +kernel) (by decide +kernel) (by decide +kernel)⟩
 ·exact ⟨2, wit_of 256 pr15 (by decide) (by decide +kernel) (by decide +kernel) (by decide +kernel) (by decide +kernel)⟩) (by decide +kernel)
abbrev pP : Nat := 115792089210356248762697446949407573530086143415290314195533631308867097853951
abbrev pQ : Nat := 115792089210356248762697446949407573529996955224135760342422259061068512044369
theorem prP : Pr pP := pr9
theorem prQ : Pr pQ := pr16
end Go.Nt
/- Numbers modulo the field's prime. -/
set_option autoImplicit false
namespace Go.Proofs
open Go.SL
theorem mokP : MOk mP 1 115792089183396302114378112356516095823261736990586219612555396166510339686400 := ⟨by constructor <;> decide, by decide, by rw [mP_n], by rw [mP_n], by rw [mP_n]; decide⟩
theorem rrP_ok : rrP.ok := by constructor <;> decide
theorem rrP_n : rrP.n < mP.n := by decide
theorem rrP_r : rrP.n * 115792089183396302114378112356516095823261736990586219612555396166510339686400 % Nt.pP = 115792089237316195423570985008687907853269984665640564039457584007913129639936 % Nt.pP := by decide
def fadd (a b : W4) : W4 := W4.of ((a.n + b.n) % Nt.pP)
def fsub (a b : W4) : W4 := W4.of ((a.n % Nt.pP + Nt.pP - b.n % Nt.pP) % Nt.pP)
def fmul (a b : W4) : W4 := W4.of (a.n * b.n % Nt.pP)
def finv (a : W4) : W4 := W4.of (Nt.invN Nt.pP (a.n % Nt.pP))
theorem fcut_lt {a : W4} (ha : a.ok) : a.n < 2 * mP.n := by have := W4.lt ha; rw [mP_n]; omega
theorem fof_lt (a : Nat) : (W4.of (a % mP.n)).n = a % mP.n := W4.n_of (Nat.lt_trans (Nat.mod_lt _ mokP.pos) (W4.lt mokP.ok))
theorem fof_lt' (a : Nat) : (W4.of (a % mP.n)).n < mP.n := by rw [fof_lt]; exact Nat.mod_lt _ mokP.pos
theorem fmul_mm {a b : W4} : mm mP 115792089183396302114378112356516095823261736990586219612555396166510339686400 (mm mP 115792089183396302114378112356516095823261736990586219612555396166510339686400 a rrP) b = fmul a b := by
 unfold mm fmul
 rw [fof_lt, mP_n]
 exact congrArg W4.of (mul_red rrP_r rfl)
theorem finv_of (a : W4) : invW mP (W4.of (a.n % mP.n)) = finv a := by
 unfold invW finv
 rw [fof_lt, mP_n]
 split
 ·rename_i h
  rw [h, inv_zero (by decide)]
 ·rfl
attribute [local irreducible] J JL QOp JOp seqQ blockQ loopQ retQ slc cel hex star pur stars Does RV Ent pAt scopeQ
section
variable (E : World)
theorem fvalid_ok (a : W4) (ha : a.ok) : Does Tryz.prog E 121 [a.v] [] fun r L => r = .bool (decide (a.n < Nt.pP)) ∧ L = [] := by
 have h := mvalid_ok E mP rrP 1 mokP.ok a ha
 rw [mP_n] at h
 refine Does.of Tryz.func121 rfl Tryz.ntmps121 rfl rfl fun F => ?_
 refine Xb ?_
 refine L_o rfl rfl rfl (O_box rfl fun b1 => ?_)
 refine Xn ?_
 refine DH [0] [1,3] (.quiet 1 (.loud 0 (.loud 2 (.quiet 3 .done)))) Tryz.mixed ?_
 refine XaV ?_
 refine S_o rfl rfl rfl rfl (O_callP (fmod_ok E) rfl ⟨_, fun _ => ⟨Ent.reN [0] rfl, Ent.refl _⟩, ?_⟩)
 refine Xa ?_
 refine S_o rfl rfl rfl rfl (O_callP (h) rfl ⟨_, fun _ => ⟨Ent.reN [0] rfl, Ent.refl _⟩, ?_⟩)
 refine Xa ?_
 exact XcM
theorem fadd_ok (a b : W4) (ha : a.ok) (hb : b.ok) : Does Tryz.prog E 152 [a.v, b.v] [] fun r L => r = (fadd a b).v ∧ L = [] := by
 have h1 := mcut_ok E mP rrP 1 mokP.ok a ha (fcut_lt ha)
 have h2 := mcut_ok E mP rrP 1 mokP.ok b hb (fcut_lt hb)
 have h3 := madd_ok E mP rrP 1 mokP.ok (W4.of (a.n % mP.n)) (W4.of (b.n % mP.n)) (W4.of_ok _) (W4.of_ok _) (fof_lt' _) (fof_lt' _)
 rw [fof_lt, fof_lt, ← Nat.add_mod, mP_n] at h3
 rw [mP_n] at h1 h2
 refine Does.of Tryz.func152 rfl Tryz.ntmps152 rfl rfl fun F => ?_
 refine Xb ?_
 refine L_o rfl rfl rfl (O_box rfl fun b2 => ?_)
 refine L_o rfl rfl rfl (O_box rfl fun b3 => ?_)
 refine L_o rfl rfl rfl (O_alloc fun b4 => ?_)
 refine Xdt ?_
 refine L_o rfl rfl rfl (O_alloc fun b5 => ?_)
 refine XB ?_
 refine XdN ?_
 refine Xd8 ?_
 refine S_o rfl rfl rfl rfl (O_callP (h1) rfl ⟨_, fun _ => ⟨Ent.reN [0,2,3] rfl, Ent.refl _⟩, ?_⟩)
 refine Xa ?_
 refine S_o rfl rfl rfl rfl (O_callP (h2) rfl ⟨_, fun _ => ⟨Ent.reN [0,2,3] rfl, Ent.refl _⟩, ?_⟩)
 refine Xdk ?_
 exact Xcw
theorem fsub_ok (a b : W4) (ha : a.ok) (hb : b.ok) : Does Tryz.prog E 102 [a.v, b.v] [] fun r L => r = (fsub a b).v ∧ L = [] := by
 have h1 := mcut_ok E mP rrP 1 mokP.ok a ha (fcut_lt ha)
 have h2 := mcut_ok E mP rrP 1 mokP.ok b hb (fcut_lt hb)
 have h3 := msub_ok E mP rrP 1 mokP.ok (W4.of (a.n % mP.n)) (W4.of (b.n % mP.n)) (W4.of_ok _) (W4.of_ok _) (fof_lt' _) (fof_lt' _)
 rw [fof_lt, fof_lt, mP_n] at h3
 rw [mP_n] at h1 h2
 refine Does.of Tryz.func102 rfl Tryz.ntmps102 rfl rfl fun F => ?_
 refine Xb ?_
 refine L_o rfl rfl rfl (O_box rfl fun b2 => ?_)
 refine L_o rfl rfl rfl (O_box rfl fun b3 => ?_)
 refine L_o rfl rfl rfl (O_alloc fun b4 => ?_)
 refine Xdt ?_
 refine L_o rfl rfl rfl (O_alloc fun b5 => ?_)
 refine XB ?_
 refine XdN ?_
 refine Xd8 ?_
 refine S_o rfl rfl rfl rfl (O_callP (h1) rfl ⟨_, fun _ => ⟨Ent.reN [0,2,3] rfl, Ent.refl _⟩, ?_⟩)
 refine Xa ?_
 refine S_o rfl rfl rfl rfl (O_callP (h2) rfl ⟨_, fun _ => ⟨Ent.reN [0,2,3] rfl, Ent.refl _⟩, ?_⟩)
 refine Xdk ?_
 exact Xcw
theorem fmul_ok (a b : W4) (ha : a.ok) (hb : b.ok) : Does Tryz.prog E 101 [a.v, b.v] [] fun r L => r = (fmul a b).v ∧ L = [] := by
 have h1 := minE E mP rrP 1 115792089183396302114378112356516095823261736990586219612555396166510339686400 mokP a ha rrP_ok rrP_n
 have h2 := mmulE E mP rrP 1 115792089183396302114378112356516095823261736990586219612555396166510339686400 mokP (mm mP 115792089183396302114378112356516095823261736990586219612555396166510339686400 a rrP) b (mm_ok ..) hb (.inl (by rw [mm_lt mokP]; exact Nat.mod_lt _ mokP.pos))
 rw [fmul_mm] at h2
 refine Does.of Tryz.func101 rfl Tryz.ntmps101 rfl rfl fun F => ?_
 refine Xb ?_
 refine L_o rfl rfl rfl (O_box rfl fun b2 => ?_)
 refine L_o rfl rfl rfl (O_box rfl fun b3 => ?_)
 refine L_o rfl rfl rfl (O_alloc fun b4 => ?_)
 refine Xdt ?_
 refine L_o rfl rfl rfl (O_alloc fun b5 => ?_)
 refine XB ?_
 refine DH [0,2,3] [0,1,2,4] (.quiet 0 (.quiet 1 (.quiet 2 (.quiet 4 (.loud 3 (.loud 5 (.loud 6 .done))))))) Tryz.mixed ?_
 refine XdL ?_
 refine XeO ?_
 refine S_o rfl rfl rfl rfl (O_callP (h1) rfl ⟨_, fun _ => ⟨Ent.reN [0,2,3] rfl, Ent.refl _⟩, ?_⟩)
 refine Xd0 ?_
 exact Xcw
theorem finv_ok (a : W4) (ha : a.ok) : Does Tryz.prog E 103 [a.v] [] fun r L => r = (finv a).v ∧ L = [] := by
 have h1 := mcut_ok E mP rrP 1 mokP.ok a ha (fcut_lt ha)
 have h2 := minvE E mP rrP (W4.of (a.n % mP.n)) 1 mokP.ok (by rw [mP_n]; exact Nt.prP) (by rw [mP_n]; decide) (by rw [mP_n]) (W4.of_ok _) (fof_lt' _)
 rw [finv_of] at h2
 rw [mP_n] at h1 h2
 refine Does.of Tryz.func103 rfl Tryz.ntmps103 rfl rfl fun F => ?_
 refine Xb ?_
 refine L_o rfl rfl rfl (O_box rfl fun b1 => ?_)
 refine L_o rfl rfl rfl (O_alloc fun b2 => ?_)
 refine Xdt ?_
 refine L_o rfl rfl rfl (O_alloc fun b3 => ?_)
 refine XB ?_
 refine XfG ?_
 refine XcU ?_
 refine Sq (Ent.re [0,2] rfl) rfl (Q_ldA 1 rfl rfl rfl) ?_
 refine S_o rfl rfl rfl rfl (O_callP (h1) rfl ⟨_, fun _ => ⟨Ent.reN [0,2] rfl, Ent.refl _⟩, ?_⟩)
 refine Xd0 ?_
 refine Xa ?_
 refine Xbd ?_
 exact XeI
end
end Go.Proofs
/- How many bits a number has: enough. -/
set_option autoImplicit false
namespace Go.Proofs
open Go.SL
def lenTab : List UInt8 := 0 :: 1 :: (List.replicate 2 2 ++ List.replicate 4 3 ++ List.replicate 8 4 ++ List.replicate 16 5 ++ List.replicate 32 6 ++ List.replicate 64 7 ++ List.replicate 128 8)
theorem lenTab_len : lenTab.length = 256 := by decide +kernel
theorem lenTab_ok : ∀ j : Fin 256, j.val < 2 ^ (lenTab[j.val]'(by rw [lenTab_len]; exact j.isLt)).toNat ∧ (lenTab[j.val]'(by rw [lenTab_len]; exact j.isLt)).toNat ≤ 8 := by decide +kernel
theorem div_lt {x n a k : Nat} (h : x / 2 ^ n = a) (ha : a < 2 ^ k) : x < 2 ^ (n + k) := by
 rw [Nat.pow_add, Nat.mul_comm]
 exact (Nat.div_lt_iff_lt_mul (Nat.two_pow_pos n)).1 (h ▸ ha)
attribute [local irreducible] J JL QOp JOp seqQ blockQ loopQ retQ slc cel hex star pur stars Does RV Ent pAt scopeQ
theorem len64_ok (E : World) (x : Nat) (hx : x < 18446744073709551616) : Does Tryz.prog E 208 [u64 x] [] fun r L => (∃ k : Nat, r = .int .i64 (k : Int) ∧ x < 2 ^ k ∧ k ≤ 64) ∧ L = [] := by
 refine Does.of Tryz.func208 rfl Tryz.ntmps208 rfl rfl fun F => ?_
 refine XbB ?_
 refine Lq (Q_geq rfl rfl) ?_
 refine Ln ?_
 refine J_join (fun i : Nat × Nat => x / 2 ^ i.2 = i.1 ∧ i.1 < 4294967296 ∧ i.2 ≤ 32) (fun i => [(0, u64 i.1), (2, .int .i64 (i.2 : Int))]) (fun _ => [F]) ?_ ?_
 ·refine J_condD rfl (fun h => ?_) (fun h => ?_)
  ·refine Xg ?_
   refine Lq (Q_shr6 x 32 4294967296 rfl rfl (by decide) rfl) ?_
   refine Xi ?_
   refine Xh ?_
   refine Xj ?_
   exact joinQ_normal (x / 4294967296, 32) ⟨rfl, by dsimp only; omega, by dsimp only; omega⟩ ⟨rfl, rfl, trivial⟩ (Ent.refl _)
  ·refine J_skip ?_
   exact joinQ_normal (x, 0) ⟨by simp, by dsimp only; omega, by dsimp only; omega⟩ ⟨rfl, rfl, trivial⟩ (Ent.refl _)
 rintro ⟨y, m⟩ ⟨e1, e2, e3⟩
 dsimp only at e1 e2 e3 ⊢
 refine seqQ_normal ?_
 refine Xw ?_
 refine Lq (Q_geq rfl rfl) ?_
 refine Ln ?_
 refine J_join (fun i : Nat × Nat => x / 2 ^ i.2 = i.1 ∧ i.1 < 65536 ∧ i.2 ≤ 48) (fun i => [(0, u64 i.1), (2, .int .i64 (i.2 : Int))]) (fun _ => [F]) ?_ ?_
 ·refine J_condD rfl (fun h => ?_) (fun h => ?_)
  ·refine Xg ?_
   refine Lq (Q_shr6 y 16 65536 rfl rfl (by decide) rfl) ?_
   refine Xi ?_
   refine XbZ ?_
   refine Xj ?_
   exact joinQ_normal (y / 65536, m + 16) ⟨by dsimp only; rw [Nat.pow_add, ← Nat.div_div_eq_div_mul, e1], by dsimp only; omega, by dsimp only; omega⟩ ⟨rfl, rfl, trivial⟩ (Ent.refl _)
  ·refine J_skip ?_
   exact joinQ_normal (y, m) ⟨e1, by dsimp only; omega, by dsimp only; omega⟩ ⟨rfl, rfl, trivial⟩ (Ent.refl _)
 clear e1 e2 e3
 rintro ⟨y, m⟩ ⟨e1, e2, e3⟩
 dsimp only at e1 e2 e3 ⊢
 refine seqQ_normal ?_
 refine Xw ?_
 refine Lq (Q_geq rfl rfl) ?_
 refine Ln ?_
 refine J_join (fun i : Nat × Nat => x / 2 ^ i.2 = i.1 ∧ i.1 < 256 ∧ i.2 ≤ 56) (fun i => [(0, u64 i.1), (2, .int .i64 (i.2 : Int))]) (fun _ => [F]) ?_ ?_
 ·refine J_condD rfl (fun h => ?_) (fun h => ?_)
  ·refine Xg ?_
   refine Lq (Q_shr6 y 8 256 rfl rfl (by decide) rfl) ?_
   refine Xi ?_
   refine XbZ ?_
   refine Xj ?_
   exact joinQ_normal (y / 256, m + 8) ⟨by dsimp only; rw [Nat.pow_add, ← Nat.div_div_eq_div_mul, e1], by dsimp only; omega, by dsimp only; omega⟩ ⟨rfl, rfl, trivial⟩ (Ent.refl _)
  ·refine J_skip ?_
   exact joinQ_normal (y, m) ⟨e1, by dsimp only; omega, by dsimp only; omega⟩ ⟨rfl, rfl, trivial⟩ (Ent.refl _)
 clear e1 e2 e3
 rintro ⟨y, m⟩ ⟨e1, e2, e3⟩
 dsimp only at e1 e2 e3 ⊢
 obtain ⟨t1, t2⟩ := lenTab_ok ⟨y, e2⟩
 dsimp only at t1 t2
 have ey : y % 2 ^ 8 = y := Nat.mod_eq_of_lt e2
 have hl : y < lenTab.length := by rw [lenTab_len]; exact e2
 refine seqQ_normal ?_
 refine Xv ?_
 refine Lq ((Q_cvtN y rfl rfl).as (v' := .int .u8 (y : Int)) (congrArg (fun n : Nat => Value.int .u8 (n : Int)) ey)) ?_
 refine Lq (Q_sindex (s := lenTab) y rfl rfl rfl hl) ?_
 refine Lq (Q_cvt rfl (IntWalk.i64_in _ (by omega))) ?_
 refine Lq ((Q_add rfl rfl (IntWalk.i64_in _ (by omega))).as (v' := .int .i64 ((m + (lenTab[y]'hl).toNat : Nat) : Int)) (congrArg (Value.int .i64) (by omega))) ?_
 refine Xq ?_
 exact retQ_ret _ [] (.cons (RV_tmp rfl) .nil) ⟨⟨_, rfl, div_lt e1 t1, by omega⟩, rfl⟩ (Ent.refl _)
end Go.Proofs
