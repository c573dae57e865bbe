/- Part 23 of the texts below the row: Pnt3. -/
import Derived.Test.YtdggicfcpcjjlaaGreatDoorM1
import Derived.Test.YtdggicfcpcjjlaaGreatDoorM13
import Derived.Test.YtdggicfcpcjjlaaGreatDoorM22
/- Points: opposites, doubles, sums. -/
set_option autoImplicit false
namespace Go.Proofs
open Go.SL
theorem pw_none {A : Pt} (h : A.p = none) : pw A = pw0 := by unfold pw; rw [h]; rfl
theorem pw_some {A : Pt} {P : Ec.Af Nt.pP} (h : A.p = some P) : pw A = pwA P := by unfold pw; rw [h]; rfl
theorem pwA_inj {P Q : Ec.Af Nt.pP} (h : pwA P = pwA Q) : P = Q := by
 have h1 : (pwA P).x = (pwA Q).x := by rw [h]
 have h2 : (pwA P).y = (pwA Q).y := by rw [h]
 exact Ec.Af.ext (wf_inj (congrArg W4.n h1)) (wf_inj (congrArg W4.n h2))
theorem pwA_ok (P : Ec.Af Nt.pP) : (pwA P).ok := ⟨wf_ok _, wf_ok _⟩
theorem pwA_dec (P Q : Ec.Af Nt.pP) : decide (pwA P = pwA Q) = decide (P = Q) := decide_eq_decide.2 ⟨pwA_inj, fun h => by rw [h]⟩
def NoTwo (A : Pt) : Prop := ∀ P, A.p = some P → P.y ≠ 0
theorem two_ne {y : Fp} (h : y ≠ 0) : y + y ≠ 0 := fun h0 => by
 have e : y + y = 2 * y := by grobner
 rw [e] at h0
 rcases KP.z _ _ h0 with h1 | h1
 ·exact KP.two h1
 ·exact h h1
theorem sub_ne {x y : Fp} (h : x ≠ y) : y - x ≠ 0 := fun h0 => h (Ec.sub_z h0).symm
def dblL (P : Ec.Af Nt.pP) : Fp := ((P.x * P.x + (P.x * P.x + P.x * P.x)) - 3) * fiv (P.y + P.y)
def addL (P Q : Ec.Af Nt.pP) : Fp := (Q.y - P.y) * fiv (Q.x - P.x)
theorem dbl_add {A : Pt} {P : Ec.Af Nt.pP} (hA : A.p = some P) (hy : P.y ≠ 0) : pw (Ec.E.add A A) = pwA (thirdA P P (dblL P)) := by
 refine pw_some (add_slope hA hA (fun h => hy (KP.self h.2)) (.inr ⟨rfl, hy, ?_⟩))
 have h1 := fiv_mul (two_ne hy)
 unfold dblL
 rw [show cvP.a = -3 from rfl]
 have e : ∀ u i y x : Fp, i * (y + y) = 1 → u = x * x + (x * x + x * x) - 3 → u * i * (2 * y) = 3 * x * x + -3 := fun u i y x h1 h2 => by
  have : u * i * (2 * y) = u * (i * (y + y)) := by grobner
  rw [this, h1, h2]; grobner
 exact e _ _ _ _ h1 rfl
theorem add_add {A B : Pt} {P Q : Ec.Af Nt.pP} (hA : A.p = some P) (hB : B.p = some Q) (hx : P.x ≠ Q.x) : pw (Ec.E.add A B) = pwA (thirdA P Q (addL P Q)) := by
 refine pw_some (add_slope hA hB (fun h => hx h.1) (.inl ⟨hx, ?_⟩))
 have h1 := fiv_mul (sub_ne hx)
 unfold addL
 have e : ∀ u v x y i : Fp, i * (y - x) = 1 → (v - u) * i * (x - y) = u - v := fun u v x y i h1 => by
  have : (v - u) * i * (x - y) = -((v - u) * (i * (y - x))) := by grobner
  rw [this, h1]; grobner
 exact e _ _ _ _ _ h1
theorem add_opp {A B : Pt} {P Q : Ec.Af Nt.pP} (hA : A.p = some P) (hB : B.p = some Q) (h : P = Q.neg) : pw (Ec.E.add A B) = pw0 := by
 refine pw_none ((Ec.E.add_sum A B).uniq KP (C' := none) ?_)
 rw [hA, hB]
 exact .inl ⟨by rw [h]; exact ⟨rfl, rfl⟩, rfl⟩
attribute [local irreducible] J JL QOp JOp seqQ blockQ loopQ retQ slc cel hex star pur stars Does RV Ent pAt scopeQ
section
variable (E : World)
theorem neg_ok (p : Pw) (hp : p.ok) : Does Tryz.prog E 99 [p.v] [] fun r L => r = (pw (Ec.E.neg (own p))).v ∧ L = [] := by
 have ho := own_ok E p hp
 cases hA : (own p).p with
 | none =>
  have hn : (Ec.E.neg (own p)).p = none := by unfold Ec.E.neg; dsimp only; rw [hA]; rfl
  rw [pw_none hn]
  rw [pw_none hA] at ho
  have h0 : Does Tryz.prog E 102 [z4.v, z4.v] [] fun r L => r = z4.v ∧ L = [] := fneg0F E 0
  refine Does.of Tryz.func99 rfl Tryz.ntmps99 rfl rfl fun F => ?_
  refine Xb ?_
  refine L_o rfl rfl rfl (O_box rfl fun b1 => ?_)
  refine L_o rfl rfl rfl (O_alloc fun b2 => ?_)
  refine Ln ?_
  refine Xdu ?_
  refine XaH ?_
  refine XW ?_
  refine XD ?_
  refine XI ?_
  refine L_o rfl rfl rfl (O_callP (h0) rfl ?_)
  refine XD ?_
  refine L_s rfl rfl (O_stP 1 rfl rfl rfl rfl ?_)
  refine Xr ?_
  refine XM ?_
  refine XG ?_
  exact XcJ
 | some P =>
  have hn : (Ec.E.neg (own p)).p = some P.neg := by unfold Ec.E.neg; dsimp only; rw [hA]; rfl
  rw [pw_some hn]
  rw [pw_some hA] at ho
  have h0 := fneg0F E P.y
  refine Does.of Tryz.func99 rfl Tryz.ntmps99 rfl rfl fun F => ?_
  refine Xb ?_
  refine L_o rfl rfl rfl (O_box rfl fun b1 => ?_)
  refine L_o rfl rfl rfl (O_alloc fun b2 => ?_)
  refine Ln ?_
  refine Xdu ?_
  refine XaH ?_
  refine XW ?_
  refine XD ?_
  refine XI ?_
  refine L_o rfl rfl rfl (O_callP (h0) rfl ?_)
  refine XD ?_
  refine L_s rfl rfl (O_stP 1 rfl rfl rfl rfl ?_)
  refine Xr ?_
  refine XM ?_
  refine XG ?_
  exact XcJ
theorem third_ok (P Q : Ec.Af Nt.pP) (l : Fp) : Does Tryz.prog E 100 [(pwA P).v, (pwA Q).v, (wf l).v] [] fun r L => r = (pwA (thirdA P Q l)).v ∧ L = [] := by
 refine Does.of Tryz.func100 rfl Tryz.ntmps100 rfl rfl fun F => ?_
 refine Xb ?_
 refine L_o rfl rfl rfl (O_box rfl fun b3 => ?_)
 refine L_o rfl rfl rfl (O_box rfl fun b4 => ?_)
 refine L_o rfl rfl rfl (O_box rfl fun b5 => ?_)
 refine L_o rfl rfl rfl (O_alloc fun b6 => ?_)
 refine Xt ?_
 refine J_flo [1,2,3] [0,1,3,4,5,6] [⟨9, 7, 24, [.int .u64 0, .int .u64 0, .int .u64 0, .int .u64 0]⟩] [(false, 0), (false, 1), (false, 3), (false, 4), (false, 5), (false, 6), (true, 2), (true, 7), (true, 8)] (.loud 10 .done) Tryz.mixed (by kernel_rfl) (by kernel_rfl) (by repeat (first | exact retQ_noP | refine seqQ_noP ?_ | refine blockQ_noP ?_ | refine loopQ_noP ?_ | refine scopeQ_noP ?_ | (intro _ _ _ h; cases h.1))) (List.forall_mem_cons.2 ⟨AlOk.of rfl rfl rfl, (List.forall_mem_nil _)⟩) rfl ?_
 refine F_q (Ent.re [1,2,3] rfl) rfl (Q_ldA 0 rfl rfl rfl) rfl rfl rfl ?_
 refine F_q (Ent.re [1,2,3] rfl) rfl (Q_ldA 0 rfl rfl rfl) rfl rfl rfl ?_
 refine F_q (Ent.re [1,2,3] rfl) rfl (Q_fa0 rfl) rfl rfl rfl ?_
 refine F_q (Ent.re [1,2,3] rfl) rfl (Q_ldA 2 rfl rfl rfl) rfl rfl rfl ?_
 refine F_q (Ent.re [1,2,3] rfl) rfl (Q_fa0 rfl) rfl rfl rfl ?_
 refine F_q (Ent.re [1,2,3] rfl) rfl (Q_ldA 1 rfl rfl rfl) rfl rfl rfl ?_
 refine F_o (Ent.re [1,2,3] rfl) rfl rfl rfl rfl fun X => O_callP (fmulF E l l) rfl ⟨_, _, rfl, fun _ => ⟨(Ent.re [1,2,3] rfl), Ent.refl _⟩, ?_⟩
 refine F_o (Ent.re [1,2,3] rfl) rfl rfl rfl rfl fun X => O_callP (faddF E P.x Q.x) rfl ⟨_, _, rfl, fun _ => ⟨(Ent.re [1,2,3] rfl), Ent.refl _⟩, ?_⟩
 refine F_o (Ent.re [1,2,3] rfl) rfl rfl rfl rfl fun X => O_callP (fsubF E (l * l) (P.x + Q.x)) rfl ⟨_, _, rfl, fun _ => ⟨(Ent.re [1,2,3] rfl), Ent.refl _⟩, ?_⟩
 refine F_nil (Ent.re [1,2,3] rfl) (land1 fun b7 => ?_)
 refine Xar ?_
 refine DH [0,2,4] [0,1,2,3,4,7,8,10] (.quiet 0 (.quiet 1 (.quiet 2 (.quiet 3 (.quiet 4 (.quiet 7 (.quiet 8 (.loud 5 (.loud 6 (.loud 9 (.quiet 10 (.loud 11 .done)))))))))))) Tryz.mixed ?_
 refine Sq (Ent.re [0,2,4] rfl) rfl (Q_ldA 0 rfl rfl rfl) ?_
 refine Sq (Ent.re [0,2,4] rfl) rfl (Q_ldA 1 rfl rfl rfl) ?_
 refine Sq (Ent.re [0,2,4] rfl) rfl (Q_fa0 rfl) ?_
 refine Sq (Ent.re [0,2,4] rfl) rfl (Q_ldA 2 rfl rfl rfl) ?_
 refine Sq (Ent.re [0,2,4] rfl) rfl (Q_ldA 0 rfl rfl rfl) ?_
 refine Sq (Ent.re [0,2,4] rfl) rfl (Q_fa0 rfl) ?_
 refine Sq (Ent.re [0,2,4] rfl) rfl (Q_ldA 2 rfl rfl rfl) ?_
 refine S_o rfl rfl rfl rfl (O_callP (fsubF E P.x (l * l - (P.x + Q.x))) rfl ⟨_, fun _ => ⟨Ent.reN [0,2,4] rfl, Ent.refl _⟩, ?_⟩)
 refine Xa ?_
 refine S_o rfl rfl rfl rfl (O_callP (fmulF E l (P.x - (l * l - (P.x + Q.x)))) rfl ⟨_, fun _ => ⟨Ent.reN [0,2,4] rfl, Ent.refl _⟩, ?_⟩)
 refine Xa ?_
 refine S_o rfl rfl rfl rfl (O_callP (fsubF E (l * (P.x - (l * l - (P.x + Q.x)))) P.y) rfl ⟨_, fun _ => ⟨Ent.reN [0,2,4] rfl, Ent.refl _⟩, ?_⟩)
 refine Xa ?_
 refine Sq (Ent.re [0,2,4] rfl) rfl (Q_build rfl) ?_
 refine Xbd ?_
 exact XdU
theorem dbl_ok (A : Pt) (P : Ec.Af Nt.pP) (hA : A.p = some P) (hy : P.y ≠ 0) : Does Tryz.prog E 98 [(pwA P).v] [] fun r L => r = (pw (Ec.E.add A A)).v ∧ L = [] := by
 have ho := own_ok E (pwA P) (pwA_ok P)
 rw [← pw_some hA, own_pw, pw_some hA] at ho
 rw [dbl_add hA hy]
 refine Does.of Tryz.func98 rfl Tryz.ntmps98 rfl rfl fun F => ?_
 refine Xb ?_
 refine L_o rfl rfl rfl (O_box rfl fun b1 => ?_)
 refine L_o rfl rfl rfl (O_alloc fun b2 => ?_)
 refine Ln ?_
 refine Xdu ?_
 refine Xcx ?_
 refine XQ ?_
 refine X3 ?_
 refine XE ?_
 refine Xy ?_
 refine XbS ?_
 refine XD ?_
 refine XI ?_
 refine L_o rfl rfl rfl (O_callP (fmulF E P.x P.x) rfl ?_)
 refine L_o rfl rfl rfl (O_alloc fun b3 => ?_)
 refine XB ?_
 refine J_flo [0] [0,1,2,5] [⟨7, 4, 24, [.int .u64 0, .int .u64 0, .int .u64 0, .int .u64 0]⟩] [(false, 0), (false, 1), (false, 2), (false, 5), (true, 3), (true, 4), (true, 6)] (.loud 8 .done) Tryz.mixed (by kernel_rfl) (by kernel_rfl) (by repeat (first | exact retQ_noP | refine seqQ_noP ?_ | refine blockQ_noP ?_ | refine loopQ_noP ?_ | refine scopeQ_noP ?_ | (intro _ _ _ h; cases h.1))) (List.forall_mem_cons.2 ⟨AlOk.of rfl rfl rfl, (List.forall_mem_nil _)⟩) rfl ?_
 refine Xdy ?_
 refine Xdy ?_
 refine Xdy ?_
 refine F_q (Ent.re [0] rfl) rfl (Q_build rfl) rfl rfl rfl ?_
 refine F_o (Ent.re [0] rfl) rfl rfl rfl rfl fun X => O_callP (faddF E (P.x * P.x) (P.x * P.x)) rfl ⟨_, _, rfl, fun _ => ⟨(Ent.re [0] rfl), Ent.refl _⟩, ?_⟩
 refine F_o (Ent.re [0] rfl) rfl rfl rfl rfl fun X => O_callP (faddF E (P.x * P.x) (P.x * P.x + P.x * P.x)) rfl ⟨_, _, rfl, fun _ => ⟨(Ent.re [0] rfl), Ent.refl _⟩, ?_⟩
 refine F_o (Ent.re [0] rfl) rfl rfl rfl rfl fun X => O_callP (fsub3F E (P.x * P.x + (P.x * P.x + P.x * P.x))) rfl ⟨_, _, rfl, fun _ => ⟨(Ent.re [0] rfl), Ent.refl _⟩, ?_⟩
 refine F_nil (Ent.re [0] rfl) (land1 fun b4 => ?_)
 refine Xar ?_
 refine DH [0,3] [0,1,2,3,4,5,6] (.quiet 0 (.quiet 1 (.quiet 2 (.quiet 3 (.quiet 4 (.quiet 5 (.quiet 6 (.loud 7 (.loud 8 (.loud 9 (.loud 10 (.loud 11 .done)))))))))))) Tryz.mixed ?_
 refine Xej ?_
 refine Xej ?_
 refine Sq (Ent.re [0,3] rfl) rfl (Q_ldA 0 rfl rfl rfl) ?_
 refine Sq (Ent.re [0,3] rfl) rfl (Q_fa0 rfl) ?_
 refine Xej ?_
 refine Sq (Ent.re [0,3] rfl) rfl (Q_fa0 rfl) ?_
 refine Xej ?_
 refine S_o rfl rfl rfl rfl (O_callP (faddF E P.y P.y) rfl ⟨_, fun _ => ⟨Ent.reN [0,3] rfl, Ent.refl _⟩, ?_⟩)
 refine Xa ?_
 refine S_o rfl rfl rfl rfl (O_callP (finvF E (P.y + P.y)) rfl ⟨_, fun _ => ⟨Ent.reN [0,3] rfl, Ent.refl _⟩, ?_⟩)
 refine Xa ?_
 refine S_o rfl rfl rfl rfl (O_callP (fmulF E (P.x * P.x + (P.x * P.x + P.x * P.x) - 3) (fiv (P.y + P.y))) rfl ⟨_, fun _ => ⟨Ent.reN [0,3] rfl, Ent.refl _⟩, ?_⟩)
 refine Xa ?_
 refine S_o rfl rfl rfl rfl (O_callP (third_ok E P P (dblL P)) rfl ⟨[], free_no (by kernel_rfl), ?_⟩)
 refine Xa ?_
 refine Xcq ?_
 refine Xu ?_
 refine J_ret ?_
 exact retQ_ret _ [] (.cons (RV_cell 2 rfl rfl rfl rfl) .nil) ⟨rfl, rfl⟩ (Ent.re [4] rfl)
theorem padd_ok (p q : Pw) (hp : p.ok) (hq : q.ok) (h2 : NoTwo (own p)) : Does Tryz.prog E 52 [p.v, q.v] [] fun r L => r = (pw (Ec.E.add (own p) (own q))).v ∧ L = [] := by
 have hop := own_ok E p hp
 have hoq := own_ok E q hq
 generalize own p = A at *
 generalize own q = B at *
 cases hA : A.p with
 | none =>
  have hz : A = Ec.E.zero := Ec.E.ext hA
  rw [pw_none hA] at hop
  rw [hz, Ec.E.zero_add]
  generalize pw B = w at *
  refine Does.of Tryz.func52 rfl Tryz.ntmps52 rfl rfl fun F => ?_
  refine Xb ?_
  refine L_o rfl rfl rfl (O_box rfl fun b2 => ?_)
  refine L_o rfl rfl rfl (O_box rfl fun b3 => ?_)
  refine L_o rfl rfl rfl (O_alloc fun b4 => ?_)
  refine Xt ?_
  refine Xdb ?_
  refine S_o rfl rfl rfl rfl (O_callP (hop) rfl ⟨_, fun _ => ⟨Ent.reN [1,2] rfl, Ent.refl _⟩, ?_⟩)
  refine Xdi ?_
  refine Xa ?_
  refine Xcq ?_
  refine Xbd ?_
  refine X5 ?_
  refine Xdv ?_
  refine XaR ?_
  refine XM ?_
  refine Xbh ?_
  refine XY ?_
  exact Xc3
 | some P =>
  cases hB : B.p with
  | none =>
   have hz : B = Ec.E.zero := Ec.E.ext hB
   rw [pw_none hB] at hoq
   rw [hz, Ec.E.add_zero]
   rw [pw_some hA] at hop ⊢
   refine Does.of Tryz.func52 rfl Tryz.ntmps52 rfl rfl fun F => ?_
   refine Xb ?_
   refine L_o rfl rfl rfl (O_box rfl fun b2 => ?_)
   refine L_o rfl rfl rfl (O_box rfl fun b3 => ?_)
   refine L_o rfl rfl rfl (O_alloc fun b4 => ?_)
   refine Xt ?_
   refine Xdb ?_
   refine S_o rfl rfl rfl rfl (O_callP (hop) rfl ⟨_, fun _ => ⟨Ent.reN [1,2] rfl, Ent.refl _⟩, ?_⟩)
   refine Xdi ?_
   refine Xa ?_
   refine Xcq ?_
   refine Xbd ?_
   refine X5 ?_
   refine Xdv ?_
   refine XF ?_
   refine X3 ?_
   refine XE ?_
   refine XaR ?_
   refine XZ ?_
   refine Xbh ?_
   refine XY ?_
   exact Xc3
  | some Q =>
   rw [pw_some hA] at hop
   rw [pw_some hB] at hoq
   have he := eqvPt (pwA_ok P) (pwA_ok Q)
   rw [pwA_dec] at he
   by_cases h : P = Q
   ·rw [decide_eq_true h] at he
    have hab : B = A := Ec.E.ext (by rw [hA, hB, h])
    rw [hab]
    have hd := dbl_ok E A P hA (h2 P hA)
    generalize pw (Ec.E.add A A) = w at *
    refine Does.of Tryz.func52 rfl Tryz.ntmps52 rfl rfl fun F => ?_
    refine Xb ?_
    refine L_o rfl rfl rfl (O_box rfl fun b2 => ?_)
    refine L_o rfl rfl rfl (O_box rfl fun b3 => ?_)
    refine L_o rfl rfl rfl (O_alloc fun b4 => ?_)
    refine Xt ?_
    refine Xdb ?_
    refine S_o rfl rfl rfl rfl (O_callP (hop) rfl ⟨_, fun _ => ⟨Ent.reN [1,2] rfl, Ent.refl _⟩, ?_⟩)
    refine Xdi ?_
    refine Xa ?_
    refine Xcq ?_
    refine Xbd ?_
    refine X5 ?_
    refine Xdv ?_
    refine XF ?_
    refine X3 ?_
    refine XE ?_
    refine XF ?_
    refine XZ ?_
    refine XI ?_
    refine Lq (Q_geql eqgPt he rfl rfl) ?_
    refine XaR ?_
    refine XZ ?_
    refine L_o rfl rfl rfl (O_callP (hd) rfl ?_)
    refine Xbh ?_
    refine XY ?_
    exact Xc3
   ·rw [decide_eq_false h] at he
    have hn := neg_ok E (pwA Q) (pwA_ok Q)
    rw [← pw_some hB, own_pw] at hn
    have hnn : (Ec.E.neg B).p = some Q.neg := by unfold Ec.E.neg; dsimp only; rw [hB]; rfl
    rw [pw_some hnn, pw_some hB] at hn
    have he2 := eqvPt (pwA_ok P) (pwA_ok Q.neg)
    rw [pwA_dec] at he2
    by_cases h' : P = Q.neg
    ·rw [decide_eq_true h'] at he2
     rw [add_opp hA hB h']
     refine Does.of Tryz.func52 rfl Tryz.ntmps52 rfl rfl fun F => ?_
     refine Xb ?_
     refine L_o rfl rfl rfl (O_box rfl fun b2 => ?_)
     refine L_o rfl rfl rfl (O_box rfl fun b3 => ?_)
     refine L_o rfl rfl rfl (O_alloc fun b4 => ?_)
     refine Xt ?_
     refine Xdb ?_
     refine S_o rfl rfl rfl rfl (O_callP (hop) rfl ⟨_, fun _ => ⟨Ent.reN [1,2] rfl, Ent.refl _⟩, ?_⟩)
     refine Xdi ?_
     refine Xa ?_
     refine Xcq ?_
     refine Xbd ?_
     refine X5 ?_
     refine Xdv ?_
     refine XF ?_
     refine X3 ?_
     refine XE ?_
     refine XF ?_
     refine XZ ?_
     refine XI ?_
     refine Lq (Q_geql eqgPt he rfl rfl) ?_
     refine XF ?_
     refine J_seq ?_
     refine DH [1,2] [0,1,3,4] (.quiet 0 (.quiet 1 (.loud 2 (.quiet 3 (.quiet 4 .done))))) Tryz.mixed ?_
     refine XdJ ?_
     refine S_o rfl rfl rfl rfl (O_callP (hn) rfl ⟨_, fun _ => ⟨Ent.reN [1,2] rfl, Ent.refl _⟩, ?_⟩)
     refine Xa ?_
     refine Sq (Ent.re [1,2] rfl) rfl (Q_geql eqgPt he2 rfl rfl) ?_
     refine Sq (Ent.re [1,2] rfl) rfl (Q_assign rfl) ?_
     refine Xu ?_
     refine J_condT rfl ?_
     refine XW ?_
     refine Xbh ?_
     refine XY ?_
     exact Xc3
    ·rw [decide_eq_false h'] at he2
     have hx : P.x ≠ Q.x := fun hx => by
      rcases Ec.On.opp KP (A.on P hA) (B.on Q hB) hx with h1 | h1
      ·exact h h1
      ·exact h' (Ec.Af.ext h1.1 h1.2)
     rw [add_add hA hB hx]
     refine Does.of Tryz.func52 rfl Tryz.ntmps52 rfl rfl fun F => ?_
     refine Xb ?_
     refine L_o rfl rfl rfl (O_box rfl fun b2 => ?_)
     refine L_o rfl rfl rfl (O_box rfl fun b3 => ?_)
     refine L_o rfl rfl rfl (O_alloc fun b4 => ?_)
     refine Xt ?_
     refine Xdb ?_
     refine S_o rfl rfl rfl rfl (O_callP (hop) rfl ⟨_, fun _ => ⟨Ent.reN [1,2] rfl, Ent.refl _⟩, ?_⟩)
     refine Xdi ?_
     refine Xa ?_
     refine Xcq ?_
     refine Xbd ?_
     refine X5 ?_
     refine Xdv ?_
     refine XF ?_
     refine X3 ?_
     refine XE ?_
     refine XF ?_
     refine XZ ?_
     refine XI ?_
     refine Lq (Q_geql eqgPt he rfl rfl) ?_
     refine XF ?_
     refine J_seq ?_
     refine DH [1,2] [0,1,3,4] (.quiet 0 (.quiet 1 (.loud 2 (.quiet 3 (.quiet 4 .done))))) Tryz.mixed ?_
     refine XdJ ?_
     refine S_o rfl rfl rfl rfl (O_callP (hn) rfl ⟨_, fun _ => ⟨Ent.reN [1,2] rfl, Ent.refl _⟩, ?_⟩)
     refine Xa ?_
     refine Sq (Ent.re [1,2] rfl) rfl (Q_geql eqgPt he2 rfl rfl) ?_
     refine Sq (Ent.re [1,2] rfl) rfl (Q_assign rfl) ?_
     refine Xax ?_
     refine Xbe ?_
     refine J_seq ?_
     refine DH [1,2] [0,1,2,3,4,5,7,8,9,10] (.quiet 0 (.quiet 1 (.quiet 2 (.quiet 3 (.quiet 4 (.quiet 5 (.quiet 7 (.quiet 8 (.quiet 9 (.quiet 10 (.loud 6 (.loud 11 (.loud 12 (.loud 13 (.loud 14 (.loud 15 .done)))))))))))))))) Tryz.mixed ?_
     refine XdJ ?_
     refine XdZ ?_
     refine Xdg ?_
     refine XdZ ?_
     refine Xdg ?_
     refine S_o rfl rfl rfl rfl (O_callP (fsubF E Q.y P.y) rfl ⟨_, fun _ => ⟨Ent.reN [1,2] rfl, Ent.refl _⟩, ?_⟩)
     refine Xa ?_
     refine S_o rfl rfl rfl rfl (O_callP (fsubF E Q.x P.x) rfl ⟨_, fun _ => ⟨Ent.reN [1,2] rfl, Ent.refl _⟩, ?_⟩)
     refine Xa ?_
     refine S_o rfl rfl rfl rfl (O_callP (finvF E (Q.x - P.x)) rfl ⟨_, fun _ => ⟨Ent.reN [1,2] rfl, Ent.refl _⟩, ?_⟩)
     refine Xa ?_
     refine S_o rfl rfl rfl rfl (O_callP (fmulF E (Q.y - P.y) (fiv (Q.x - P.x))) rfl ⟨_, fun _ => ⟨Ent.reN [1,2] rfl, Ent.refl _⟩, ?_⟩)
     refine Xa ?_
     refine S_o rfl rfl rfl rfl (O_callP (third_ok E P Q (addL P Q)) rfl ⟨[], free_no (by kernel_rfl), ?_⟩)
     refine Xa ?_
     refine Xau ?_
     refine Xu ?_
     exact Xda
end
end Go.Proofs
