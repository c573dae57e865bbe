/- Part 22 of the texts below the row: Num18, PtP, Pnt1, Pnt2. -/
import Derived.Test.YtdggicfcpcjjlaaGreatDoorM1
import Derived.Test.YtdggicfcpcjjlaaGreatDoorM11
import Derived.Test.YtdggicfcpcjjlaaGreatDoorM13
import Derived.Test.YtdggicfcpcjjlaaGreatDoorM16
import Derived.Test.YtdggicfcpcjjlaaGreatDoorM19
import Derived.Test.YtdggicfcpcjjlaaGreatDoorM21
/- Numbers modulo the order. -/
set_option autoImplicit false
namespace Go.Proofs
open Go.SL
theorem mokQ : MOk mQ 14758798090332847183 43790243014242295660885426880012836369732278457577312309071968676491870960761 := ⟨by constructor <;> decide, by decide, by rw [mQ_n], by rw [mQ_n], by rw [mQ_n]; decide⟩
theorem rrQ_ok : rrQ.ok := by constructor <;> decide
theorem rrQ_n : rrQ.n < mQ.n := by decide
theorem rrQ_r : rrQ.n * 43790243014242295660885426880012836369732278457577312309071968676491870960761 % Nt.pQ = 115792089237316195423570985008687907853269984665640564039457584007913129639936 % Nt.pQ := by decide
def sadd (a b : W4) : W4 := W4.of ((a.n + b.n) % Nt.pQ)
def ssub (a b : W4) : W4 := W4.of ((a.n % Nt.pQ + Nt.pQ - b.n % Nt.pQ) % Nt.pQ)
def smul (a b : W4) : W4 := W4.of (a.n * b.n % Nt.pQ)
def sinv (a : W4) : W4 := W4.of (Nt.invN Nt.pQ (a.n % Nt.pQ))
theorem scut_lt {a : W4} (ha : a.ok) : a.n < 2 * mQ.n := by have := W4.lt ha; rw [mQ_n]; omega
theorem sof_lt (a : Nat) : (W4.of (a % mQ.n)).n = a % mQ.n := W4.n_of (Nat.lt_trans (Nat.mod_lt _ mokQ.pos) (W4.lt mokQ.ok))
theorem sof_lt' (a : Nat) : (W4.of (a % mQ.n)).n < mQ.n := by rw [sof_lt]; exact Nat.mod_lt _ mokQ.pos
theorem smul_mm {a b : W4} : mm mQ 43790243014242295660885426880012836369732278457577312309071968676491870960761 (mm mQ 43790243014242295660885426880012836369732278457577312309071968676491870960761 a rrQ) b = smul a b := by
 unfold mm smul
 rw [sof_lt, mQ_n]
 exact congrArg W4.of (mul_red rrQ_r rfl)
theorem sinv_of (a : W4) : invW mQ (W4.of (a.n % mQ.n)) = sinv a := by
 unfold invW sinv
 rw [sof_lt, mQ_n]
 split
 ·rename_i h
  rw [h, inv_zero (by decide)]
 ·rfl
attribute [local irreducible] J JL QOp JOp seqQ blockQ loopQ retQ slc cel hex star pur stars Does RV Ent pAt scopeQ
section
variable (E : World)
theorem svalid_ok (a : W4) (ha : a.ok) : Does Tryz.prog E 73 [a.v] [] fun r L => r = .bool (decide (a.n < Nt.pQ)) ∧ L = [] := by
 have h := mvalid_ok E mQ rrQ 14758798090332847183 mokQ.ok a ha
 rw [mQ_n] at h
 refine Does.of Tryz.func73 rfl Tryz.ntmps73 rfl rfl fun F => ?_
 refine Xb ?_
 refine L_o rfl rfl rfl (O_box rfl fun b1 => ?_)
 refine Xn ?_
 refine DH [0] [1,3] (.quiet 1 (.loud 0 (.loud 2 (.quiet 3 .done)))) Tryz.mixed ?_
 refine XaV ?_
 refine S_o rfl rfl rfl rfl (O_callP (smod_ok E) rfl ⟨_, fun _ => ⟨Ent.reN [0] rfl, Ent.refl _⟩, ?_⟩)
 refine Xa ?_
 refine S_o rfl rfl rfl rfl (O_callP (h) rfl ⟨_, fun _ => ⟨Ent.reN [0] rfl, Ent.refl _⟩, ?_⟩)
 refine Xa ?_
 exact XcM
theorem sadd_ok (a b : W4) (ha : a.ok) (hb : b.ok) : Does Tryz.prog E 51 [a.v, b.v] [] fun r L => r = (sadd a b).v ∧ L = [] := by
 have h1 := mcut_ok E mQ rrQ 14758798090332847183 mokQ.ok a ha (scut_lt ha)
 have h2 := mcut_ok E mQ rrQ 14758798090332847183 mokQ.ok b hb (scut_lt hb)
 have h3 := madd_ok E mQ rrQ 14758798090332847183 mokQ.ok (W4.of (a.n % mQ.n)) (W4.of (b.n % mQ.n)) (W4.of_ok _) (W4.of_ok _) (sof_lt' _) (sof_lt' _)
 rw [sof_lt, sof_lt, ← Nat.add_mod, mQ_n] at h3
 rw [mQ_n] at h1 h2
 refine Does.of Tryz.func51 rfl Tryz.ntmps51 rfl rfl fun F => ?_
 refine Xb ?_
 refine L_o rfl rfl rfl (O_box rfl fun b2 => ?_)
 refine L_o rfl rfl rfl (O_box rfl fun b3 => ?_)
 refine L_o rfl rfl rfl (O_alloc fun b4 => ?_)
 refine Xed ?_
 refine L_o rfl rfl rfl (O_alloc fun b5 => ?_)
 refine XB ?_
 refine XdN ?_
 refine Xd8 ?_
 refine S_o rfl rfl rfl rfl (O_callP (h1) rfl ⟨_, fun _ => ⟨Ent.reN [0,2,3] rfl, Ent.refl _⟩, ?_⟩)
 refine Xa ?_
 refine S_o rfl rfl rfl rfl (O_callP (h2) rfl ⟨_, fun _ => ⟨Ent.reN [0,2,3] rfl, Ent.refl _⟩, ?_⟩)
 refine Xdk ?_
 exact Xcw
theorem ssub_ok (a b : W4) (ha : a.ok) (hb : b.ok) : Does Tryz.prog E 148 [a.v, b.v] [] fun r L => r = (ssub a b).v ∧ L = [] := by
 have h1 := mcut_ok E mQ rrQ 14758798090332847183 mokQ.ok a ha (scut_lt ha)
 have h2 := mcut_ok E mQ rrQ 14758798090332847183 mokQ.ok b hb (scut_lt hb)
 have h3 := msub_ok E mQ rrQ 14758798090332847183 mokQ.ok (W4.of (a.n % mQ.n)) (W4.of (b.n % mQ.n)) (W4.of_ok _) (W4.of_ok _) (sof_lt' _) (sof_lt' _)
 rw [sof_lt, sof_lt, mQ_n] at h3
 rw [mQ_n] at h1 h2
 refine Does.of Tryz.func148 rfl Tryz.ntmps148 rfl rfl fun F => ?_
 refine Xb ?_
 refine L_o rfl rfl rfl (O_box rfl fun b2 => ?_)
 refine L_o rfl rfl rfl (O_box rfl fun b3 => ?_)
 refine L_o rfl rfl rfl (O_alloc fun b4 => ?_)
 refine Xed ?_
 refine L_o rfl rfl rfl (O_alloc fun b5 => ?_)
 refine XB ?_
 refine XdN ?_
 refine Xd8 ?_
 refine S_o rfl rfl rfl rfl (O_callP (h1) rfl ⟨_, fun _ => ⟨Ent.reN [0,2,3] rfl, Ent.refl _⟩, ?_⟩)
 refine Xa ?_
 refine S_o rfl rfl rfl rfl (O_callP (h2) rfl ⟨_, fun _ => ⟨Ent.reN [0,2,3] rfl, Ent.refl _⟩, ?_⟩)
 refine Xdk ?_
 exact Xcw
theorem smul_ok (a b : W4) (ha : a.ok) (hb : b.ok) : Does Tryz.prog E 88 [a.v, b.v] [] fun r L => r = (smul a b).v ∧ L = [] := by
 have h1 := minE E mQ rrQ 14758798090332847183 43790243014242295660885426880012836369732278457577312309071968676491870960761 mokQ a ha rrQ_ok rrQ_n
 have h2 := mmulE E mQ rrQ 14758798090332847183 43790243014242295660885426880012836369732278457577312309071968676491870960761 mokQ (mm mQ 43790243014242295660885426880012836369732278457577312309071968676491870960761 a rrQ) b (mm_ok ..) hb (.inl (by rw [mm_lt mokQ]; exact Nat.mod_lt _ mokQ.pos))
 rw [smul_mm] at h2
 refine Does.of Tryz.func88 rfl Tryz.ntmps88 rfl rfl fun F => ?_
 refine Xb ?_
 refine L_o rfl rfl rfl (O_box rfl fun b2 => ?_)
 refine L_o rfl rfl rfl (O_box rfl fun b3 => ?_)
 refine L_o rfl rfl rfl (O_alloc fun b4 => ?_)
 refine Xed ?_
 refine L_o rfl rfl rfl (O_alloc fun b5 => ?_)
 refine XB ?_
 refine DH [0,2,3] [0,1,2,4] (.quiet 0 (.quiet 1 (.quiet 2 (.quiet 4 (.loud 3 (.loud 5 (.loud 6 .done))))))) Tryz.mixed ?_
 refine XdL ?_
 refine XeO ?_
 refine S_o rfl rfl rfl rfl (O_callP (h1) rfl ⟨_, fun _ => ⟨Ent.reN [0,2,3] rfl, Ent.refl _⟩, ?_⟩)
 refine Xd0 ?_
 exact Xcw
theorem sinv_ok (a : W4) (ha : a.ok) : Does Tryz.prog E 149 [a.v] [] fun r L => r = (sinv a).v ∧ L = [] := by
 have h1 := mcut_ok E mQ rrQ 14758798090332847183 mokQ.ok a ha (scut_lt ha)
 have h2 := minvE E mQ rrQ (W4.of (a.n % mQ.n)) 14758798090332847183 mokQ.ok (by rw [mQ_n]; exact Nt.prQ) (by rw [mQ_n]; decide) (by rw [mQ_n]) (W4.of_ok _) (sof_lt' _)
 rw [sinv_of] at h2
 rw [mQ_n] at h1 h2
 refine Does.of Tryz.func149 rfl Tryz.ntmps149 rfl rfl fun F => ?_
 refine Xb ?_
 refine L_o rfl rfl rfl (O_box rfl fun b1 => ?_)
 refine L_o rfl rfl rfl (O_alloc fun b2 => ?_)
 refine Xed ?_
 refine L_o rfl rfl rfl (O_alloc fun b3 => ?_)
 refine XB ?_
 refine XfG ?_
 refine XcU ?_
 refine Sq (Ent.re [0,2] rfl) rfl (Q_ldA 1 rfl rfl rfl) ?_
 refine S_o rfl rfl rfl rfl (O_callP (h1) rfl ⟨_, fun _ => ⟨Ent.reN [0,2] rfl, Ent.refl _⟩, ?_⟩)
 refine Xd0 ?_
 refine Xa ?_
 refine Xbd ?_
 exact XeI
end
end Go.Proofs
/- The curve; how its points lie. -/
set_option autoImplicit false
namespace Go.Proofs
open Go.SL
instance nzP : NeZero Nt.pP := ⟨by decide⟩
abbrev Fp := Fin Nt.pP
theorem KP : Ec.Fld Nt.pP := Nt.fld Nt.prP (by decide)
def bF : Fp := Nt.toF Nt.pP 41058363725152142129326129780047268409114441015993725554835256314039467401291
def cvP : Ec.Cv Nt.pP := ⟨-3, bF, KP, by decide +kernel⟩
abbrev Pt := Ec.E cvP
def fv (x : W4) : Fp := Nt.toF Nt.pP x.n
def wf (x : Fp) : W4 := W4.of x.val
theorem wf_ok (x : Fp) : (wf x).ok := W4.of_ok _
theorem fp_lt (x : Fp) : x.val < 115792089237316195423570985008687907853269984665640564039457584007913129639936 := Nat.lt_trans x.isLt (by decide)
theorem wf_n (x : Fp) : (wf x).n = x.val := W4.n_of (fp_lt x)
theorem wf_lt (x : Fp) : (wf x).n < Nt.pP := by rw [wf_n]; exact x.isLt
theorem toF_val (n : Nat) : (Nt.toF Nt.pP n).val = n % Nt.pP := rfl
theorem fv_wf (x : Fp) : fv (wf x) = x := by
 unfold fv; rw [wf_n]; exact Fin.ext (by rw [toF_val]; exact Nat.mod_eq_of_lt x.isLt)
theorem wf_fv {x : W4} (h : x.ok) (hl : x.n < Nt.pP) : wf (fv x) = x := by
 unfold wf fv; rw [toF_val, Nat.mod_eq_of_lt hl, W4.of_n h]
theorem wf_toF (n : Nat) : wf (Nt.toF Nt.pP n) = W4.of (n % Nt.pP) := rfl
theorem fadd_wf (a b : W4) : fadd a b = wf (fv a + fv b) := by
 unfold fadd fv
 rw [← Nt.toF_add, wf_toF]
theorem fsub_wf (a b : W4) : fsub a b = wf (fv a - fv b) := by
 unfold fsub fv
 rw [← Nt.toF_mod a.n, ← Nt.toF_mod b.n, ← Nt.toF_sub (Nat.le_of_lt (Nat.mod_lt _ (by decide))), wf_toF, Nat.mod_mod]
theorem fmul_wf (a b : W4) : fmul a b = wf (fv a * fv b) := by
 unfold fmul fv
 rw [← Nt.toF_mul, wf_toF]
def fiv (x : Fp) : Fp := Nt.toF Nt.pP (Nt.invN Nt.pP x.val)
theorem finv_wf (a : W4) : finv a = wf (fiv (fv a)) := by
 unfold finv fiv
 rw [wf_toF]
 unfold Nt.invN
 rw [Nat.mod_mod]; rfl
theorem fiv_mul {x : Fp} (h : x ≠ 0) : fiv x * x = 1 := by
 have hn : ¬ Nt.pP ∣ x.val := fun hd => by
  have h1 := Nat.eq_zero_of_dvd_of_lt hd x.isLt
  exact h (Fin.ext h1)
 have hf := Nt.fermat Nt.prP hn
 unfold fiv Nt.invN
 have hx : x = Nt.toF Nt.pP x.val := Fin.ext (by rw [toF_val]; exact (Nat.mod_eq_of_lt x.isLt).symm)
 have e : Nt.toF Nt.pP (x.val ^ (Nt.pP - 2) % Nt.pP) * x = Nt.toF Nt.pP (x.val ^ (Nt.pP - 2) * x.val) := by
  rw [Nt.toF_mod, Nt.toF_mul, ← hx]
 rw [e, ← Nt.toF_mod, Nat.mul_comm, Nt.pow_pred (by decide), hf]
 rfl
theorem wf_inj {x y : Fp} (h : (wf x).n = (wf y).n) : x = y := Fin.ext (by rw [wf_n, wf_n] at h; exact h)
theorem wf_eq (x y : Fp) : decide ((wf x).n = (wf y).n) = decide (x = y) := decide_eq_decide.2 ⟨wf_inj, fun h => by rw [h]⟩
/-- A point, as words. -/
structure Pw where
 x : W4
 y : W4
 none : Bool
 deriving DecidableEq
structure Pw.ok (p : Pw) : Prop where
 x : p.x.ok
 y : p.y.ok
abbrev Pw.v (p : Pw) : Value := ptV p.x p.y p.none
abbrev Pw.l (p : Pw) : List Value := ptL p.x p.y p.none
abbrev z4 : W4 := ⟨0, 0, 0, 0⟩
def pw0 : Pw := ⟨z4, z4, true⟩
def pwA (A : Ec.Af Nt.pP) : Pw := ⟨wf A.x, wf A.y, false⟩
def pwO : Option (Ec.Af Nt.pP) → Pw
 | none => pw0
 | some A => pwA A
def pw (A : Pt) : Pw := pwO A.p
theorem z4_ok : z4.ok := by constructor <;> decide
theorem pwO_ok (A : Option (Ec.Af Nt.pP)) : (pwO A).ok := by
 cases A with
 | none => exact ⟨z4_ok, z4_ok⟩
 | some A => exact ⟨wf_ok _, wf_ok _⟩
theorem pw_ok (A : Pt) : (pw A).ok := pwO_ok _
instance : DecidableEq (Ec.Af Nt.pP) := fun A B => decidable_of_iff (A.x = B.x ∧ A.y = B.y) ⟨fun h => Ec.Af.ext h.1 h.2, fun h => by rw [h]; exact ⟨rfl, rfl⟩⟩
def afv (p : Pw) : Ec.Af Nt.pP := ⟨fv p.x, fv p.y⟩
/-- Is it one of the curve's? -/
def OnW (p : Pw) : Prop := p.none = false ∧ p.x.n < Nt.pP ∧ p.y.n < Nt.pP ∧ Ec.On cvP.a cvP.b (afv p)
instance (p : Pw) : Decidable (OnW p) := by unfold OnW Ec.On; infer_instance
def own (p : Pw) : Pt := if h : OnW p then ⟨some (afv p), fun _ e => by cases e; exact h.2.2.2⟩ else Ec.E.zero
theorem own_on {p : Pw} (hp : p.ok) (h : OnW p) : pw (own p) = p := by
 unfold own
 rw [dif_pos h]
 obtain ⟨x, y, n⟩ := p
 obtain ⟨h1, h2, h3, _⟩ := h
 dsimp only at h1 h2 h3
 subst h1
 show (⟨wf (fv x), wf (fv y), false⟩ : Pw) = _
 rw [wf_fv hp.x h2, wf_fv hp.y h3]
theorem own_off {p : Pw} (h : ¬ OnW p) : pw (own p) = pw0 := by
 unfold own
 rw [dif_neg h]; rfl
theorem own_pw (A : Pt) : own (pw A) = A := by
 obtain ⟨p, hp⟩ := A
 cases p with
 | none =>
  unfold own
  rw [dif_neg (fun h => by have := h.1; cases this)]; rfl
 | some Q =>
  have ha : afv (pwA Q) = Q := by unfold afv pwA; dsimp only; rw [fv_wf, fv_wf]
  have hO : OnW (pwA Q) := ⟨rfl, wf_lt _, wf_lt _, by rw [ha]; exact hp Q rfl⟩
  unfold own
  rw [show pw ⟨some Q, hp⟩ = pwA Q from rfl, dif_pos hO]
  exact Ec.E.ext (by show some (afv (pwA Q)) = some Q; rw [ha])
end Go.Proofs
/- Points: compared; on the curve or not. -/
set_option autoImplicit false
namespace Go.Proofs
open Go.SL
theorem fldsPt : ([(24, 0), (24, 4), (4, 8)] : List (Nat × Nat)) = (Tryz.prog.fieldsOf 32).toList.map fun f => (f.type, f.offset) := by kernel_rfl
theorem eqgPt : EqG Tryz.prog 32 := ⟨by kernel_rfl⟩
theorem eqvN' {x y : W4} (hx : x.ok) (hy : y.ok) (d : Nat) : EqV Tryz.prog 24 (d + 2) (.agg x.l.toArray) (.agg y.l.toArray) (decide (x.n = y.n)) := by
 rw [← W4.eq_n hx hy]
 exact EqV_arr4 _ _ _ _ _ _ _ _ d
theorem EqV_bool {P : Program} {t : Nat} (d : Nat) (a b : Bool) (u : P.underlying t = some .bool) : EqV P t (d + 1) (.bool a) (.bool b) (a == b) := ⟨fun w => by
 simp [Op.equalIn, run_underlying u]⟩
theorem eqvPt {p q : Pw} (hp : p.ok) (hq : q.ok) : EqV Tryz.prog 32 10000 (.agg p.l.toArray) (.agg q.l.toArray) (decide (p = q)) := by
 have h := EqV_structs (P := Tryz.prog) (d := 9999) (t := 32) (xs := p.l.toArray) (ys := q.l.toArray) (b := decide (p.x.n = q.x.n) && (decide (p.y.n = q.y.n) && ((p.none == q.none) && true))) [(24, 0), (24, 4), (4, 8)] (by kernel_rfl) (by kernel_rfl) fldsPt (by kernel_rfl)
  (.cons _ _ (partA (vs := p.x.l.toArray) Tryz.underlying24 rfl rfl) (partA (vs := q.x.l.toArray) Tryz.underlying24 rfl rfl) (eqvN' hp.x hq.x 9997)
  (.cons _ _ (partA (vs := p.y.l.toArray) Tryz.underlying24 rfl rfl) (partA (vs := q.y.l.toArray) Tryz.underlying24 rfl rfl) (eqvN' hp.y hq.y 9997)
  (.cons _ _ (partS Tryz.underlying4 rfl rfl) (partS Tryz.underlying4 rfl rfl) (EqV_bool 9998 _ _ Tryz.underlying4) .nil)))
 have e : (decide (p.x.n = q.x.n) && (decide (p.y.n = q.y.n) && ((p.none == q.none) && true))) = decide (p = q) := by
  rw [Bool.and_true, Bool.eq_iff_iff]
  simp only [Bool.and_eq_true, decide_eq_true_eq, beq_iff_eq]
  refine ⟨fun ⟨h1, h2, h3⟩ => ?_, fun h => by rw [h]; exact ⟨rfl, rfl, rfl⟩⟩
  obtain ⟨x, y, n⟩ := p
  obtain ⟨x', y', n'⟩ := q
  dsimp only at h1 h2 h3
  have e1 : x = x' := W4.inj hp.x hq.x h1
  have e2 : y = y' := W4.inj hp.y hq.y h2
  rw [e1, e2, h3]
 rw [← e]; exact h
end Go.Proofs
/- Points: on the curve or not; sums on a line. -/
set_option autoImplicit false
namespace Go.Proofs
open Go.SL
def sideF (x : Fp) : Fp := (x * x - 3) * x + bF
abbrev three4 : W4 := ⟨3, 0, 0, 0⟩
theorem three_ok : three4.ok := by constructor <;> decide
theorem fv_three : fv three4 = 3 := rfl
theorem fv_z4 : fv z4 = 0 := rfl
def bW : W4 := ⟨4309448131093880907, 7285987128567378166, 12964664127075681980, 6540974713487397863⟩
theorem bW_ok : bW.ok := by constructor <;> decide
theorem fv_bW : fv bW = bF := by
 have : bW.n = 41058363725152142129326129780047268409114441015993725554835256314039467401291 := by decide
 unfold fv bF; rw [this]
def onB (p : Pw) : Bool := if p.none then decide (p = pw0) else decide (OnW p)
theorem side_on (A : Ec.Af Nt.pP) : (A.y * A.y = sideF A.x) ↔ Ec.On cvP.a cvP.b A := by
 unfold sideF Ec.On
 rw [show cvP.a = -3 from rfl, show cvP.b = bF from rfl]
 have e : ∀ x b : Fp, (x * x - 3) * x + b = x * x * x + -3 * x + b := fun x b => by grobner
 rw [e]
theorem own_onB {p : Pw} (hp : p.ok) : (if onB p then p else pw0) = pw (own p) := by
 unfold onB
 by_cases hn : p.none = true
 ·have : ¬ OnW p := fun h => by rw [h.1] at hn; cases hn
  rw [own_off this, if_pos hn]
  by_cases h : p = pw0
  ·rw [decide_eq_true h, if_pos rfl, h]
  ·rw [decide_eq_false h]; rfl
 ·rw [if_neg hn]
  by_cases h : OnW p
  ·rw [decide_eq_true h, if_pos rfl, own_on hp h]
  ·rw [decide_eq_false h, own_off h]; rfl
def thirdA (P Q : Ec.Af Nt.pP) (l : Fp) : Ec.Af Nt.pP := ⟨l * l - (P.x + Q.x), l * (P.x - (l * l - (P.x + Q.x))) - P.y⟩
theorem add_slope {A B : Pt} {P Q : Ec.Af Nt.pP} {l : Fp} (hA : A.p = some P) (hB : B.p = some Q) (ho : ¬ Ec.Opp P Q)
 (hl : (P.x ≠ Q.x ∧ l * (P.x - Q.x) = P.y - Q.y) ∨ (P = Q ∧ P.y ≠ 0 ∧ l * (2 * P.y) = 3 * P.x * P.x + cvP.a)) : (Ec.E.add A B).p = some (thirdA P Q l) := by
 have hc := Ec.col_of KP (A.on P hA) (B.on Q hB) hl
 have hs : Ec.Sum cvP.a cvP.b A.p B.p (some (thirdA P Q l)) := by
  rw [hA, hB]
  refine .inr ⟨ho, l, _, _, hc, ?_⟩
  unfold thirdA Ec.Af.neg
  have e1 : ∀ l x y : Fp, l * l - (x + y) = l * l - x - y := fun l x y => by grobner
  have e2 : ∀ l x y z : Fp, l * (x - z) - y = -(l * z + (y - l * x)) := fun l x y z => by grobner
  rw [e1, e2]
 exact (Ec.E.add_sum A B).uniq KP hs
attribute [local irreducible] J JL QOp JOp seqQ blockQ loopQ retQ slc cel hex star pur stars Does RV Ent pAt scopeQ
section
variable (E : World)
theorem pb_ok : Does Tryz.prog E 165 [] [] fun r L => r = bW.v ∧ L = [] := by
 refine Does.of Tryz.func165 rfl Tryz.ntmps165 rfl rfl fun F => ?_
 refine Xb ?_
 refine L_o rfl rfl rfl (O_alloc fun b0 => ?_)
 refine Ln ?_
 refine XW ?_
 exact XcN
theorem faddE (a b : W4) (ha : a.ok) (hb : b.ok) : Does Tryz.prog E 152 [a.v, b.v] [] fun r L => r = (wf (fv a + fv b)).v ∧ L = [] := by
 have := fadd_ok E a b ha hb; rwa [fadd_wf] at this
theorem fsubE (a b : W4) (ha : a.ok) (hb : b.ok) : Does Tryz.prog E 102 [a.v, b.v] [] fun r L => r = (wf (fv a - fv b)).v ∧ L = [] := by
 have := fsub_ok E a b ha hb; rwa [fsub_wf] at this
theorem fmulE (a b : W4) (ha : a.ok) (hb : b.ok) : Does Tryz.prog E 101 [a.v, b.v] [] fun r L => r = (wf (fv a * fv b)).v ∧ L = [] := by
 have := fmul_ok E a b ha hb; rwa [fmul_wf] at this
theorem faddF (x y : Fp) : Does Tryz.prog E 152 [(wf x).v, (wf y).v] [] fun r L => r = (wf (x + y)).v ∧ L = [] := by
 have := faddE E (wf x) (wf y) (wf_ok _) (wf_ok _); rwa [fv_wf, fv_wf] at this
theorem fsubF (x y : Fp) : Does Tryz.prog E 102 [(wf x).v, (wf y).v] [] fun r L => r = (wf (x - y)).v ∧ L = [] := by
 have := fsubE E (wf x) (wf y) (wf_ok _) (wf_ok _); rwa [fv_wf, fv_wf] at this
theorem fmulF (x y : Fp) : Does Tryz.prog E 101 [(wf x).v, (wf y).v] [] fun r L => r = (wf (x * y)).v ∧ L = [] := by
 have := fmulE E (wf x) (wf y) (wf_ok _) (wf_ok _); rwa [fv_wf, fv_wf] at this
theorem finvF (x : Fp) : Does Tryz.prog E 103 [(wf x).v] [] fun r L => r = (wf (fiv x)).v ∧ L = [] := by
 have := finv_ok E (wf x) (wf_ok _); rwa [finv_wf, fv_wf] at this
theorem fsub3F (x : Fp) : Does Tryz.prog E 102 [(wf x).v, three4.v] [] fun r L => r = (wf (x - 3)).v ∧ L = [] := by
 have := fsubE E (wf x) three4 (wf_ok _) three_ok; rwa [fv_wf, fv_three] at this
theorem fneg0F (x : Fp) : Does Tryz.prog E 102 [z4.v, (wf x).v] [] fun r L => r = (wf (-x)).v ∧ L = [] := by
 have := fsubE E z4 (wf x) z4_ok (wf_ok _); rwa [fv_wf, fv_z4, show (0 : Fp) - x = -x by grobner] at this
theorem side_ok (x : W4) (hx : x.ok) : Does Tryz.prog E 122 [x.v] [] fun r L => r = (wf (sideF (fv x))).v ∧ L = [] := by
 have h1 := fmulE E x x hx hx
 have h2 := fsub3F E (fv x * fv x)
 have h3 := fmulE E (wf (fv x * fv x - 3)) x (wf_ok _) hx
 rw [fv_wf] at h3
 have h4 := faddE E (wf ((fv x * fv x - 3) * fv x)) bW (wf_ok _) bW_ok
 rw [fv_wf, fv_bW] at h4
 refine Does.of Tryz.func122 rfl Tryz.ntmps122 rfl rfl fun F => ?_
 refine Xb ?_
 refine L_o rfl rfl rfl (O_box rfl fun b1 => ?_)
 refine L_o rfl rfl rfl (O_alloc fun b2 => ?_)
 refine Ln ?_
 refine XM ?_
 refine XI ?_
 refine L_o rfl rfl rfl (O_callP (h1) rfl ?_)
 refine Xk ?_
 refine L_o rfl rfl rfl (O_callP (h2) rfl ?_)
 refine L_o rfl rfl rfl (O_alloc fun b3 => ?_)
 refine XG ?_
 refine Xo ?_
 refine X0 ?_
 refine L_o rfl rfl rfl (O_callP (h3) rfl ?_)
 refine L_o rfl rfl rfl (O_callP (pb_ok E) rfl ?_)
 refine L_o rfl rfl rfl (O_callP (h4) rfl ?_)
 refine XaH ?_
 exact XeI
theorem on_ok (p : Pw) (hp : p.ok) : Does Tryz.prog E 72 [p.v] [] fun r L => r = .bool (onB p) ∧ L = [] := by
 obtain ⟨x, y, n⟩ := p
 cases n with
 | true =>
  have hq := eqvPt (p := ⟨x, y, true⟩) (q := pw0) hp ⟨z4_ok, z4_ok⟩
  refine Does.of Tryz.func72 rfl Tryz.ntmps72 rfl rfl fun F => ?_
  refine Xb ?_
  refine L_o rfl rfl rfl (O_box rfl fun b1 => ?_)
  refine Xn ?_
  refine XaT ?_
  refine Xm ?_
  refine Xo ?_
  refine Xk ?_
  refine Lq (Q_geql eqgPt hq rfl rfl) ?_
  refine Xap ?_
  exact Xe9
 | false =>
  have hx := fvalid_ok E x hp.x
  have hy := fvalid_ok E y hp.y
  have h1 := fmulE E y y hp.y hp.y
  have h2 := side_ok E x hp.x
  have he := eqvN (wf_ok (fv y * fv y)) (wf_ok (sideF (fv x)))
  rw [wf_eq] at he
  by_cases b1 : x.n < Nt.pP
  ·rw [decide_eq_true b1] at hx
   by_cases b2 : y.n < Nt.pP
   ·rw [decide_eq_true b2] at hy
    have e : decide (fv y * fv y = sideF (fv x)) = onB ⟨x, y, false⟩ := by
     unfold onB
     rw [if_neg (show ¬ (false = true) by decide)]
     exact decide_eq_decide.2 ⟨fun h => ⟨rfl, b1, b2, (side_on ⟨fv x, fv y⟩).1 h⟩, fun h => (side_on ⟨fv x, fv y⟩).2 h.2.2.2⟩
    rw [e] at he
    generalize onB ⟨x, y, false⟩ = o at *
    refine Does.of Tryz.func72 rfl Tryz.ntmps72 rfl rfl fun F => ?_
    refine Xb ?_
    refine L_o rfl rfl rfl (O_box rfl fun b1 => ?_)
    refine Xn ?_
    refine XaT ?_
    refine Xay ?_
    refine Xer ?_
    refine XaV ?_
    refine S_o rfl rfl rfl rfl (O_callP (hx) rfl ⟨_, fun _ => ⟨Ent.reN [0] rfl, Ent.refl _⟩, ?_⟩)
    refine Xa ?_
    refine XU ?_
    refine XbQ ?_
    refine XaV ?_
    refine S_o rfl rfl rfl rfl (O_callP (hy) rfl ⟨_, fun _ => ⟨Ent.reN [0] rfl, Ent.refl _⟩, ?_⟩)
    refine Xa ?_
    refine Sq (Ent.re [0] rfl) rfl (Q_pickT rfl rfl) ?_
    refine XU ?_
    refine XbQ ?_
    refine XaV ?_
    refine XbQ ?_
    refine XaV ?_
    refine XbQ ?_
    refine XaV ?_
    refine S_o rfl rfl rfl rfl (O_callP (h1) rfl ⟨_, fun _ => ⟨Ent.reN [0] rfl, Ent.refl _⟩, ?_⟩)
    refine Xa ?_
    refine S_o rfl rfl rfl rfl (O_callP (h2) rfl ⟨_, fun _ => ⟨Ent.reN [0] rfl, Ent.refl _⟩, ?_⟩)
    refine Xa ?_
    refine Sq (Ent.re [0] rfl) rfl (Q_geql eqgN he rfl rfl) ?_
    refine Sq (Ent.re [0] rfl) rfl (Q_pickT rfl rfl) ?_
    exact XcM
   ·rw [decide_eq_false b2] at hy
    have e : onB ⟨x, y, false⟩ = false := by
     unfold onB; rw [if_neg (show ¬ (false = true) by decide)]; exact decide_eq_false fun h => b2 h.2.2.1
    rw [e]
    refine Does.of Tryz.func72 rfl Tryz.ntmps72 rfl rfl fun F => ?_
    refine Xb ?_
    refine L_o rfl rfl rfl (O_box rfl fun b1 => ?_)
    refine Xn ?_
    refine XaT ?_
    refine Xay ?_
    refine Xer ?_
    refine XaV ?_
    refine S_o rfl rfl rfl rfl (O_callP (hx) rfl ⟨_, fun _ => ⟨Ent.reN [0] rfl, Ent.refl _⟩, ?_⟩)
    refine Xa ?_
    refine XU ?_
    refine XbQ ?_
    refine XaV ?_
    refine S_o rfl rfl rfl rfl (O_callP (hy) rfl ⟨_, fun _ => ⟨Ent.reN [0] rfl, Ent.refl _⟩, ?_⟩)
    refine Xa ?_
    refine Sq (Ent.re [0] rfl) rfl (Q_pickT rfl rfl) ?_
    refine XU ?_
    refine Xc6 ?_
    refine Xc6 ?_
    refine Xe4 ?_
    refine S_no rfl rfl rfl rfl (fun _ => (Ent.re [0] rfl)) ?_
    refine S_n (Ent.re [0] rfl) rfl rfl rfl rfl ?_
    refine Sq (Ent.re [0] rfl) rfl (Q_pickF rfl rfl) ?_
    exact XcM
  ·rw [decide_eq_false b1] at hx
   have e : onB ⟨x, y, false⟩ = false := by
    unfold onB; rw [if_neg (show ¬ (false = true) by decide)]; exact decide_eq_false fun h => b1 h.2.1
   rw [e]
   refine Does.of Tryz.func72 rfl Tryz.ntmps72 rfl rfl fun F => ?_
   refine Xb ?_
   refine L_o rfl rfl rfl (O_box rfl fun b1 => ?_)
   refine Xn ?_
   refine XaT ?_
   refine Xay ?_
   refine Xer ?_
   refine XaV ?_
   refine S_o rfl rfl rfl rfl (O_callP (hx) rfl ⟨_, fun _ => ⟨Ent.reN [0] rfl, Ent.refl _⟩, ?_⟩)
   refine Xa ?_
   refine XU ?_
   refine Xe4 ?_
   refine Sq (Ent.re [0] rfl) rfl (Q_pickF rfl rfl) ?_
   refine XU ?_
   refine Xc6 ?_
   refine Xc6 ?_
   refine Xe4 ?_
   refine S_no rfl rfl rfl rfl (fun _ => (Ent.re [0] rfl)) ?_
   refine S_n (Ent.re [0] rfl) rfl rfl rfl rfl ?_
   refine Sq (Ent.re [0] rfl) rfl (Q_pickF rfl rfl) ?_
   exact XcM
theorem own_ok (p : Pw) (hp : p.ok) : Does Tryz.prog E 26 [p.v] [] fun r L => r = (pw (own p)).v ∧ L = [] := by
 have ho := on_ok E p hp
 rw [← own_onB hp]
 cases hb : onB p with
 | true =>
  rw [hb] at ho
  refine Does.of Tryz.func26 rfl Tryz.ntmps26 rfl rfl fun F => ?_
  refine Xb ?_
  refine L_o rfl rfl rfl (O_box rfl fun b1 => ?_)
  refine L_o rfl rfl rfl (O_alloc fun b2 => ?_)
  refine Xt ?_
  refine Xdu ?_
  refine Xm ?_
  refine XM ?_
  refine XG ?_
  refine Xa1 ?_
  exact Xf3
 | false =>
  rw [hb] at ho
  refine Does.of Tryz.func26 rfl Tryz.ntmps26 rfl rfl fun F => ?_
  refine Xb ?_
  refine L_o rfl rfl rfl (O_box rfl fun b1 => ?_)
  refine L_o rfl rfl rfl (O_alloc fun b2 => ?_)
  refine Xt ?_
  refine Xdu ?_
  refine Xy ?_
  refine XW ?_
  refine XG ?_
  exact XcJ
end
end Go.Proofs
