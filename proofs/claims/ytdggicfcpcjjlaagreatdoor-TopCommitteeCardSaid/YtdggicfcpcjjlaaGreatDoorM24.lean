/- Part 24 of the texts below the row: Jac1. -/
import Derived.Test.YtdggicfcpcjjlaaGreatDoorM1
import Derived.Test.YtdggicfcpcjjlaaGreatDoorM13
import Derived.Test.YtdggicfcpcjjlaaGreatDoorM21
import Derived.Test.YtdggicfcpcjjlaaGreatDoorM23
/- Points without divisions: in, twice, doubled. -/
set_option autoImplicit false
namespace Go.Proofs
open Go.SL
def RF : Fp := Nt.toF Nt.pP 115792089237316195423570985008687907853269984665640564039457584007913129639936
def riF : Fp := Nt.toF Nt.pP 115792089183396302114378112356516095823261736990586219612555396166510339686400
theorem RF_ri : RF * riF = 1 := by decide +kernel
theorem RF_rr : Nt.toF Nt.pP rrP.n * riF = RF := by decide +kernel
theorem RF_ne : RF ≠ 0 := by decide +kernel
/-- A number of the field, times 2^256. -/
def mw (x : Fp) : W4 := wf (x * RF)
theorem mw_ok (x : Fp) : (mw x).ok := wf_ok _
theorem mw_lt (x : Fp) : (mw x).n < mP.n := by rw [mP_n]; exact wf_lt _
theorem fv_mw (x : Fp) : fv (mw x) = x * RF := fv_wf _
theorem mm_wf (a b : W4) : mm mP 115792089183396302114378112356516095823261736990586219612555396166510339686400 a b = wf (fv a * fv b * riF) := by
 unfold mm fv riF
 rw [← Nt.toF_mul, ← Nt.toF_mul, wf_toF, mP_n]
theorem mw_mul (x y : Fp) : mm mP 115792089183396302114378112356516095823261736990586219612555396166510339686400 (mw x) (mw y) = mw (x * y) := by
 rw [mm_wf, fv_mw, fv_mw]
 unfold mw
 have e : ∀ x y r i : Fp, r * i = 1 → x * r * (y * r) * i = x * y * r := fun x y r i h => by
  have : x * r * (y * r) * i = x * y * r * (r * i) := by grobner
  rw [this, h]; grobner
 rw [e x y RF riF RF_ri]
theorem mw_in (a : W4) : mm mP 115792089183396302114378112356516095823261736990586219612555396166510339686400 a rrP = mw (fv a) := by
 rw [mm_wf]
 unfold mw
 have : fv a * fv rrP * riF = fv a * (fv rrP * riF) := by grobner
 rw [this, show fv rrP * riF = RF from RF_rr]
theorem mw_out (x : Fp) : mm mP 115792089183396302114378112356516095823261736990586219612555396166510339686400 (mw x) one4 = wf x := by
 rw [mm_wf, fv_mw, show fv one4 = 1 from rfl]
 have e : ∀ x r i : Fp, r * i = 1 → x * r * 1 * i = x := fun x r i h => by
  have : x * r * 1 * i = x * (r * i) := by grobner
  rw [this, h]; grobner
 rw [e x RF riF RF_ri]
theorem mw_zero : mw 0 = z4 := by unfold mw; rw [show (0 : Fp) * RF = 0 by grobner]; rfl
theorem mw_z {x : Fp} : decide ((mw x).n = z4.n) = decide (x = 0) := by
 refine decide_eq_decide.2 ⟨fun h => ?_, fun h => by rw [h, mw_zero]⟩
 have h1 : x * RF = 0 := wf_inj (x := x * RF) (y := 0) h
 rcases KP.z _ _ h1 with h | h
 ·exact h
 ·exact absurd h RF_ne
abbrev Jq := Ec.Jp Nt.pP
abbrev jL (j : Jq) : List Value := [u64 (mw j.X).a, u64 (mw j.X).b, u64 (mw j.X).c, u64 (mw j.X).d, u64 (mw j.Y).a, u64 (mw j.Y).b, u64 (mw j.Y).c, u64 (mw j.Y).d, u64 (mw j.Z).a, u64 (mw j.Z).b, u64 (mw j.Z).c, u64 (mw j.Z).d]
abbrev jv (j : Jq) : Value := .agg (jL j).toArray
abbrev cuL : List Value := [u64 mP.a, u64 mP.b, u64 mP.c, u64 mP.d, u64 1, u64 rrP.a, u64 rrP.b, u64 rrP.c, u64 rrP.d, u64 (mw 1).a, u64 (mw 1).b, u64 (mw 1).c, u64 (mw 1).d]
abbrev cuV : Value := .agg cuL.toArray
abbrev mPV : Value := modV mP 1 rrP
def jz : Jq := ⟨0, 0, 0⟩
theorem jz_l : jL jz = [u64 0, u64 0, u64 0, u64 0, u64 0, u64 0, u64 0, u64 0, u64 0, u64 0, u64 0, u64 0] := by
 unfold jL jz; dsimp only; rw [mw_zero]
attribute [local irreducible] J JL QOp JOp seqQ blockQ loopQ retQ slc cel hex star pur stars Does RV Ent pAt scopeQ
section
variable (E : World)
theorem mulM (x y : Fp) : Does Tryz.prog E 144 [mPV, (mw x).v, (mw y).v] [] fun r L => r = (mw (x * y)).v ∧ L = [] := by
 rw [← mw_mul]
 exact mmulE E mP rrP 1 _ mokP (mw x) (mw y) (mw_ok x) (mw_ok y) (.inl (mw_lt x))
theorem addM (x y : Fp) : Does Tryz.prog E 96 [mPV, (mw x).v, (mw y).v] [] fun r L => r = (mw (x + y)).v ∧ L = [] := by
 have h := madd_ok E mP rrP 1 mokP.ok (mw x) (mw y) (mw_ok x) (mw_ok y) (mw_lt x) (mw_lt y)
 have e : W4.of (((mw x).n + (mw y).n) % mP.n) = mw (x + y) := by
  have := fadd_wf (mw x) (mw y)
  unfold fadd at this
  rw [mP_n, this, fv_mw, fv_mw]
  unfold mw
  rw [show x * RF + y * RF = (x + y) * RF by grobner]
 rw [e] at h; exact h
theorem subM (x y : Fp) : Does Tryz.prog E 153 [mPV, (mw x).v, (mw y).v] [] fun r L => r = (mw (x - y)).v ∧ L = [] := by
 have h := msub_ok E mP rrP 1 mokP.ok (mw x) (mw y) (mw_ok x) (mw_ok y) (mw_lt x) (mw_lt y)
 have e : W4.of (((mw x).n + mP.n - (mw y).n) % mP.n) = mw (x - y) := by
  have := fsub_wf (mw x) (mw y)
  unfold fsub at this
  have l1 := mw_lt x; have l2 := mw_lt y
  rw [mP_n] at l1 l2
  rw [Nat.mod_eq_of_lt l1, Nat.mod_eq_of_lt l2] at this
  rw [mP_n, this, fv_mw, fv_mw]
  unfold mw
  rw [show x * RF - y * RF = (x - y) * RF by grobner]
 rw [e] at h; exact h
theorem inM (a : W4) (ha : a.ok) : Does Tryz.prog E 128 [mPV, a.v] [] fun r L => r = (mw (fv a)).v ∧ L = [] := by
 rw [← mw_in]
 exact minE E mP rrP 1 _ mokP a ha rrP_ok rrP_n
theorem outM (x : Fp) : Does Tryz.prog E 175 [mPV, (mw x).v] [] fun r L => r = (wf x).v ∧ L = [] := by
 rw [← mw_out]
 exact moutE E mP rrP 1 _ mokP (mw x) (mw_ok x) (by rw [mP_n]; decide)
theorem invM (x : Fp) : Does Tryz.prog E 129 [mPV, (wf x).v] [] fun r L => r = (wf (fiv x)).v ∧ L = [] := by
 have h2 := minvE E mP rrP (wf x) 1 mokP.ok (by rw [mP_n]; exact Nt.prP) (by rw [mP_n]; decide) (by rw [mP_n]) (wf_ok x) (by rw [mP_n]; exact wf_lt x)
 have e : invW mP (wf x) = wf (fiv x) := by
  have h := finv_of (wf x)
  have hl := wf_lt x
  rw [mP_n, Nat.mod_eq_of_lt hl, W4.of_n (wf_ok x), finv_wf, fv_wf] at h
  exact h
 rw [e] at h2; exact h2
theorem jnew_ok : Does Tryz.prog E 76 [] [] fun r L => r = cuV ∧ L = [] := by
 have h := inM E one4 one4_ok
 rw [show fv one4 = 1 from rfl] at h
 refine Does.of Tryz.func76 rfl Tryz.ntmps76 rfl rfl fun F => ?_
 refine Xb ?_
 refine L_o rfl rfl rfl (O_alloc fun b0 => ?_)
 refine Xdt ?_
 refine L_o rfl rfl rfl (O_alloc fun b1 => ?_)
 refine XB ?_
 refine DH [0] [0,1,2,4] (.quiet 0 (.quiet 1 (.quiet 2 (.loud 3 (.quiet 4 (.loud 5 .done)))))) Tryz.mixed ?_
 refine XaV ?_
 refine XaV ?_
 refine Sq (Ent.re [0] rfl) rfl (Q_build rfl) ?_
 refine S_o rfl rfl rfl rfl (O_callP (h) rfl ⟨_, fun _ => ⟨Ent.reN [0] rfl, Ent.refl _⟩, ?_⟩)
 refine Xa ?_
 refine Sq (Ent.re [0] rfl) rfl (Q_build rfl) ?_
 refine Xbd ?_
 refine J_ret ?_
 exact retQ_ret _ [] (.cons (RV_cell 1 rfl rfl rfl rfl) .nil) ⟨rfl, rfl⟩ (Ent.re [2] rfl)
theorem twice_ok (x : Fp) : Does Tryz.prog E 179 [cuV, (mw x).v] [] fun r L => r = (mw (x + x)).v ∧ L = [] := by
 refine Does.of Tryz.func179 rfl Tryz.ntmps179 rfl rfl fun F => ?_
 refine Xb ?_
 refine L_o rfl rfl rfl (O_box rfl fun b2 => ?_)
 refine L_o rfl rfl rfl (O_box rfl fun b3 => ?_)
 refine L_o rfl rfl rfl (O_alloc fun b4 => ?_)
 refine Ln ?_
 refine X3 ?_
 refine X0 ?_
 refine XI ?_
 refine XI ?_
 refine L_o rfl rfl rfl (O_callP (addM E x x) rfl ?_)
 refine XG ?_
 exact Xda
theorem jdbl_ok (j : Jq) : Does Tryz.prog E 133 [cuV, jv j] [] fun r L => r = jv (Ec.jdbl j) ∧ L = [] := by
 obtain ⟨X, Y, Z⟩ := j
 have hz := eqvN (mw_ok Z) z4_ok
 rw [mw_z] at hz
 by_cases h0 : Z = 0
 ·rw [decide_eq_true h0] at hz
  rw [show Ec.jdbl (⟨X, Y, Z⟩ : Jq) = ⟨X, Y, Z⟩ by unfold Ec.jdbl; rw [if_pos h0]]
  refine Does.of Tryz.func133 rfl Tryz.ntmps133 rfl rfl fun F => ?_
  refine Xb ?_
  refine L_o rfl rfl rfl (O_box rfl fun b2 => ?_)
  refine L_o rfl rfl rfl (O_box rfl fun b3 => ?_)
  refine L_o rfl rfl rfl (O_alloc fun b4 => ?_)
  refine Xt ?_
  refine XbS ?_
  refine XbR ?_
  refine Xm ?_
  refine XM ?_
  refine Xbh ?_
  exact Xc8
 ·rw [decide_eq_false h0] at hz
  rw [show Ec.jdbl (⟨X, Y, Z⟩ : Jq) = Ec.jdbl0 ⟨X, Y, Z⟩ by unfold Ec.jdbl; rw [if_neg h0]]
  unfold Ec.jdbl0
  dsimp only
  have m1 := mulM E Z Z
  have m2 := mulM E Y Y
  have m3 := mulM E X (Y * Y)
  have m4 := subM E X (Z * Z)
  have m5 := addM E X (Z * Z)
  generalize Z * Z = de at *
  generalize Y * Y = ga at *
  generalize X * ga = be at *
  have m6 := mulM E (X - de) (X + de)
  generalize (X - de) * (X + de) = al0 at *
  have m7 := twice_ok E al0
  have m8 := addM E al0 (al0 + al0)
  generalize al0 + (al0 + al0) = al at *
  have m9 := twice_ok E be
  have m10 := twice_ok E (be + be)
  generalize be + be + (be + be) = fo at *
  have m11 := mulM E al al
  have m12 := twice_ok E fo
  have m13 := subM E (al * al) (fo + fo)
  generalize al * al - (fo + fo) = x at *
  have m14 := addM E Y Z
  have m15 := mulM E (Y + Z) (Y + Z)
  have m16 := subM E ((Y + Z) * (Y + Z)) ga
  have m17 := subM E ((Y + Z) * (Y + Z) - ga) de
  generalize (Y + Z) * (Y + Z) - ga - de = z at *
  have m18 := mulM E ga ga
  have m19 := twice_ok E (ga * ga)
  have m20 := twice_ok E (ga * ga + ga * ga)
  have m21 := twice_ok E (ga * ga + ga * ga + (ga * ga + ga * ga))
  generalize ga * ga + ga * ga + (ga * ga + ga * ga) + (ga * ga + ga * ga + (ga * ga + ga * ga)) = g at *
  have m22 := subM E fo x
  have m23 := mulM E al (fo - x)
  have m24 := subM E (al * (fo - x)) g
  refine Does.of Tryz.func133 rfl Tryz.ntmps133 rfl rfl fun F => ?_
  refine Xb ?_
  refine L_o rfl rfl rfl (O_box rfl fun b2 => ?_)
  refine L_o rfl rfl rfl (O_box rfl fun b3 => ?_)
  refine L_o rfl rfl rfl (O_alloc fun b4 => ?_)
  refine Xt ?_
  refine XbS ?_
  refine XbR ?_
  refine Xy ?_
  refine X3 ?_
  refine X0 ?_
  refine L_o rfl rfl rfl (O_alloc fun b5 => ?_)
  refine XB ?_
  refine J_flo [0,2] [0,1,2,3,4,6,7,8,9,10] [⟨12, 6, 24, [.int .u64 0, .int .u64 0, .int .u64 0, .int .u64 0]⟩, ⟨13, 7, 24, [.int .u64 0, .int .u64 0, .int .u64 0, .int .u64 0]⟩] [(false, 0), (false, 1), (false, 2), (false, 3), (false, 4), (false, 6), (false, 7), (false, 8), (false, 9), (false, 10), (true, 5), (true, 11)] (.loud 14 (.loud 15 .done)) Tryz.mixed (by kernel_rfl) (by kernel_rfl) (by repeat (first | exact retQ_noP | refine seqQ_noP ?_ | refine blockQ_noP ?_ | refine loopQ_noP ?_ | refine scopeQ_noP ?_ | (intro _ _ _ h; cases h.1))) (List.forall_mem_cons.2 ⟨AlOk.of rfl rfl rfl, (List.forall_mem_cons.2 ⟨AlOk.of rfl rfl rfl, (List.forall_mem_nil _)⟩)⟩) rfl ?_
  refine Xek ?_
  refine XdS ?_
  refine XdS ?_
  refine Xek ?_
  refine XdS ?_
  refine XdS ?_
  refine F_o (Ent.re [0,2] rfl) rfl rfl rfl rfl fun X => O_callP (m1) rfl ⟨_, _, rfl, fun _ => ⟨(Ent.re [0,2] rfl), Ent.refl _⟩, ?_⟩
  refine F_o (Ent.re [0,2] rfl) rfl rfl rfl rfl fun X => O_callP (m2) rfl ⟨_, _, rfl, fun _ => ⟨(Ent.re [0,2] rfl), Ent.refl _⟩, ?_⟩
  refine F_nil (Ent.re [0,2] rfl) (land2 fun b6 b7 => ?_)
  refine Xau ?_
  refine Xbd ?_
  refine XZ ?_
  refine XD ?_
  refine XaU ?_
  refine XI ?_
  refine L_o rfl rfl rfl (O_callP (m3) rfl ?_)
  refine L_o rfl rfl rfl (O_alloc fun b8 => ?_)
  refine XB ?_
  refine J_flo [1,3,5] [0,1,2,3,4,6,7,8,9] [⟨12, 9, 24, [.int .u64 0, .int .u64 0, .int .u64 0, .int .u64 0]⟩] [(false, 0), (false, 1), (false, 2), (false, 3), (false, 4), (false, 6), (false, 7), (false, 8), (false, 9), (true, 5), (true, 10), (true, 11)] (.loud 13 .done) Tryz.mixed (by kernel_rfl) (by kernel_rfl) (by repeat (first | exact retQ_noP | refine seqQ_noP ?_ | refine blockQ_noP ?_ | refine loopQ_noP ?_ | refine scopeQ_noP ?_ | (intro _ _ _ h; cases h.1))) (List.forall_mem_cons.2 ⟨AlOk.of rfl rfl rfl, (List.forall_mem_nil _)⟩) rfl ?_
  refine F_q (Ent.re [1,3,5] rfl) rfl (Q_ldA 1 rfl rfl rfl) rfl rfl rfl ?_
  refine XfY ?_
  refine XfN ?_
  refine XfY ?_
  refine XfN ?_
  refine F_o (Ent.re [1,3,5] rfl) rfl rfl rfl rfl fun X => O_callP (m4) rfl ⟨_, _, rfl, fun _ => ⟨(Ent.re [1,3,5] rfl), Ent.refl _⟩, ?_⟩
  refine F_o (Ent.re [1,3,5] rfl) rfl rfl rfl rfl fun X => O_callP (m5) rfl ⟨_, _, rfl, fun _ => ⟨(Ent.re [1,3,5] rfl), Ent.refl _⟩, ?_⟩
  refine F_o (Ent.re [1,3,5] rfl) rfl rfl rfl rfl fun X => O_callP (m6) rfl ⟨_, _, rfl, fun _ => ⟨(Ent.re [1,3,5] rfl), Ent.refl _⟩, ?_⟩
  refine F_nil (Ent.re [1,3,5] rfl) (land1 fun b9 => ?_)
  refine Xar ?_
  refine DH [0,4,7] [0,1,2,3] (.quiet 0 (.quiet 1 (.quiet 2 (.quiet 3 (.loud 4 (.loud 5 (.loud 6 .done))))))) Tryz.mixed ?_
  refine Sq (Ent.re [0,4,7] rfl) rfl (Q_ldA 1 rfl rfl rfl) ?_
  refine Sq (Ent.re [0,4,7] rfl) rfl (Q_ldA 0 rfl rfl rfl) ?_
  refine Sq (Ent.re [0,4,7] rfl) rfl (Q_ldA 2 rfl rfl rfl) ?_
  refine Sq (Ent.re [0,4,7] rfl) rfl (Q_ldA 0 rfl rfl rfl) ?_
  refine S_o rfl rfl rfl rfl (O_callP (m7) rfl ⟨_, fun _ => ⟨Ent.reN [0,4,7] rfl, Ent.refl _⟩, ?_⟩)
  refine Xa ?_
  refine S_o rfl rfl rfl rfl (O_callP (m8) rfl ⟨[], free_no (by kernel_rfl), ?_⟩)
  refine Xa ?_
  refine Xar ?_
  refine J_flo [1,7] [0,1,2] [⟨5, 10, 24, [.int .u64 0, .int .u64 0, .int .u64 0, .int .u64 0]⟩] [(false, 0), (false, 1), (false, 2), (true, 3), (true, 4)] (.loud 6 .done) Tryz.mixed (by kernel_rfl) (by kernel_rfl) (by repeat (first | exact retQ_noP | refine seqQ_noP ?_ | refine blockQ_noP ?_ | refine loopQ_noP ?_ | refine scopeQ_noP ?_ | (intro _ _ _ h; cases h.1))) (List.forall_mem_cons.2 ⟨AlOk.of rfl rfl rfl, (List.forall_mem_nil _)⟩) rfl ?_
  refine F_q (Ent.re [1,7] rfl) rfl (Q_ldA 1 rfl rfl rfl) rfl rfl rfl ?_
  refine F_q (Ent.re [1,7] rfl) rfl (Q_ldA 1 rfl rfl rfl) rfl rfl rfl ?_
  refine F_q (Ent.re [1,7] rfl) rfl (Q_ldA 0 rfl rfl rfl) rfl rfl rfl ?_
  refine F_o (Ent.re [1,7] rfl) rfl rfl rfl rfl fun X => O_callP (m9) rfl ⟨_, _, rfl, fun _ => ⟨(Ent.re [1,7] rfl), Ent.refl _⟩, ?_⟩
  refine F_o (Ent.re [1,7] rfl) rfl rfl rfl rfl fun X => O_callP (m10) rfl ⟨_, _, rfl, fun _ => ⟨(Ent.re [1,7] rfl), Ent.refl _⟩, ?_⟩
  refine F_nil (Ent.re [1,7] rfl) (land1 fun b10 => ?_)
  refine Xar ?_
  refine J_flo [0,1,5,8] [0,1,2,3,5,6] [⟨9, 11, 24, [.int .u64 0, .int .u64 0, .int .u64 0, .int .u64 0]⟩] [(false, 0), (false, 1), (false, 2), (false, 3), (false, 5), (false, 6), (true, 4), (true, 7), (true, 8)] (.loud 10 .done) Tryz.mixed (by kernel_rfl) (by kernel_rfl) (by repeat (first | exact retQ_noP | refine seqQ_noP ?_ | refine blockQ_noP ?_ | refine loopQ_noP ?_ | refine scopeQ_noP ?_ | (intro _ _ _ h; cases h.1))) (List.forall_mem_cons.2 ⟨AlOk.of rfl rfl rfl, (List.forall_mem_nil _)⟩) rfl ?_
  refine F_q (Ent.re [0,1,5,8] rfl) rfl (Q_ldA 2 rfl rfl rfl) rfl rfl rfl ?_
  refine F_q (Ent.re [0,1,5,8] rfl) rfl (Q_ldA 2 rfl rfl rfl) rfl rfl rfl ?_
  refine F_q (Ent.re [0,1,5,8] rfl) rfl (Q_ldA 1 rfl rfl rfl) rfl rfl rfl ?_
  refine F_q (Ent.re [0,1,5,8] rfl) rfl (Q_ldA 1 rfl rfl rfl) rfl rfl rfl ?_
  refine F_q (Ent.re [0,1,5,8] rfl) rfl (Q_ldA 3 rfl rfl rfl) rfl rfl rfl ?_
  refine F_q (Ent.re [0,1,5,8] rfl) rfl (Q_ldA 0 rfl rfl rfl) rfl rfl rfl ?_
  refine F_o (Ent.re [0,1,5,8] rfl) rfl rfl rfl rfl fun X => O_callP (m11) rfl ⟨_, _, rfl, fun _ => ⟨(Ent.re [0,1,5,8] rfl), Ent.refl _⟩, ?_⟩
  refine F_o (Ent.re [0,1,5,8] rfl) rfl rfl rfl rfl fun X => O_callP (m12) rfl ⟨_, _, rfl, fun _ => ⟨(Ent.re [0,1,5,8] rfl), Ent.refl _⟩, ?_⟩
  refine F_o (Ent.re [0,1,5,8] rfl) rfl rfl rfl rfl fun X => O_callP (m13) rfl ⟨_, _, rfl, fun _ => ⟨(Ent.re [0,1,5,8] rfl), Ent.refl _⟩, ?_⟩
  refine F_nil (Ent.re [0,1,5,8] rfl) (land1 fun b11 => ?_)
  refine Xau ?_
  refine Xu ?_
  refine Sr ?_
  refine Lq (Q_ldA 6 rfl rfl rfl) ?_
  refine XD ?_
  refine Lq (Q_ldA 8 rfl rfl rfl) ?_
  refine XD ?_
  refine Lq (Q_ldA 8 rfl rfl rfl) ?_
  refine L_o rfl rfl rfl (O_callP (m14) rfl ?_)
  refine L_o rfl rfl rfl (O_alloc fun b12 => ?_)
  refine XB ?_
  refine J_flo [0,5,6,7] [0,1,2,3,4,6,8] [⟨10, 13, 24, [.int .u64 0, .int .u64 0, .int .u64 0, .int .u64 0]⟩] [(false, 0), (false, 1), (false, 2), (false, 3), (false, 4), (false, 6), (false, 8), (true, 5), (true, 7), (true, 9)] (.loud 11 .done) Tryz.mixed (by kernel_rfl) (by kernel_rfl) (by repeat (first | exact retQ_noP | refine seqQ_noP ?_ | refine blockQ_noP ?_ | refine loopQ_noP ?_ | refine scopeQ_noP ?_ | (intro _ _ _ h; cases h.1))) (List.forall_mem_cons.2 ⟨AlOk.of rfl rfl rfl, (List.forall_mem_nil _)⟩) rfl ?_
  refine F_q (Ent.re [0,5,6,7] rfl) rfl (Q_ldA 3 rfl rfl rfl) rfl rfl rfl ?_
  refine F_q (Ent.re [0,5,6,7] rfl) rfl (Q_ldA 3 rfl rfl rfl) rfl rfl rfl ?_
  refine F_q (Ent.re [0,5,6,7] rfl) rfl (Q_ldA 3 rfl rfl rfl) rfl rfl rfl ?_
  refine F_q (Ent.re [0,5,6,7] rfl) rfl (Q_ldA 0 rfl rfl rfl) rfl rfl rfl ?_
  refine F_q (Ent.re [0,5,6,7] rfl) rfl (Q_ldA 0 rfl rfl rfl) rfl rfl rfl ?_
  refine F_q (Ent.re [0,5,6,7] rfl) rfl (Q_ldA 2 rfl rfl rfl) rfl rfl rfl ?_
  refine F_q (Ent.re [0,5,6,7] rfl) rfl (Q_ldA 1 rfl rfl rfl) rfl rfl rfl ?_
  refine F_o (Ent.re [0,5,6,7] rfl) rfl rfl rfl rfl fun X => O_callP (m15) rfl ⟨_, _, rfl, fun _ => ⟨(Ent.re [0,5,6,7] rfl), Ent.refl _⟩, ?_⟩
  refine F_o (Ent.re [0,5,6,7] rfl) rfl rfl rfl rfl fun X => O_callP (m16) rfl ⟨_, _, rfl, fun _ => ⟨(Ent.re [0,5,6,7] rfl), Ent.refl _⟩, ?_⟩
  refine F_o (Ent.re [0,5,6,7] rfl) rfl rfl rfl rfl fun X => O_callP (m17) rfl ⟨_, _, rfl, fun _ => ⟨(Ent.re [0,5,6,7] rfl), Ent.refl _⟩, ?_⟩
  refine F_nil (Ent.re [0,5,6,7] rfl) (land1 fun b13 => ?_)
  refine Xar ?_
  refine J_flo [7,8,11] [0,1,2,3,4,5] [⟨10, 14, 24, [.int .u64 0, .int .u64 0, .int .u64 0, .int .u64 0]⟩] [(false, 0), (false, 1), (false, 2), (false, 3), (false, 4), (false, 5), (true, 6), (true, 7), (true, 8), (true, 9)] (.loud 11 .done) Tryz.mixed (by kernel_rfl) (by kernel_rfl) (by repeat (first | exact retQ_noP | refine seqQ_noP ?_ | refine blockQ_noP ?_ | refine loopQ_noP ?_ | refine scopeQ_noP ?_ | (intro _ _ _ h; cases h.1))) (List.forall_mem_cons.2 ⟨AlOk.of rfl rfl rfl, (List.forall_mem_nil _)⟩) rfl ?_
  refine F_q (Ent.re [7,8,11] rfl) rfl (Q_ldA 2 rfl rfl rfl) rfl rfl rfl ?_
  refine F_q (Ent.re [7,8,11] rfl) rfl (Q_ldA 2 rfl rfl rfl) rfl rfl rfl ?_
  refine F_q (Ent.re [7,8,11] rfl) rfl (Q_ldA 2 rfl rfl rfl) rfl rfl rfl ?_
  refine F_q (Ent.re [7,8,11] rfl) rfl (Q_ldA 1 rfl rfl rfl) rfl rfl rfl ?_
  refine F_q (Ent.re [7,8,11] rfl) rfl (Q_ldA 0 rfl rfl rfl) rfl rfl rfl ?_
  refine F_q (Ent.re [7,8,11] rfl) rfl (Q_ldA 0 rfl rfl rfl) rfl rfl rfl ?_
  refine F_o (Ent.re [7,8,11] rfl) rfl rfl rfl rfl fun X => O_callP (m18) rfl ⟨_, _, rfl, fun _ => ⟨(Ent.re [7,8,11] rfl), Ent.refl _⟩, ?_⟩
  refine F_o (Ent.re [7,8,11] rfl) rfl rfl rfl rfl fun X => O_callP (m19) rfl ⟨_, _, rfl, fun _ => ⟨(Ent.re [7,8,11] rfl), Ent.refl _⟩, ?_⟩
  refine F_o (Ent.re [7,8,11] rfl) rfl rfl rfl rfl fun X => O_callP (m20) rfl ⟨_, _, rfl, fun _ => ⟨(Ent.re [7,8,11] rfl), Ent.refl _⟩, ?_⟩
  refine F_o (Ent.re [7,8,11] rfl) rfl rfl rfl rfl fun X => O_callP (m21) rfl ⟨_, _, rfl, fun _ => ⟨(Ent.re [7,8,11] rfl), Ent.refl _⟩, ?_⟩
  refine F_nil (Ent.re [7,8,11] rfl) (land1 fun b14 => ?_)
  refine Xar ?_
  refine DH [0,1,3,4,5,9] [0,1,2,3,4,5,6,9,11,12] (.quiet 0 (.quiet 1 (.quiet 2 (.quiet 3 (.quiet 4 (.quiet 5 (.quiet 6 (.quiet 9 (.quiet 11 (.loud 7 (.loud 8 (.loud 10 (.quiet 12 (.loud 13 .done)))))))))))))) Tryz.mixed ?_
  refine Sq (Ent.re [0,1,3,4,5,9] rfl) rfl (Q_ldA 2 rfl rfl rfl) ?_
  refine Sq (Ent.re [0,1,3,4,5,9] rfl) rfl (Q_ldA 5 rfl rfl rfl) ?_
  refine Sq (Ent.re [0,1,3,4,5,9] rfl) rfl (Q_ldA 5 rfl rfl rfl) ?_
  refine Sq (Ent.re [0,1,3,4,5,9] rfl) rfl (Q_ldA 4 rfl rfl rfl) ?_
  refine Sq (Ent.re [0,1,3,4,5,9] rfl) rfl (Q_ldA 5 rfl rfl rfl) ?_
  refine Sq (Ent.re [0,1,3,4,5,9] rfl) rfl (Q_ldA 3 rfl rfl rfl) ?_
  refine Sq (Ent.re [0,1,3,4,5,9] rfl) rfl (Q_ldA 2 rfl rfl rfl) ?_
  refine Sq (Ent.re [0,1,3,4,5,9] rfl) rfl (Q_ldA 0 rfl rfl rfl) ?_
  refine Sq (Ent.re [0,1,3,4,5,9] rfl) rfl (Q_ldA 1 rfl rfl rfl) ?_
  refine S_o rfl rfl rfl rfl (O_callP (m22) rfl ⟨_, fun _ => ⟨Ent.reN [0,1,3,4,5,9] rfl, Ent.refl _⟩, ?_⟩)
  refine Xa ?_
  refine S_o rfl rfl rfl rfl (O_callP (m23) rfl ⟨_, fun _ => ⟨Ent.reN [0,1,3,4,5,9] rfl, Ent.refl _⟩, ?_⟩)
  refine Xa ?_
  refine S_o rfl rfl rfl rfl (O_callP (m24) rfl ⟨_, fun _ => ⟨Ent.reN [0,1,3,4,5,9] rfl, Ent.refl _⟩, ?_⟩)
  refine Xa ?_
  refine Sq (Ent.re [0,1,3,4,5,9] rfl) rfl (Q_build rfl) ?_
  refine S_s rfl rfl rfl (O_stW 10 rfl rfl rfl rfl ⟨[], free_no (by kernel_rfl), ?_⟩)
  refine Xbg ?_
  refine J_ret ?_
  exact retQ_ret _ [] (.cons (RV_cell 10 rfl rfl rfl rfl) .nil) ⟨rfl, rfl⟩ (Ent.re [13] rfl)
end
end Go.Proofs
