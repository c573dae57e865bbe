/- Part 33 of the texts below the row: Num19, SqrP, Sec1P, Sl36. -/
import Derived.Test.YtdggicfcpcjjlaaGreatDoorM1
import Derived.Test.YtdggicfcpcjjlaaGreatDoorM11
import Derived.Test.YtdggicfcpcjjlaaGreatDoorM13
import Derived.Test.YtdggicfcpcjjlaaGreatDoorM17
import Derived.Test.YtdggicfcpcjjlaaGreatDoorM19
import Derived.Test.YtdggicfcpcjjlaaGreatDoorM23
/- Roots modulo the field's prime. -/
set_option autoImplicit false
namespace Go.Proofs
open Go.SL
def sqs (m : W4) (ri : Nat) (a : W4) : Nat → W4
 | 0 => a
 | k + 1 => sqs m ri (mm m ri a a) k
/-- A power, times 2^256. -/
def pwm (a e : Nat) : W4 := W4.of (a ^ e * 115792089237316195423570985008687907853269984665640564039457584007913129639936 % Nt.pP)
theorem pwm_n (a e : Nat) : (pwm a e).n = a ^ e * 115792089237316195423570985008687907853269984665640564039457584007913129639936 % Nt.pP := by
 unfold pwm; have := fof_lt (a ^ e * 115792089237316195423570985008687907853269984665640564039457584007913129639936); rw [mP_n] at this; exact this
theorem pwm_lt (a e : Nat) : (pwm a e).n < mP.n := by rw [pwm_n, mP_n]; exact Nat.mod_lt _ (by decide)
theorem pwm_red {M ri R x y : Nat} (h : R * ri % M = 1 % M) : (x * R % M) * (y * R % M) * ri % M = x * y * R % M := by
 rw [Nat.mul_mod, ← Nat.mul_mod (x * R), ← Nat.mul_mod, show x * R * (y * R) * ri = x * y * R * (R * ri) by simp only [Nat.mul_comm, Nat.mul_left_comm], Nat.mul_mod, h, ← Nat.mul_mod, Nat.mul_one]
theorem pwm_out {M ri R x : Nat} (h : R * ri % M = 1 % M) : (x * R % M) * 1 * ri % M = x % M := by
 rw [Nat.mul_one, Nat.mul_mod, Nat.mod_mod, ← Nat.mul_mod, Nat.mul_assoc, Nat.mul_mod, h, ← Nat.mul_mod, Nat.mul_one]
theorem pwm_mm (a e f g : Nat) (h : e + f = g) : mm mP 115792089183396302114378112356516095823261736990586219612555396166510339686400 (pwm a e) (pwm a f) = pwm a g := by
 subst h
 unfold mm
 rw [pwm_n, pwm_n, mP_n]
 unfold pwm
 rw [pwm_red rfl, Nat.pow_add]
theorem pwm_sqs (a : Nat) : ∀ (k e g : Nat), e * 2 ^ k = g → sqs mP 115792089183396302114378112356516095823261736990586219612555396166510339686400 (pwm a e) k = pwm a g
 | 0, e, g, h => by rw [← h, Nat.pow_zero, Nat.mul_one]; rfl
 | k + 1, e, g, h => by
  rw [sqs, pwm_mm a e e _ rfl]
  exact pwm_sqs a k _ g (by rw [← h, Nat.pow_succ]; rw [Nat.mul_comm (2 ^ k) 2, ← Nat.mul_assoc, Nat.mul_two])
theorem pwm_in {a : W4} : mm mP 115792089183396302114378112356516095823261736990586219612555396166510339686400 a rrP = pwm a.n 1 := by
 unfold mm pwm
 rw [mP_n, Nat.pow_one, Nat.mul_assoc, Nat.mul_mod, rrP_r, ← Nat.mul_mod]
def rootE : Nat := 28948022302589062190674361737351893382521535853822578548883407827216774463488
def rootN (a : Nat) : Nat := a ^ rootE % Nt.pP
theorem rootN_lt (a : Nat) : rootN a < Nt.pP := Nat.mod_lt _ (by decide)
theorem pwm_fin (a : Nat) : mm mP 115792089183396302114378112356516095823261736990586219612555396166510339686400 (pwm a rootE) one4 = W4.of (rootN a) := by
 unfold mm rootN
 rw [pwm_n, mP_n, show one4.n = 1 from rfl, pwm_out rfl]
def sqrtW (a : W4) : W4 := if rootN a.n * rootN a.n % Nt.pP = a.n % Nt.pP then (if rootN a.n % 2 = 1 then W4.of ((0 + Nt.pP - rootN a.n) % Nt.pP) else W4.of (rootN a.n)) else ⟨0, 0, 0, 0⟩
def sqrtB (a : W4) : Bool := decide (rootN a.n * rootN a.n % Nt.pP = a.n % Nt.pP)
theorem rootN_of (a : Nat) : (W4.of (rootN a)).n = rootN a := W4.n_of (Nat.lt_trans (rootN_lt a) (by decide))
attribute [local irreducible] J JL QOp JOp seqQ blockQ loopQ retQ slc cel hex star pur stars Does RV Ent pAt scopeQ
theorem squares_ok (E : World) (m rr a : W4) (N ri : Nat) (hm : MOk m N ri) (ha : a.ok) (hl : a.n < m.n) (k : Nat) (hk : k ≤ 1000) : Does Tryz.prog E 186 [modV m N rr, a.v, .int .i64 (k : Int)] [] fun r L => r = (sqs m ri a k).v ∧ L = [] := by
 refine Does.of Tryz.func186 rfl Tryz.ntmps186 rfl rfl fun F => ?_
 refine Xb ?_
 refine L_o rfl rfl rfl (O_box rfl fun b3 => ?_)
 refine L_o rfl rfl rfl (O_box rfl fun b4 => ?_)
 refine L_o rfl rfl rfl (O_alloc fun b6 => ?_)
 refine Ln ?_
 refine J_scopeJ (fun i : Nat × W4 => i.1 ≤ 1000 ∧ i.2.ok ∧ i.2.n < m.n ∧ sqs m ri i.2 i.1 = sqs m ri a k) (fun i => [(2, .int .i64 (i.1 : Int)), (3, .pointer (some ⟨b3, 0, none⟩)), (4, .pointer (some ⟨b4, 0, none⟩)), (6, .pointer (some ⟨b6, 0, none⟩))]) (fun i => [cel b6 [u64 0, u64 0, u64 0, u64 0] 24, cel b4 i.2.l 24, cel b3 (modL m N rr) 143, F]) (fun i => i.1) (k, a) ⟨hk, ha, hl, rfl⟩ ⟨rfl, rfl, rfl, rfl, trivial⟩ (Ent.refl _) ?_
 rintro ⟨j, x⟩ ⟨h1, h2, h3, h4⟩
 dsimp only at h1 h2 h3 h4 ⊢
 rw [← h4]
 cases j with
 | zero =>
  refine Xw ?_
  refine Xai ?_
  refine Xm ?_
  refine XM ?_
  refine XG ?_
  refine Xa1 ?_
  exact jumpQ_ret (retQ_ret _ [] (.cons (RV_cell 0 rfl rfl rfl rfl) .nil) ⟨rfl, rfl⟩ (Ent.re [3] rfl))
 | succ j =>
  have hh := mmulE E m rr N ri hm x x h2 h2 (.inl h3)
  refine Xw ?_
  refine XcB ?_
  refine Xy ?_
  refine XZ ?_
  refine XI ?_
  refine XI ?_
  refine L_o rfl rfl rfl (O_callP (hh) rfl ?_)
  refine XaH ?_
  refine Xg ?_
  refine Lq ((Q_sub rfl rfl (IntWalk.i64_in _ (by omega))).as (v' := .int .i64 (j : Int)) (congrArg (Value.int .i64) (by omega))) ?_
  refine Xi ?_
  refine J_goto ?_
  exact jumpQ_goto (j, mm m ri x x) ⟨by dsimp only; omega, mm_ok .., by rw [mm_lt hm]; exact Nat.mod_lt _ hm.pos, rfl⟩ (Nat.lt_succ_self j) ⟨rfl, rfl, rfl, rfl, trivial⟩ (Ent.refl _)
theorem fsqrt_ok (E : World) (a : W4) (ha : a.ok) : Does Tryz.prog E 143 [a.v] [] fun r L => r = .tuple #[(sqrtW a).v, .bool (sqrtB a)] ∧ L = [] := by
 have hin := minE E mP rrP 1 _ mokP a ha rrP_ok rrP_n
 rw [pwm_in] at hin
 have ok : ∀ e, (pwm a.n e).ok := fun e => W4.of_ok _
 have hs : ∀ e k g, k ≤ 1000 → e * 2 ^ k = g → Does Tryz.prog E 186 [modV mP 1 rrP, (pwm a.n e).v, .int .i64 ((k : Nat) : Int)] [] fun r L => r = (pwm a.n g).v ∧ L = [] := by
  intro e k g hk hg
  rw [← pwm_sqs a.n k e g hg]
  exact squares_ok E mP rrP (pwm a.n e) 1 _ mokP (ok e) (pwm_lt _ _) k hk
 have hmu : ∀ e f g, e + f = g → Does Tryz.prog E 144 [modV mP 1 rrP, (pwm a.n e).v, (pwm a.n f).v] [] fun r L => r = (pwm a.n g).v ∧ L = [] := by
  intro e f g hg
  rw [← pwm_mm a.n e f g hg]
  exact mmulE E mP rrP 1 _ mokP _ _ (ok e) (ok f) (.inl (pwm_lt _ _))
 have hout := moutE E mP rrP 1 _ mokP (pwm a.n rootE) (ok _) (by rw [mP_n]; decide)
 rw [pwm_fin] at hout
 have rok : (W4.of (rootN a.n)).ok := W4.of_ok _
 have hsq := fmul_ok E (W4.of (rootN a.n)) (W4.of (rootN a.n)) rok rok
 have hcut := mcut_ok E mP rrP 1 mokP.ok a ha (fcut_lt ha)
 have heq := eqvN (x := fmul (W4.of (rootN a.n)) (W4.of (rootN a.n))) (y := W4.of (a.n % mP.n)) (W4.of_ok _) (W4.of_ok _)
 have en : (fmul (W4.of (rootN a.n)) (W4.of (rootN a.n))).n = rootN a.n * rootN a.n % Nt.pP := by
  unfold fmul
  rw [rootN_of]
  have := fof_lt (rootN a.n * rootN a.n); rw [mP_n] at this; exact this
 rw [en, fof_lt, mP_n] at heq
 rw [mP_n] at hcut
 have hsub := msub_ok E mP rrP 1 mokP.ok ⟨0, 0, 0, 0⟩ (W4.of (rootN a.n)) (by constructor <;> decide) rok (by rw [mP_n]; decide) (by rw [rootN_of, mP_n]; exact rootN_lt _)
 rw [rootN_of, mP_n, show (⟨0, 0, 0, 0⟩ : W4).n = 0 from rfl] at hsub
 have hlow : (W4.of (rootN a.n)).a % 2 = rootN a.n % 2 := low_of _
 unfold sqrtW sqrtB
 generalize fmul (W4.of (rootN a.n)) (W4.of (rootN a.n)) = sq at *
 refine Does.of Tryz.func143 rfl Tryz.ntmps143 rfl rfl fun F => ?_
 refine Xb ?_
 refine L_o rfl rfl rfl (O_box rfl fun b1 => ?_)
 refine L_o rfl rfl rfl (O_alloc fun b2 => ?_)
 refine XC ?_
 refine L_o rfl rfl rfl (O_callP (fmod_ok E) rfl ?_)
 refine L_o rfl rfl rfl (O_alloc fun b4 => ?_)
 refine XG ?_
 refine Xo ?_
 refine X0 ?_
 refine L_o rfl rfl rfl (O_callP (hin) rfl ?_)
 refine L_o rfl rfl rfl (O_alloc fun b5 => ?_)
 refine XB ?_
 refine J_flo [0,1] [0,1,2,4] [⟨6, 6, 24, [.int .u64 0, .int .u64 0, .int .u64 0, .int .u64 0]⟩] [(false, 0), (false, 1), (false, 2), (false, 4), (true, 3), (true, 5)] (.loud 7 .done) Tryz.mixed (by kernel_rfl) (by kernel_rfl) (by repeat (first | exact retQ_noP | refine seqQ_noP ?_ | refine blockQ_noP ?_ | refine loopQ_noP ?_ | refine scopeQ_noP ?_ | (intro _ _ _ h; cases h.1))) (List.forall_mem_cons.2 ⟨AlOk.of rfl rfl rfl, (List.forall_mem_nil _)⟩) rfl ?_
 refine F_q (Ent.re [0,1] rfl) rfl (Q_ldA 1 rfl rfl rfl) rfl rfl rfl ?_
 refine F_q (Ent.re [0,1] rfl) rfl (Q_ldA 1 rfl rfl rfl) rfl rfl rfl ?_
 refine F_q (Ent.re [0,1] rfl) rfl (Q_ldA 0 rfl rfl rfl) rfl rfl rfl ?_
 refine F_q (Ent.re [0,1] rfl) rfl (Q_ldA 0 rfl rfl rfl) rfl rfl rfl ?_
 refine F_o (Ent.re [0,1] rfl) rfl rfl rfl rfl fun X => O_callP (hs 1 1 2 (by decide) rfl) rfl ⟨_, _, rfl, fun _ => ⟨(Ent.re [0,1] rfl), Ent.refl _⟩, ?_⟩
 refine F_o (Ent.re [0,1] rfl) rfl rfl rfl rfl fun X => O_callP (hmu 2 1 3 rfl) rfl ⟨_, _, rfl, fun _ => ⟨(Ent.re [0,1] rfl), Ent.refl _⟩, ?_⟩
 refine F_nil (Ent.re [0,1] rfl) (land1 fun b6 => ?_)
 refine Xar ?_
 refine J_flo [0,2] [0,1,2,4] [⟨6, 7, 24, [.int .u64 0, .int .u64 0, .int .u64 0, .int .u64 0]⟩] [(false, 0), (false, 1), (false, 2), (false, 4), (true, 3), (true, 5)] (.loud 7 .done) Tryz.mixed (by kernel_rfl) (by kernel_rfl) (by repeat (first | exact retQ_noP | refine seqQ_noP ?_ | refine blockQ_noP ?_ | refine loopQ_noP ?_ | refine scopeQ_noP ?_ | (intro _ _ _ h; cases h.1))) (List.forall_mem_cons.2 ⟨AlOk.of rfl rfl rfl, (List.forall_mem_nil _)⟩) rfl ?_
 refine F_q (Ent.re [0,2] rfl) rfl (Q_ldA 1 rfl rfl rfl) rfl rfl rfl ?_
 refine F_q (Ent.re [0,2] rfl) rfl (Q_ldA 1 rfl rfl rfl) rfl rfl rfl ?_
 refine Xek ?_
 refine Xek ?_
 refine F_o (Ent.re [0,2] rfl) rfl rfl rfl rfl fun X => O_callP (hs 3 2 12 (by decide) rfl) rfl ⟨_, _, rfl, fun _ => ⟨(Ent.re [0,2] rfl), Ent.refl _⟩, ?_⟩
 refine F_o (Ent.re [0,2] rfl) rfl rfl rfl rfl fun X => O_callP (hmu 12 3 15 rfl) rfl ⟨_, _, rfl, fun _ => ⟨(Ent.re [0,2] rfl), Ent.refl _⟩, ?_⟩
 refine F_nil (Ent.re [0,2] rfl) (land1 fun b7 => ?_)
 refine Xar ?_
 refine J_flo [0,3] [0,1,2,4] [⟨6, 8, 24, [.int .u64 0, .int .u64 0, .int .u64 0, .int .u64 0]⟩] [(false, 0), (false, 1), (false, 2), (false, 4), (true, 3), (true, 5)] (.loud 7 .done) Tryz.mixed (by kernel_rfl) (by kernel_rfl) (by repeat (first | exact retQ_noP | refine seqQ_noP ?_ | refine blockQ_noP ?_ | refine loopQ_noP ?_ | refine scopeQ_noP ?_ | (intro _ _ _ h; cases h.1))) (List.forall_mem_cons.2 ⟨AlOk.of rfl rfl rfl, (List.forall_mem_nil _)⟩) rfl ?_
 refine F_q (Ent.re [0,3] rfl) rfl (Q_ldA 1 rfl rfl rfl) rfl rfl rfl ?_
 refine XfT ?_
 refine F_q (Ent.re [0,3] rfl) rfl (Q_ldA 0 rfl rfl rfl) rfl rfl rfl ?_
 refine F_o (Ent.re [0,3] rfl) rfl rfl rfl rfl fun X => O_callP (hs 15 4 240 (by decide) rfl) rfl ⟨_, _, rfl, fun _ => ⟨(Ent.re [0,3] rfl), Ent.refl _⟩, ?_⟩
 refine F_o (Ent.re [0,3] rfl) rfl rfl rfl rfl fun X => O_callP (hmu 240 15 255 rfl) rfl ⟨_, _, rfl, fun _ => ⟨(Ent.re [0,3] rfl), Ent.refl _⟩, ?_⟩
 refine F_nil (Ent.re [0,3] rfl) (land1 fun b8 => ?_)
 refine Xar ?_
 refine J_flo [0,4] [0,1,2,4] [⟨6, 9, 24, [.int .u64 0, .int .u64 0, .int .u64 0, .int .u64 0]⟩] [(false, 0), (false, 1), (false, 2), (false, 4), (true, 3), (true, 5)] (.loud 7 .done) Tryz.mixed (by kernel_rfl) (by kernel_rfl) (by repeat (first | exact retQ_noP | refine seqQ_noP ?_ | refine blockQ_noP ?_ | refine loopQ_noP ?_ | refine scopeQ_noP ?_ | (intro _ _ _ h; cases h.1))) (List.forall_mem_cons.2 ⟨AlOk.of rfl rfl rfl, (List.forall_mem_nil _)⟩) rfl ?_
 refine F_q (Ent.re [0,4] rfl) rfl (Q_ldA 1 rfl rfl rfl) rfl rfl rfl ?_
 refine F_q (Ent.re [0,4] rfl) rfl (Q_ldA 1 rfl rfl rfl) rfl rfl rfl ?_
 refine F_q (Ent.re [0,4] rfl) rfl (Q_ldA 0 rfl rfl rfl) rfl rfl rfl ?_
 refine F_q (Ent.re [0,4] rfl) rfl (Q_ldA 0 rfl rfl rfl) rfl rfl rfl ?_
 refine F_o (Ent.re [0,4] rfl) rfl rfl rfl rfl fun X => O_callP (hs 255 8 65280 (by decide) rfl) rfl ⟨_, _, rfl, fun _ => ⟨(Ent.re [0,4] rfl), Ent.refl _⟩, ?_⟩
 refine F_o (Ent.re [0,4] rfl) rfl rfl rfl rfl fun X => O_callP (hmu 65280 255 65535 rfl) rfl ⟨_, _, rfl, fun _ => ⟨(Ent.re [0,4] rfl), Ent.refl _⟩, ?_⟩
 refine F_nil (Ent.re [0,4] rfl) (land1 fun b9 => ?_)
 refine Xar ?_
 refine J_flo [0,5] [0,1,2,4] [⟨6, 10, 24, [.int .u64 0, .int .u64 0, .int .u64 0, .int .u64 0]⟩] [(false, 0), (false, 1), (false, 2), (false, 4), (true, 3), (true, 5)] (.loud 7 .done) Tryz.mixed (by kernel_rfl) (by kernel_rfl) (by repeat (first | exact retQ_noP | refine seqQ_noP ?_ | refine blockQ_noP ?_ | refine loopQ_noP ?_ | refine scopeQ_noP ?_ | (intro _ _ _ h; cases h.1))) (List.forall_mem_cons.2 ⟨AlOk.of rfl rfl rfl, (List.forall_mem_nil _)⟩) rfl ?_
 refine F_q (Ent.re [0,5] rfl) rfl (Q_ldA 1 rfl rfl rfl) rfl rfl rfl ?_
 refine F_q (Ent.re [0,5] rfl) rfl (Q_ldA 1 rfl rfl rfl) rfl rfl rfl ?_
 refine F_q (Ent.re [0,5] rfl) rfl (Q_ldA 0 rfl rfl rfl) rfl rfl rfl ?_
 refine F_q (Ent.re [0,5] rfl) rfl (Q_ldA 0 rfl rfl rfl) rfl rfl rfl ?_
 refine F_o (Ent.re [0,5] rfl) rfl rfl rfl rfl fun X => O_callP (hs 65535 16 4294901760 (by decide) rfl) rfl ⟨_, _, rfl, fun _ => ⟨(Ent.re [0,5] rfl), Ent.refl _⟩, ?_⟩
 refine F_o (Ent.re [0,5] rfl) rfl rfl rfl rfl fun X => O_callP (hmu 4294901760 65535 4294967295 rfl) rfl ⟨_, _, rfl, fun _ => ⟨(Ent.re [0,5] rfl), Ent.refl _⟩, ?_⟩
 refine F_nil (Ent.re [0,5] rfl) (land1 fun b10 => ?_)
 refine Xar ?_
 refine J_flo [0,5,6] [0,1,2,4] [⟨6, 11, 24, [.int .u64 0, .int .u64 0, .int .u64 0, .int .u64 0]⟩] [(false, 0), (false, 1), (false, 2), (false, 4), (true, 3), (true, 5)] (.loud 7 .done) Tryz.mixed (by kernel_rfl) (by kernel_rfl) (by repeat (first | exact retQ_noP | refine seqQ_noP ?_ | refine blockQ_noP ?_ | refine loopQ_noP ?_ | refine scopeQ_noP ?_ | (intro _ _ _ h; cases h.1))) (List.forall_mem_cons.2 ⟨AlOk.of rfl rfl rfl, (List.forall_mem_nil _)⟩) rfl ?_
 refine F_q (Ent.re [0,5,6] rfl) rfl (Q_ldA 2 rfl rfl rfl) rfl rfl rfl ?_
 refine F_q (Ent.re [0,5,6] rfl) rfl (Q_ldA 2 rfl rfl rfl) rfl rfl rfl ?_
 refine F_q (Ent.re [0,5,6] rfl) rfl (Q_ldA 0 rfl rfl rfl) rfl rfl rfl ?_
 refine F_q (Ent.re [0,5,6] rfl) rfl (Q_ldA 1 rfl rfl rfl) rfl rfl rfl ?_
 refine F_o (Ent.re [0,5,6] rfl) rfl rfl rfl rfl fun X => O_callP (hs 4294967295 32 18446744069414584320 (by decide) rfl) rfl ⟨_, _, rfl, fun _ => ⟨(Ent.re [0,5,6] rfl), Ent.refl _⟩, ?_⟩
 refine F_o (Ent.re [0,5,6] rfl) rfl rfl rfl rfl fun X => O_callP (hmu 18446744069414584320 1 18446744069414584321 rfl) rfl ⟨_, _, rfl, fun _ => ⟨(Ent.re [0,5,6] rfl), Ent.refl _⟩, ?_⟩
 refine F_nil (Ent.re [0,5,6] rfl) (land1 fun b11 => ?_)
 refine Xar ?_
 refine DH [0,6,7] [0,1,2,4] (.quiet 0 (.quiet 1 (.quiet 2 (.quiet 4 (.loud 3 (.loud 5 (.loud 6 .done))))))) Tryz.mixed ?_
 refine Sq (Ent.re [0,6,7] rfl) rfl (Q_ldA 2 rfl rfl rfl) ?_
 refine Sq (Ent.re [0,6,7] rfl) rfl (Q_ldA 2 rfl rfl rfl) ?_
 refine Sq (Ent.re [0,6,7] rfl) rfl (Q_ldA 0 rfl rfl rfl) ?_
 refine Sq (Ent.re [0,6,7] rfl) rfl (Q_ldA 1 rfl rfl rfl) ?_
 refine S_o rfl rfl rfl rfl (O_callP (hs 18446744069414584321 96 1461501636990620551361974531767172749817708281856 (by decide) rfl) rfl ⟨_, fun _ => ⟨Ent.reN [0,6,7] rfl, Ent.refl _⟩, ?_⟩)
 refine Xa ?_
 refine S_o rfl rfl rfl rfl (O_callP (hmu 1461501636990620551361974531767172749817708281856 1 1461501636990620551361974531767172749817708281857 rfl) rfl ⟨[], free_no (by kernel_rfl), ?_⟩)
 refine Xa ?_
 refine Xar ?_
 refine DH [0,7] [0,1,2] (.quiet 0 (.quiet 1 (.quiet 2 (.loud 3 (.loud 4 (.loud 5 .done)))))) Tryz.mixed ?_
 refine Sq (Ent.re [0,7] rfl) rfl (Q_ldA 1 rfl rfl rfl) ?_
 refine Sq (Ent.re [0,7] rfl) rfl (Q_ldA 1 rfl rfl rfl) ?_
 refine Sq (Ent.re [0,7] rfl) rfl (Q_ldA 0 rfl rfl rfl) ?_
 refine S_o rfl rfl rfl rfl (O_callP (hs 1461501636990620551361974531767172749817708281857 94 rootE (by decide) rfl) rfl ⟨_, fun _ => ⟨Ent.reN [0,7] rfl, Ent.refl _⟩, ?_⟩)
 refine Xa ?_
 refine S_o rfl rfl rfl rfl (O_callP (hout) rfl ⟨[], free_no (by kernel_rfl), ?_⟩)
 refine Xa ?_
 refine Xar ?_
 refine J_seq ?_
 by_cases hq : rootN a.n * rootN a.n % Nt.pP = a.n % Nt.pP
 ·rw [decide_eq_true hq, if_pos hq]
  rw [decide_eq_true hq] at heq
  by_cases ho : rootN a.n % 2 = 1
  ·rw [if_pos ho]
   refine Xet ?_
   refine Xe5 ?_
   refine S_o rfl rfl rfl rfl (O_callP (hsq) rfl ⟨_, fun _ => ⟨Ent.reN [0,7,9] rfl, Ent.refl _⟩, ?_⟩)
   refine Xa ?_
   refine S_o rfl rfl rfl rfl (O_callP (hcut) rfl ⟨_, fun _ => ⟨Ent.reN [0,7,9] rfl, Ent.refl _⟩, ?_⟩)
   refine Xa ?_
   refine Sq (Ent.re [0,7,9] rfl) rfl ((Q_gneq eqgN heq rfl rfl).as (v' := .bool false) rfl) ?_
   refine Xax ?_
   refine XS ?_
   refine J_seq ?_
   refine Sr ?_
   refine Xfr ?_
   refine XeQ ?_
   refine Xh ?_
   refine Lq (Q_ldA 7 rfl rfl rfl) ?_
   refine Xk ?_
   refine X1 ?_
   refine L_o rfl rfl rfl (O_callP (hsub) rfl ?_)
   refine XG ?_
   refine Xo ?_
   refine L_s rfl rfl (O_stW 8 rfl rfl rfl rfl ?_)
   refine Xaa ?_
   exact Xfb
  ·rw [if_neg ho]
   refine Xet ?_
   refine Xe5 ?_
   refine S_o rfl rfl rfl rfl (O_callP (hsq) rfl ⟨_, fun _ => ⟨Ent.reN [0,7,9] rfl, Ent.refl _⟩, ?_⟩)
   refine Xa ?_
   refine S_o rfl rfl rfl rfl (O_callP (hcut) rfl ⟨_, fun _ => ⟨Ent.reN [0,7,9] rfl, Ent.refl _⟩, ?_⟩)
   refine Xa ?_
   refine Sq (Ent.re [0,7,9] rfl) rfl ((Q_gneq eqgN heq rfl rfl).as (v' := .bool false) rfl) ?_
   refine Xax ?_
   refine XS ?_
   refine J_seq ?_
   refine Sr ?_
   refine Xfr ?_
   refine XcB ?_
   refine Xy ?_
   refine Xo ?_
   refine L_s rfl rfl (O_stW 8 rfl rfl rfl rfl ?_)
   refine Xaa ?_
   exact Xfb
 ·rw [decide_eq_false hq, if_neg hq]
  rw [decide_eq_false hq] at heq
  refine Xet ?_
  refine Xe5 ?_
  refine S_o rfl rfl rfl rfl (O_callP (hsq) rfl ⟨_, fun _ => ⟨Ent.reN [0,7,9] rfl, Ent.refl _⟩, ?_⟩)
  refine Xa ?_
  refine S_o rfl rfl rfl rfl (O_callP (hcut) rfl ⟨_, fun _ => ⟨Ent.reN [0,7,9] rfl, Ent.refl _⟩, ?_⟩)
  refine Xa ?_
  refine Sq (Ent.re [0,7,9] rfl) rfl ((Q_gneq eqgN heq rfl rfl).as (v' := .bool true) rfl) ?_
  refine Xu ?_
  refine J_condT rfl ?_
  refine XW ?_
  refine L_s rfl rfl (O_stW 8 rfl rfl rfl rfl ?_)
  refine Xc ?_
  refine Xap ?_
  exact Xfb
end Go.Proofs
/- Roots modulo a prime that leaves 3 by 4. -/
set_option autoImplicit false
namespace Go.Nt
theorem pow_p1 {p y : Nat} (h : Pr p) : y ^ (p + 1) % p = y * y % p := by
 have h2 := h.1
 by_cases hy : p ∣ y
 ·rw [Nat.mod_eq_zero_of_dvd (Nat.dvd_trans hy (Nat.dvd_mul_right y y)), Nat.pow_succ, Nat.mod_eq_zero_of_dvd (Nat.dvd_trans hy (Nat.dvd_mul_left ..))]
 ·have e : p + 1 = (p - 1) + 2 := by omega
  rw [e, Nat.pow_add, Nat.mul_mod, fermat h hy, Nat.one_mul, Nat.mod_mod, Nat.pow_two]
/-- The (p + 1) / 4-th power of a square is a root of it. -/
theorem root {p z y : Nat} (h : Pr p) (h4 : p % 4 = 3) (hz : z % p = y * y % p) : (z ^ ((p + 1) / 4) * z ^ ((p + 1) / 4)) % p = z % p := by
 have e : (p + 1) / 4 + (p + 1) / 4 = (p + 1) / 2 := by omega
 rw [← Nat.pow_add, e, Nat.pow_mod, hz, ← Nat.pow_mod, ← Nat.pow_two, ← Nat.pow_mul, show 2 * ((p + 1) / 2) = p + 1 by omega, pow_p1 h, Nat.pow_two]
end Go.Nt
/- Roots in the field of the curve. -/
set_option autoImplicit false
namespace Go.Proofs
open Go.SL
theorem fp_root {a b : Fp} (h : a * a = b * b) : a = b ∨ a = -b := by
 have : (a - b) * (a + b) = 0 := by grobner
 rcases KP.z _ _ this with h | h
 ·exact .inl (Ec.sub_z h)
 ·right; grobner
theorem fp_neg_neg (a : Fp) : - -a = a := by grobner
theorem fp_neg_val (a : Fp) : (-a).val = (Nt.pP - a.val) % Nt.pP := rfl
theorem neg_toF (r : Nat) (h : r < Nt.pP) : W4.of ((0 + Nt.pP - r) % Nt.pP) = wf (-(Nt.toF Nt.pP r)) := by
 unfold wf
 rw [fp_neg_val, toF_val, Nat.mod_eq_of_lt h, Nat.zero_add]
theorem fp_par {a : Fp} (h : a ≠ 0) : (-a).val % 2 = 1 - a.val % 2 := by
 have h0 : a.val ≠ 0 := fun h' => h (Fin.ext h')
 have h1 := a.isLt
 have h2 : Nt.pP % 2 = 1 := by decide
 have h3 : Nt.pP - a.val < Nt.pP := by omega
 rw [fp_neg_val, Nat.mod_eq_of_lt h3]
 have key : ∀ P v : Nat, v ≠ 0 → P % 2 = 1 → v < P → (P - v) % 2 = 1 - v % 2 := fun P v _ _ _ => by omega
 exact key _ _ h0 h2 h1
theorem fp_neg0 : -(0 : Fp) = 0 := by grobner
/-- The root of a square: the even one. -/
theorem sqrt_of {y : Fp} {s : W4} (hs : s = wf (y * y)) : sqrtB s = true ∧ sqrtW s = if y.val % 2 = 0 then wf y else wf (-y) := by
 have hn : s.n = (y * y).val := by rw [hs, wf_n]
 have hv : (y * y).val = y.val * y.val % Nt.pP := rfl
 have hr := Nt.root (p := Nt.pP) (z := s.n) (y := y.val) Nt.prP (by decide) (by rw [hn, hv, Nat.mod_mod])
 have he : (Nt.pP + 1) / 4 = rootE := by decide
 rw [he] at hr
 have hr2 : rootN s.n * rootN s.n % Nt.pP = s.n % Nt.pP := by unfold rootN; rw [← Nat.mul_mod]; exact hr
 have hlt := rootN_lt s.n
 have hB : sqrtB s = true := decide_eq_true hr2
 have hW : sqrtW s = if rootN s.n % 2 = 1 then W4.of ((0 + Nt.pP - rootN s.n) % Nt.pP) else W4.of (rootN s.n) := if_pos hr2
 refine ⟨hB, ?_⟩
 rw [hW]
 generalize rootN s.n = r at *
 have hR : (Nt.toF Nt.pP r).val = r := by rw [toF_val, Nat.mod_eq_of_lt hlt]
 have hRR : Nt.toF Nt.pP r * Nt.toF Nt.pP r = y * y := by
  apply Fin.ext
  show (Nt.toF Nt.pP r).val * (Nt.toF Nt.pP r).val % Nt.pP = (y * y).val
  rw [hR, hr2, hn]
  exact Nat.mod_eq_of_lt (y * y).isLt
 have hwr : W4.of r = wf (Nt.toF Nt.pP r) := by unfold wf; rw [hR]
 rw [neg_toF r hlt, hwr]
 have hrv : r % 2 = (Nt.toF Nt.pP r).val % 2 := by rw [hR]
 rw [hrv]
 generalize Nt.toF Nt.pP r = R at *
 by_cases hy : y = 0
 ·subst hy
  have : R = 0 := by
   rcases fp_root hRR with h | h
   ·exact h
   ·rw [h, fp_neg0]
  subst this
  rfl
 ·have hp := fp_par hy
  rcases fp_root hRR with h | h
  ·subst h
   by_cases h2 : R.val % 2 = 0
   ·rw [if_neg (by omega), if_pos h2]
   ·rw [if_pos (by omega), if_neg h2]
  ·subst h
   rw [fp_neg_neg]
   by_cases h2 : y.val % 2 = 0
   ·rw [if_pos (by omega), if_pos h2]
   ·rw [if_neg (by omega), if_neg h2]
end Go.Proofs
/- Bytes that wait: nothing, or a slice of one's own; texts put behind them. -/
set_option autoImplicit false
namespace Go.SL
/-- A slice without bytes. -/
def SV.no (S : SV) : Prop := S.n = 0 ∧ (S.a = none → S.c = 0)
/-- What waits: nothing (then nobody's memory), or a slice of one's own. -/
def wtC (β : Ty UInt8) (S : SV) (l : List UInt8) : HProp := fun E h => (l = [] ∧ S.no) ∨ slc β true S l E h
section
variable {β : Ty UInt8} {P : Program} {E : World} {n : Nat} {ρ : Env} {L : List HProp} {dst : Option Tmp} {ty : TypeId} {pos : String} {after : Array Edge} {g : Option (Nat × Bool)}
theorem Ent.wt {S : SV} {l : List UInt8} (i : Nat) (hi : L[i]? = some (slc β true S l)) : Ent L (L.set i (wtC β S l)) := fun _ _ h => h.map_at hi fun _ hc => .inr hc
theorem Ent.wt0 {S : SV} (i : Nat) (hi : L[i]? = some emp) (h : S.no) : Ent L (L.set i (wtC β S [])) := fun _ _ hs => hs.map_at hi fun _ _ => .inl ⟨rfl, h⟩
theorem Sat.wt_n {w : World} (h : Sat E w L) (i : Nat) {S : SV} {l : List UInt8} (hi : L[i]? = some (wtC β S l)) : S.n = l.length := by
 obtain ⟨p, hp, _⟩ := h.at hi
 rcases hp with ⟨h1, h2⟩ | h1
 ·rw [h1, h2.1]; rfl
 ·exact h1.1
/-- Which of both. -/
theorem Sat.wt_or {w : World} (hs : Sat E w L) (i : Nat) {S : SV} {l : List UInt8} (hi : L[i]? = some (wtC β S l)) : (l = [] ∧ S.no ∧ Sat E w (L.set i emp)) ∨ Sat E w (L.set i (slc β true S l)) := by
 obtain ⟨p, hp, _⟩ := hs.at hi
 have hlt := (List.getElem?_eq_some_iff.1 hi).1
 obtain ⟨fr, f1, f2, f3⟩ := hs.own
 have hfi := f1 i _ hi
 rcases hfi with ⟨e1, e2⟩ | h3
 ·exact .inl ⟨e1, e2, hs.map_at hi fun _ _ => trivial⟩
 ·refine .inr ⟨hs.os, hs.tape, hs.output, hs.size, hs.old, fr, ?_, by simpa using f2, by simpa using f3⟩
  intro j c hc
  by_cases e : i = j
  ·subst e
   rw [List.getElem?_set_self hlt] at hc
   obtain rfl := Option.some.inj hc
   exact h3
  ·rw [List.getElem?_set_ne e] at hc
   exact f1 j c hc
/-- .. in a walk. -/
theorem J.wt {c : Code} {Q : Post} {S : SV} {l : List UInt8} (i : Nat) (hi : L[i]? = some (wtC β S l)) (h1 : l = [] → S.no → J P E n c Q ρ (L.set i emp)) (h2 : J P E n c Q ρ (L.set i (slc β true S l))) : J P E n c Q ρ L := fun a w ha hs => by
 rcases hs.wt_or i hi with ⟨e1, e2, h⟩ | h
 ·exact h1 e1 e2 a w ha h
 ·exact h2 a w ha h
theorem append_nil_eq {t t' ty sz by_ k : Nat} {z x : Value} {b : Addr} {w : World} (ht : P.underlying t = some (.slice β.e)) (ht' : P.underlying t' = some .string)
 (hi : TyI P β.e sz z by_) (hlen : (Builtin.lenOf x).run P w = .ok k w) (hk : 0 < k) (hb : k * by_ ≤ 140737488355328) :
 (Builtin.append_ #[t, t'] ty #[.slice (some b) 0 0, x]).run P w = (Builtin.append_ #[t, t'] ty #[.slice none 0 0, x]).run P w := by
 obtain ⟨r, hr, hrs, hrz, hrb⟩ := hi.get
 have hz : ∀ c : Addr, (loadCells c 0) = (pure #[] : Sem (Array Value)) := fun c => by simp [loadCells, loadCellsFrom]
 have hcap : ¬ (Builtin.nextslicecap k 0 * by_ > 281474976710656) := by
  have : Builtin.nextslicecap k 0 = k := by unfold Builtin.nextslicecap; rw [if_pos (by omega)]
  rw [this]; omega
 have hk0 : ¬ k ≤ 0 := by omega
 have hk1 : k ≠ 0 := by omega
 simp [Builtin.append_, run_underlying ht, run_underlying ht', sizeOf, typeInfo, hr, hrs, hrb, hlen, hk1, hcap, Builtin.firstCells, hz]
theorem Sat.wt_cap {w : World} (h : Sat E w L) (i : Nat) {S : SV} {l : List UInt8} (hi : L[i]? = some (wtC β S l)) : S.n ≤ S.c := by
 obtain ⟨p, hp, _⟩ := h.at hi
 rcases hp with ⟨h1, h2⟩ | h1
 ·have := h2.1; omega
 ·exact h1.2.1
theorem Sat.wt_rd {w : World} (h : Sat E w L) (i : Nat) {S : SV} {l : List UInt8} (hi : L[i]? = some (wtC β S l)) : Rd β w S l := by
 rcases h.wt_or i hi with ⟨rfl, e2, _⟩ | h2
 ·refine ⟨e2.1, by have := e2.1; omega, ?_⟩
  cases ha : S.a with
  | none => exact .inl ⟨rfl, e2.2 ha⟩
  | some a => exact .inr ⟨a, rfl, fun j u hu => by simp [Ty.flat] at hu⟩
 ·exact h2.rd i (List.getElem?_set_self (List.getElem?_eq_some_iff.1 hi).1)
theorem Ent.wtCut {S : SV} {l : List UInt8} (i : Nat) (hi : L[i]? = some (wtC β S l)) : Ent L (L.set i (wtC β ⟨S.a, S.n, S.n⟩ l)) := fun _ _ h => h.map_at hi fun _ hc => by
 rcases hc with h1 | h1
 ·exact .inl ⟨h1.1, h1.2.1, fun _ => h1.2.1⟩
 ·exact .inr (own_cut h1)
/-- s[:n:n] of what waits -/
theorem Q_sl3n {α : Type} {τ : Ty α} {t sz by_ : Nat} {z : Value} {x b c : Operand} {S : SV} {k' k'' : IntKind} {j m : Int} [u : TyU P t (.slice τ.e)] [v : TyI P τ.e sz z by_] (hx : ρ.ev x = some S.v) (hb : ρ.ev b = some (.int k' j)) (hc' : ρ.ev c = some (.int k'' m))
 (hj : j = (S.n : Int)) (hm : m = (S.n : Int)) (h3 : S.n ≤ S.c) : QOp P E n ⟨dst, .slice t x none (some b) (some c), ty, pos, after, g⟩ ρ L (SV.v ⟨S.a, S.n, S.n⟩) := fun d w hc hs => by
 obtain ⟨r, hr, hs', _⟩ := v.get
 subst hj hm
 simp only [execOp, hc.ev hx, hc.ev hb, hc.ev hc', Option.map_some, Option.map_none]
 have e3 : (S.n : Int) ≤ S.c := by omega
 have ha0 : S.a.map (fun a : Addr => a.add 0) = S.a := by cases S.a <;> simp [Addr.add]
 simp [Instr.sliceAt, run_underlying u.h, Instr.slice, Instr.sliceBounds, Go.run_sliceBound, e3, sizeOf, typeInfo, hr, ha0]
/-- append(s[:n:n], text...): what waited is the nothing or one's own. -/
theorem O_appW {β : Ty UInt8} (hβ : ∀ b, β.enc b = [.int .u8 (b.toNat : Int)]) (i : Nat) {K : Value → List HProp → Prop} {t t' sz by_ : Nat} {z : Value} {x y : Operand} {S : SV} {l m : List UInt8} [u : TyU P t (.slice β.e)] [u' : TyU P t' .string] [v : TyI P β.e sz z by_] (hL : L[i]? = some (wtC β S l))
 (hx : ρ.ev x = some (SV.v ⟨S.a, S.n, S.n⟩)) (hy : ρ.ev y = some (str m)) (hsz : sz = β.sz) (hz : z.cells.size = sz) (hb : (l.length + m.length) * by_ ≤ 140737488355328) (hb1 : 1 ≤ by_)
 (hK : ∀ S', K (SV.v S') (L.set i (wtC β S' (l ++ m)))) : JOp P E n ⟨dst, .call ⟨.builtin .append, #[x, y], #[t, t']⟩, ty, pos, after, g⟩ K ρ L := fun a w ha hs next Q hn => by
 have hlt : i < L.length := (List.getElem?_eq_some_iff.1 hL).1
 have hs1 := (Ent.wtCut i hL) _ _ hs
 have hn0 := hs.wt_n i hL
 have hflat : β.flat m = m.map (fun b : UInt8 => Value.int .u8 (b.toNat : Int)) := by
  clear hK hL hy hs ha hx hb hs1 hn0
  induction m with
  | nil => rfl
  | cons b m ih => rw [β.flat_cons, ih, hβ]; rfl
 have hfc : ∀ w', w'.heap = w.heap → (Builtin.firstCells sz m.length (str m)).run P w' = .ok (β.flat m).toArray w' := fun w' hw' => by
  have := Lib.run_firstCells_string (P := P) w' sz ⟨m.toArray⟩
  rw [size_str] at this
  rw [this, hflat]
  simp [Lib.strCells]
 have key : ∃ S' w', (Builtin.append_ #[t, t'] ty #[SV.v ⟨S.a, S.n, S.n⟩, str m]).run P w = .ok (SV.v S') w' ∧ Sat E w' (L.set i (wtC β S' (l ++ m))) := by
  rcases hs1.wt_or i (List.getElem?_set_self hlt) with ⟨e1, e2, hs3⟩ | hs2
  ·have hn : S.n = 0 := e2.1
   subst e1
   by_cases hm : m.length = 0
   ·have hm' : m = [] := List.eq_nil_of_length_eq_zero hm
    subst hm'
    refine ⟨⟨S.a, S.n, S.n⟩, w, ?_, hs1⟩
    obtain ⟨r, hr, hrs, hrz, hrb⟩ := v.get
    simp only [SV.v, hn]
    cases hS : S.a <;> simp [Builtin.append_, run_underlying u.h, run_underlying u'.h, sizeOf, typeInfo, hr, hrb, Builtin.lenOf, size_str, Builtin.firstCells, loadCells, loadCellsFrom, storeCells]
   ·have hs2 : Sat E w (L.set i (slc β true ⟨none, 0, 0⟩ [])) := by
     rw [List.set_set] at hs3
     have := hs3.map_at (List.getElem?_set_self hlt) (d := slc β true ⟨none, 0, 0⟩ []) (fun g hg => ?_)
     ·rwa [List.set_set] at this
     ·exact ⟨rfl, Nat.le_refl _, .inl ⟨rfl, rfl⟩⟩
    obtain ⟨S', w', hr, hs'⟩ := run_append_all (P := P) (ty := ty) hs2 i u.h u'.h rfl v hsz hz ⟨none, 0, 0⟩ [] m (str m) (List.getElem?_set_self hlt) (by simp [Builtin.lenOf, size_str]) hfc hb hb1
    rw [List.set_set] at hs'
    refine ⟨S', w', ?_, ?_⟩
    ·rw [← hr]
     simp only [SV.v, hn]
     cases hS : S.a with
     | none => rfl
     | some b => exact append_nil_eq u.h u'.h v (by simp [Builtin.lenOf, size_str] : (Builtin.lenOf (str m)).run P w = .ok m.length w) (by omega) (by simp at hb; omega)
    ·have hlt2 : i < (L.set i (slc β true S' ([] ++ m))).length := by simpa using hlt
     have := (Ent.wt i (List.getElem?_set_self hlt)) _ _ hs'
     rwa [List.set_set] at this
  ·rw [List.set_set] at hs2
   obtain ⟨S', w', hr, hs'⟩ := run_append_all (P := P) (ty := ty) hs2 i u.h u'.h rfl v hsz hz ⟨S.a, S.n, S.n⟩ l m (str m) (List.getElem?_set_self hlt) (by simp [Builtin.lenOf, size_str]) hfc hb hb1
   rw [List.set_set] at hs'
   refine ⟨S', w', hr, ?_⟩
   have := (Ent.wt i (List.getElem?_set_self hlt)) _ _ hs'
   rwa [List.set_set] at this
 obtain ⟨S', w', hr, hs'⟩ := key
 unfold Oper.wp
 simp only [execOp, resolve]
 have e1 : (Array.map a.eval #[x, y]) = #[SV.v ⟨S.a, S.n, S.n⟩, str m] := by simp [ha.ev hx, ha.ev hy]
 simp only [run_bind_pure, invoke, e1, builtin]
 simp only [Sem.run_bind, hr, Result.andThen_ok, Sem.run_pure]
 exact hn _ _ w' (hK S') hs'
end
end Go.SL
