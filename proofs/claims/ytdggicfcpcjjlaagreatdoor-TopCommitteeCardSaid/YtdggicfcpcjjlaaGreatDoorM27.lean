/- Part 27 of the texts below the row: Sham1, Feld1, Feld2, Sham2, Sham3. -/
import Derived.Test.YtdggicfcpcjjlaaGreatDoorM1
import Derived.Test.YtdggicfcpcjjlaaGreatDoorM13
import Derived.Test.YtdggicfcpcjjlaaGreatDoorM26
/- Shares: a polynomial at a place. -/
set_option autoImplicit false
namespace Go.Proofs
open Go.SL
attribute [local irreducible] J JL QOp JOp seqQ blockQ loopQ retQ slc cel hex star pur stars Does RV Ent pAt scopeQ JR seqR endR JLI DoesY
section
variable (E : World)
theorem saddE (a b : W4) (ha : a.ok) (hb : b.ok) : Does Tryz.prog E 51 [a.v, b.v] [] fun r L => r = (ws (sv a + sv b)).v ∧ L = [] := by
 have := sadd_ok E a b ha hb; rwa [sadd_ws] at this
theorem ssubE (a b : W4) (ha : a.ok) (hb : b.ok) : Does Tryz.prog E 148 [a.v, b.v] [] fun r L => r = (ws (sv a - sv b)).v ∧ L = [] := by
 have := ssub_ok E a b ha hb; rwa [ssub_ws] at this
theorem smulE (a b : W4) (ha : a.ok) (hb : b.ok) : Does Tryz.prog E 88 [a.v, b.v] [] fun r L => r = (ws (sv a * sv b)).v ∧ L = [] := by
 have := smul_ok E a b ha hb; rwa [smul_ws] at this
theorem sinvF (x : Fq) : Does Tryz.prog E 149 [(ws x).v] [] fun r L => r = (ws (siv x)).v ∧ L = [] := by
 have := sinv_ok E (ws x) (ws_ok _); rwa [sinv_ws, sv_ws] at this
theorem smulF (x y : Fq) : Does Tryz.prog E 88 [(ws x).v, (ws y).v] [] fun r L => r = (ws (x * y)).v ∧ L = [] := by
 have := smulE E (ws x) (ws y) (ws_ok _) (ws_ok _); rwa [sv_ws, sv_ws] at this
theorem saddF (x y : Fq) : Does Tryz.prog E 51 [(ws x).v, (ws y).v] [] fun r L => r = (ws (x + y)).v ∧ L = [] := by
 have := saddE E (ws x) (ws y) (ws_ok _) (ws_ok _); rwa [sv_ws, sv_ws] at this
theorem smulP (x : Fq) (a : Nat) (ha : a < 18446744073709551616) : Does Tryz.prog E 88 [(ws x).v, (plW a).v] [] fun r L => r = (ws (x * plc a)).v ∧ L = [] := by
 have := smulE E (ws x) (plW a) (ws_ok _) (plW_ok ha); rwa [sv_ws, sv_plW] at this
theorem num_ok (a : Nat) (ha : a < 9223372036854775808) : Does Tryz.prog E 89 [.int .i64 (a : Int)] [] fun r L => r = (plW a).v ∧ L = [] := by
 refine Does.of Tryz.func89 rfl Tryz.ntmps89 rfl rfl fun F => ?_
 refine Xb ?_
 refine L_o rfl rfl rfl (O_alloc fun b2 => ?_)
 refine Ln ?_
 refine Xg ?_
 refine XfK ?_
 refine Xk ?_
 exact XcN
theorem eval_ok (f : Bool) (S : SV) (c : List W4) (hc : ∀ k ∈ c, k.ok) (hl : c.length ≤ 1000) (a : Nat) (ha : a < 9223372036854775808) :
 Does Tryz.prog E 43 [S.v, .int .i64 (a : Int)] [slc tNm f S c] fun r L => r = (ws (evF (c.map sv) (plc a))).v ∧ L = [slc tNm f S c] := by
 refine Does.of Tryz.func43 rfl Tryz.ntmps43 rfl rfl fun F => ?_
 refine Xb ?_
 refine L_o rfl rfl rfl (O_alloc fun b4 => ?_)
 refine Ln ?_
 refine XW ?_
 refine L_o rfl rfl rfl (O_alloc fun b5 => ?_)
 refine XB ?_
 refine Xg ?_
 refine XbN ?_
 refine XcA ?_
 refine Xi ?_
 refine J_block ?_
 refine J_loop (fun g : Nat => g ≤ c.length) (fun g => [(0, S.v), (1, .int .i64 (a : Int)), (4, .pointer (some ⟨b4, 0, none⟩)), (5, .pointer (some ⟨b5, 0, none⟩)), (6, .int .i64 ((g : Int) - 1))]) (fun g => [cel b5 (ws (evF ((c.map sv).drop g) (plc a))).l 24, cel b4 [u64 0, u64 0, u64 0, u64 0] 24, slc tNm f S c, F]) (fun g => g) c.length (Nat.le_refl _) ⟨rfl, rfl, rfl, rfl, rfl, trivial⟩ (by rw [List.drop_of_length_le (by rw [List.length_map]; omega), show evF [] (plc a) = 0 from rfl, ws_0]; exact Ent.refl _) ?_
 intro g hg
 cases g with
 | zero =>
  refine Xw ?_
  refine Xcz ?_
  refine X2 ?_
  refine XaA ?_
  refine Xo ?_
  refine XaH ?_
  refine J_ret ?_
  exact retQ_ret _ [slc tNm f S c] (.cons (RV_cell 1 rfl rfl rfl rfl) .nil) ⟨rfl, rfl⟩ (Ent.re [2,3] rfl)
 | succ j =>
  have hj : j < c.length := by omega
  have hm : j < (c.map sv).length := by rw [List.length_map]; exact hj
  have e : evF ((c.map sv).drop j) (plc a) = evF ((c.map sv).drop (j + 1)) (plc a) * plc a + sv c[j] := by
   rw [List.drop_eq_getElem_cons hm, List.getElem_map]; rfl
  rw [show ((j + 1 : Nat) : Int) - 1 = (j : Int) by omega]
  generalize hv : evF ((c.map sv).drop (j + 1)) (plc a) = v at *
  have h1 := num_ok E a ha
  have h2 := smulP E v a (by omega)
  have h3 := saddE E (ws (v * plc a)) c[j] (ws_ok _) (hc _ (List.getElem_mem hj))
  rw [sv_ws, ← e] at h3
  refine XdX ?_
  refine Ln ?_
  refine Xac ?_
  refine DH [0,2] [0,1,4,5,6,7] (.quiet 0 (.quiet 1 (.quiet 4 (.quiet 5 (.quiet 6 (.quiet 7 (.loud 2 (.loud 3 (.loud 8 (.loud 9 .done)))))))))) Tryz.mixed ?_
  refine XcU ?_
  refine XaB ?_
  refine XaB ?_
  refine XaB ?_
  refine Sq (Ent.re [0,2] rfl) rfl (Q_ixAt 1 j rfl rfl rfl rfl hj rfl) ?_
  refine Sq (Ent.re [0,2] rfl) rfl (Q_ldEAAt 1 j 0 (vs := (c[j]).l) rfl rfl rfl rfl hj (Nat.le_refl 4) rfl) ?_
  refine S_o rfl rfl rfl rfl (O_callP (h1) rfl ⟨_, fun _ => ⟨Ent.reN [0,2] rfl, Ent.refl _⟩, ?_⟩)
  refine Xa ?_
  refine S_o rfl rfl rfl rfl (O_callP (h2) rfl ⟨_, fun _ => ⟨Ent.reN [0,2] rfl, Ent.refl _⟩, ?_⟩)
  refine Xdk ?_
  refine Xa ?_
  refine Xau ?_
  refine S_nil ?_
  refine XV ?_
  refine Xe ?_
  refine XcA ?_
  refine Xj ?_
  exact loopQ_normal j (by omega) (Nat.lt_succ_self j) ⟨rfl, rfl, rfl, rfl, rfl, trivial⟩ (Ent.refl _)
end
end Go.Proofs
/- Shares that are verified. -/
set_option autoImplicit false
namespace Go.Proofs
open Go.SL
/-- A list that is filled one after the other. -/
def fil {α β : Type} (g : α → β) (z : β) (l : List α) (i : Nat) : List β := (l.take i).map g ++ List.replicate (l.length - i) z
theorem fil_0 {α β : Type} (g : α → β) (z : β) (l : List α) : fil g z l 0 = List.replicate l.length z := by simp [fil]
theorem fil_len {α β : Type} (g : α → β) (z : β) (l : List α) (i : Nat) (h : i ≤ l.length) : (fil g z l i).length = l.length := by simp [fil]; omega
theorem fil_end {α β : Type} (g : α → β) (z : β) (l : List α) : fil g z l l.length = l.map g := by simp [fil]
theorem fil_set {α β : Type} (g : α → β) (z : β) (l : List α) (i : Nat) (h : i < l.length) : (fil g z l i).set i (g l[i]) = fil g z l (i + 1) := by
 unfold fil
 have hl : ((l.take i).map g).length = i := by simp; omega
 rw [List.set_append_right _ _ (by omega), hl, Nat.sub_self, show l.length - i = (l.length - (i + 1)) + 1 by omega, List.replicate_succ, List.set_cons_zero, List.take_succ_eq_append_getElem h, List.map_append, List.append_assoc]
 rfl
abbrev pwZ : Pw := ⟨z4, z4, false⟩
noncomputable def cmtL (c : List W4) : List Pw := c.map fun k => pw (kP k.n gP)
def pwrL (a n : Nat) : List W4 := (List.range n).map fun i => ws (plc a ^ i)
attribute [local irreducible] J JL QOp JOp seqQ blockQ loopQ retQ slc cel hex star pur stars Does RV Ent pAt scopeQ JR seqR endR JLI DoesY
section
variable (E : World)
theorem commit_ok (f : Bool) (S : SV) (c : List W4) (hc : ∀ k ∈ c, k.ok) (hl : c.length ≤ 1000) :
 Does Tryz.prog E 42 [S.v] [slc tNm f S c] fun r L => ∃ T : SV, r = T.v ∧ L = [slc tPw true T (cmtL c), slc tNm f S c] := by
 refine Does.of Tryz.func42 rfl Tryz.ntmps42 rfl rfl fun F => ?_
 refine XaL ?_
 refine XO ?_
 refine L_o rfl rfl rfl (O_mk (τ := tPw) c.length pwZ rfl rfl rfl rfl rfl rfl (by omega) (by decide) (fun T => ?_))
 refine Xbf ?_
 refine XX ?_
 refine XJ ?_
 rw [← fil_0 (fun k => pw (kP k.n gP)) pwZ c]
 refine J_loop (fun i : Nat => i ≤ c.length) (fun i => [(3, T.v), (9, S.v), (10, .int .i64 (c.length : Int)), (11, .int .i64 (i : Int))]) (fun i => [slc tPw true T (fil (fun k => pw (kP k.n gP)) pwZ c i), slc tNm f S c, F]) (fun i => c.length - i) 0 (Nat.zero_le _) ⟨rfl, rfl, rfl, rfl, trivial⟩ (Ent.refl _) ?_
 intro i hi
 by_cases h : i < c.length
 ·have hfl := fil_len (fun k => pw (kP k.n gP)) pwZ c i hi
  have hb := base_ok E c[i] (hc _ (List.getElem_mem h))
  have hs := fil_set (fun k => pw (kP k.n gP)) pwZ c i h
  refine XR ?_
  refine Lq (Q_ixAt 1 i rfl rfl rfl rfl h rfl) ?_
  refine Lq (Q_ldEAAt 1 i 0 (vs := (c[i]).l) rfl rfl rfl rfl h (Nat.le_refl 4) rfl) ?_
  refine L_o rfl rfl rfl (O_alloc fun b5 => ?_)
  refine XaN ?_
  refine XG ?_
  refine Xl ?_
  refine X1 ?_
  refine L_o rfl rfl rfl (O_callP (hb) rfl ?_)
  refine Lq (Q_ixAt 1 i rfl rfl rfl rfl (by rw [hfl]; exact h) rfl) ?_
  refine L_s rfl rfl (O_stE 1 i 0 (pw (kP (c[i]).n gP)) rfl rfl rfl rfl rfl rfl (tPw.one _) (by rw [hfl]; exact h) (Nat.le_refl 9) (by rw [List.take_zero, List.nil_append, List.drop_of_length_le (by rw [tPw.len]; exact Nat.le_refl 9), List.append_nil]; rfl) ?_)
  refine Xas ?_
  rw [hs]
  refine Xh ?_
  refine Xbu ?_
  exact loopQ_normal (i + 1) (by omega) (by omega) ⟨rfl, rfl, rfl, rfl, trivial⟩ (Ent.re [1,2,3] rfl)
 ·obtain rfl : i = c.length := by omega
  rw [fil_end]
  refine Xae ?_
  refine Xg ?_
  refine Xq ?_
  exact retQ_ret _ [slc tPw true T (cmtL c), slc tNm f S c] (.cons (RV_tmp rfl) .nil) ⟨T, rfl, rfl⟩ (Ent.refl _)
theorem powers_ok (a : Nat) : Does Tryz.prog E 145 [.int .i64 (a : Int)] [] fun r L => ∃ b3 b1, r = .func (.func 188) #[] #[.pointer (some ⟨b3, 0, none⟩), .pointer (some ⟨b1, 0, none⟩)] ∧ L = [cel b3 one4.l 24, cel b1 [.int .i64 (a : Int)] 3] := by
 refine Does.of Tryz.func145 rfl Tryz.ntmps145 rfl rfl fun F => ?_
 refine Xb ?_
 refine L_o rfl rfl rfl (O_box rfl fun b1 => ?_)
 refine Xi ?_
 refine XW ?_
 refine L_o rfl rfl rfl (O_alloc fun b3 => ?_)
 refine XG ?_
 refine Sr ?_
 refine Lq (Q_makeFunc (xs := []) (ys := [.tmp 3, .tmp 1]) (vs := []) (us := [.pointer (some ⟨b3, 0, none⟩), .pointer (some ⟨b1, 0, none⟩)]) rfl rfl) ?_
 refine Xq ?_
 exact retQ_ret _ [_, _] (.cons (RV_tmp rfl) .nil) ⟨b3, b1, rfl, rfl⟩ (Ent.refl _)
theorem powers1_ok (x : Fq) (a : Nat) (ha : a < 9223372036854775808) (b3 b1 : Nat) : Does Tryz.prog E 188 [.pointer (some ⟨b3, 0, none⟩), .pointer (some ⟨b1, 0, none⟩)] [cel b3 (ws x).l 24, cel b1 [.int .i64 (a : Int)] 3] fun r L => r = (ws x).v ∧ L = [cel b3 (ws (x * plc a)).l 24, cel b1 [.int .i64 (a : Int)] 3] := by
 have h := smulP E x a (by omega)
 refine Does.of Tryz.func188 rfl Tryz.ntmps188 rfl rfl fun F => ?_
 refine Xb ?_
 refine L_o rfl rfl rfl (O_alloc fun b2 => ?_)
 refine Ln ?_
 refine XM ?_
 refine L_o rfl rfl rfl (O_alloc fun b3 => ?_)
 refine XG ?_
 refine XZ ?_
 refine Lq (Q_ld 3 rfl rfl rfl rfl) ?_
 refine XfK ?_
 refine Xk ?_
 refine L_o rfl rfl rfl (O_callP (h) rfl ?_)
 refine XbW ?_
 refine Xr ?_
 refine Xo ?_
 refine XaH ?_
 refine J_ret ?_
 exact retQ_ret _ [_, _] (.cons (RV_cell 1 rfl rfl rfl rfl) .nil) ⟨rfl, rfl⟩ (Ent.re [2,3,4] rfl)
theorem feval_ok (f : Bool) (S : SV) (C : List Pw) (hC : ∀ p ∈ C, p.ok) (hl : C.length ≤ 1000) (a : Nat) (ha : a < 9223372036854775808) :
 Does Tryz.prog E 91 [S.v, .int .i64 (a : Int)] [slc tPw f S C] fun r L => r = (pw (sumI (pwrL a C.length) C C.length)).v ∧ L = [slc tPw f S C] := by
 have hp := powers_ok E a
 refine Does.of Tryz.func91 rfl Tryz.ntmps91 rfl rfl fun F => ?_
 refine Xb ?_
 refine L_o rfl rfl rfl (O_alloc fun b4 => ?_)
 refine Ln ?_
 refine Xg ?_
 refine L_o rfl rfl rfl (O_call [] [0,1,2] hp rfl rfl ?_)
 rintro _ _ ⟨bn, ba, rfl, rfl⟩
 refine Xc ?_
 refine Xx ?_
 refine Lq (Q_lenAt 3 rfl rfl) ?_
 refine L_o rfl rfl rfl (O_mk (τ := tNm) C.length z4 rfl rfl rfl rfl rfl rfl (by omega) (by decide) (fun T => ?_))
 refine Xbf ?_
 refine Xba ?_
 have h0 := fil_0 (fun i => ws (plc a ^ i)) z4 (List.range C.length)
 rw [List.length_range] at h0
 rw [List.length_replicate, ← h0]
 refine J_loop (fun i : Nat => i ≤ C.length) (fun i => [(0, S.v), (4, .pointer (some ⟨b4, 0, none⟩)), (5, .func (.func 188) #[] #[.pointer (some ⟨bn, 0, none⟩), .pointer (some ⟨ba, 0, none⟩)]), (6, T.v), (14, .int .i64 (C.length : Int)), (15, .int .i64 (i : Int))]) (fun i => [slc tNm true T (fil (fun i => ws (plc a ^ i)) z4 (List.range C.length) i), cel bn (ws (plc a ^ i)).l 24, cel ba [.int .i64 (a : Int)] 3, cel b4 [.int .u64 0, .int .u64 0, .int .u64 0, .int .u64 0, .int .u64 0, .int .u64 0, .int .u64 0, .int .u64 0, .bool false] 32, slc tPw f S C, F]) (fun i => C.length - i) 0 (Nat.zero_le _) ⟨rfl, rfl, rfl, rfl, rfl, rfl, trivial⟩ (by rw [show plc a ^ 0 = 1 from rfl, ws_1]; exact Ent.refl _) ?_
 intro i hi
 have hfl := fil_len (fun i => ws (plc a ^ i)) z4 (List.range C.length) i (by rw [List.length_range]; exact hi)
 rw [List.length_range] at hfl
 by_cases h : i < C.length
 ·have hs := fil_set (fun i => ws (plc a ^ i)) z4 (List.range C.length) i (by rw [List.length_range]; exact h)
  rw [List.getElem_range] at hs
  have h1 := powers1_ok E (plc a ^ i) a ha bn ba
  refine XR ?_
  refine Xbl ?_
  refine Xd ?_
  refine L_o rfl rfl rfl (O_dyn (vs := []) (fs := #[]) (cs := #[.pointer (some ⟨bn, 0, none⟩), .pointer (some ⟨ba, 0, none⟩)]) [1,2] [0,3,4,5] rfl rfl rfl h1 rfl ?_)
  rintro _ _ ⟨rfl, rfl⟩
  refine Xc ?_
  refine Lq (Q_ixAt 2 i rfl rfl rfl rfl (by rw [hfl]; exact h) rfl) ?_
  refine L_s rfl rfl (O_stE 2 i 0 (ws (plc a ^ i)) rfl rfl rfl rfl rfl rfl (tNm.one _) (by rw [hfl]; exact h) (Nat.le_refl 4) (by rw [List.take_zero, List.nil_append, List.drop_of_length_le (by rw [tNm.len]; exact Nat.le_refl 4), List.append_nil]; rfl) ?_)
  refine Xas ?_
  rw [hs]
  refine Xh ?_
  refine Xbu ?_
  exact loopQ_normal (i + 1) (by omega) (by omega) ⟨rfl, rfl, rfl, rfl, rfl, rfl, trivial⟩ (Ent.re [2,0,1,3,4,5] rfl)
 ·obtain rfl : i = C.length := by omega
  have he := fil_end (fun i => ws (plc a ^ i)) z4 (List.range C.length)
  rw [List.length_range] at he
  rw [he]
  have hsum := sum_ok E true f T S (pwrL a C.length) C (by intro k hk; obtain ⟨j, _, rfl⟩ := List.mem_map.1 hk; exact ws_ok _) hC (by unfold pwrL; simp) hl
  refine Xae ?_
  refine Xv ?_
  refine L_o rfl rfl rfl (O_call [0,4] [1,2,3,5] hsum rfl rfl ?_)
  rintro _ _ ⟨rfl, rfl⟩
  refine Xc ?_
  refine L_s rfl rfl (O_stW 4 rfl rfl rfl rfl ?_)
  refine Xr ?_
  refine J_ret ?_
  exact retQ_ret _ [slc tPw f S C] (.cons (RV_cell 4 rfl rfl rfl rfl) .nil) ⟨rfl, rfl⟩ (Ent.re [1,5] rfl)
end
end Go.Proofs
/- Shares that are verified: right ones. -/
set_option autoImplicit false
namespace Go.Proofs
open Go.SL
/-- A share, as it lies. -/
abbrev shL (a : Nat) (v : W4) : List Value := [.int .i64 (a : Int), u64 v.a, u64 v.b, u64 v.c, u64 v.d]
abbrev shV (a : Nat) (v : W4) : Value := .agg (shL a v).toArray
attribute [local irreducible] J JL QOp JOp seqQ blockQ loopQ retQ slc cel hex star pur stars Does RV Ent pAt scopeQ JR seqR endR JLI DoesY
section
variable (E : World)
theorem verify_ok (f : Bool) (S : SV) (C : List Pw) (hC : ∀ p ∈ C, p.ok) (hl : C.length ≤ 1000) (h0 : C ≠ []) (a : Nat) (h1 : 1 ≤ a) (h31 : a ≤ 2147483648) (v : W4) (hv : v.ok) (hq : v.n < Nt.pQ) (he : kP v.n gP = sumI (pwrL a C.length) C C.length) :
 Does Tryz.prog E 49 [S.v, shV a v] [slc tPw f S C] fun r L => r = .bool true ∧ L = [slc tPw f S C] := by
 have hva := svalid_ok E v hv
 rw [decide_eq_true hq] at hva
 have hb := base_ok E v hv
 have hf := feval_ok E f S C hC hl a (by omega)
 rw [← he] at hf
 have hq := eqvPt (pw_ok (kP v.n gP)) (pw_ok (kP v.n gP))
 rw [decide_eq_true rfl] at hq
 have hlen : C.length ≠ 0 := fun h => h0 (List.eq_nil_of_length_eq_zero h)
 generalize pw (kP v.n gP) = w at *
 refine Does.of Tryz.func49 rfl Tryz.ntmps49 rfl rfl fun F => ?_
 refine Xb ?_
 refine L_o rfl rfl rfl (O_box rfl fun b3 => ?_)
 refine XA ?_
 refine XX ?_
 refine XcB ?_
 refine Xbx ?_
 refine XbX ?_
 refine Xp ?_
 refine Xbx ?_
 refine XbF ?_
 refine Xd ?_
 refine XD ?_
 refine X1 ?_
 refine L_o rfl rfl rfl (O_callP (hva) rfl ?_)
 refine XbO ?_
 refine XbU ?_
 refine DH [0,1] [0,1,3,4,5,7,8] (.quiet 0 (.quiet 1 (.quiet 3 (.quiet 4 (.quiet 5 (.loud 2 (.loud 6 (.quiet 7 (.quiet 8 .done))))))))) Tryz.mixed ?_
 refine Sq (Ent.re [0,1] rfl) rfl (Q_fa0 rfl) ?_
 refine Sq (Ent.re [0,1] rfl) rfl (Q_ldA 0 rfl rfl rfl) ?_
 refine XaC ?_
 refine XcK ?_
 refine S_o rfl rfl rfl rfl (O_callP (hb) rfl ⟨_, fun _ => ⟨Ent.reN [0,1] rfl, Ent.refl _⟩, ?_⟩)
 refine Xa ?_
 refine S_o rfl rfl rfl rfl (O_call [1] [0,2] hf rfl rfl ?_)
 (rintro _ _ ⟨rfl, rfl⟩; refine ⟨_, fun _ => ⟨Ent.reN [1,0] rfl, Ent.refl _⟩, ?_⟩)
 refine Xa ?_
 refine Sq (Ent.re [1,0] rfl) rfl (Q_geql eqgPt hq rfl rfl) ?_
 refine Sq (Ent.re [1,0] rfl) rfl (Q_assign rfl) ?_
 refine Xu ?_
 refine J_ret ?_
 exact retQ_ret _ [slc tPw f S C] (.cons (RV_tmp rfl) .nil) ⟨rfl, rfl⟩ (Ent.re [0,2] rfl)
end
end Go.Proofs
/- Shares put together: places, weights. -/
set_option autoImplicit false
namespace Go.Proofs
open Go.SL
/-- Places that may be. -/
structure Plcs (l : List Nat) : Prop where
 ne : l ≠ []
 nd : l.Nodup
 lo : ∀ a ∈ l, 1 ≤ a
 hi : ∀ a ∈ l, a ≤ 2147483648
 len : l.length ≤ 1000
def upF (x : Nat) (l : List Nat) : Fq := l.foldl (fun u o => if o = x then u else u * plc o) 1
def dnF (x : Nat) (l : List Nat) : Fq := l.foldl (fun u o => if o = x then u else u * (plc o - plc x)) 1
def wgt (l : List Nat) (x : Nat) : Fq := upF x l * siv (dnF x l)
theorem foldl_take {α β : Type} (f : β → α → β) (b : β) (l : List α) (i : Nat) (h : i < l.length) : (l.take (i + 1)).foldl f b = f ((l.take i).foldl f b) l[i] := by
 rw [List.take_succ_eq_append_getElem h, List.foldl_append]; rfl
attribute [local irreducible] J JL QOp JOp seqQ blockQ loopQ retQ slc cel hex star pur stars Does RV Ent pAt scopeQ JR seqR endR JLI DoesY
section
variable (E : World)
theorem places_ok (f : Bool) (S : SV) (l : List Nat) (hl : Plcs l) : Does Tryz.prog E 147 [S.v] [slc tN f S l] fun r L => r = .bool true ∧ L = [slc tN f S l] := by
 have h1000 := hl.len
 have hne : l.length ≠ 0 := fun h => hl.ne (List.eq_nil_of_length_eq_zero h)
 refine Does.of Tryz.func147 rfl Tryz.ntmps147 rfl rfl fun F => ?_
 refine XbB ?_
 refine Xba ?_
 refine J_loop (fun i : Nat => i ≤ l.length) (fun i => [(0, S.v), (7, S.v), (8, .int .i64 (l.length : Int)), (9, .int .i64 (i : Int))]) (fun _ => [slc tN f S l, F]) (fun i => l.length - i) 0 (Nat.zero_le _) ⟨rfl, rfl, rfl, rfl, trivial⟩ (Ent.refl _) ?_
 intro i hi
 by_cases h : i < l.length
 ·have hm := List.getElem_mem h
  have h1 := hl.lo _ hm
  have h2 := hl.hi _ hm
  refine XR ?_
  refine Lq (Q_ixAt 0 i rfl rfl rfl rfl h rfl) ?_
  refine Lq (Q_ldEAt 0 i 0 (v := .int .i64 ((l[i] : Nat) : Int)) rfl rfl rfl rfl h (by decide) rfl) ?_
  refine Xbm ?_
  refine Xb2 ?_
  refine XbF ?_
  refine Xay ?_
  have hlen : ((l.take i).drop 0).length = i := by simp; omega
  have hsub : ∀ w, Sat E w [slc tN f S l, F] → Rd tN w (S.sub tN.sz 0 i) ((l.take i).drop 0) := fun w hs => (hs.rd 0 rfl).sub 0 i (Nat.zero_le _) hi
  refine Xl ?_
  refine Lq (Q_slH (τ := tN) i (fun w hs => hs.rd 0 rfl) rfl rfl rfl hi rfl) ?_
  refine Lq ((Q_len (τ := tN) hsub rfl).as (v' := .int .i64 (i : Int)) (by rw [hlen])) ?_
  refine XJ ?_
  refine J_loop (fun j : Nat => j ≤ i) (fun j => [(0, S.v), (4, .int .i64 ((l[i] : Nat) : Int)), (7, S.v), (8, .int .i64 (l.length : Int)), (9, .int .i64 (i : Int)), (22, (S.sub tN.sz 0 i).v), (23, .int .i64 (i : Int)), (24, .int .i64 (j : Int))]) (fun _ => [slc tN f S l, F]) (fun j => i - j) 0 (Nat.zero_le _) ⟨rfl, rfl, rfl, rfl, rfl, rfl, rfl, rfl, trivial⟩ (Ent.refl _) ?_
  intro j hj
  by_cases hji : j < i
  ·have hjl : j < ((l.take i).drop 0).length := by omega
   have hg : ((l.take i).drop 0)[j] = l[j]'(by omega) := by simp
   have hne2 : l[j]'(by omega) ≠ l[i] := fun he => by
    have := (List.getElem_inj (h₀ := by omega) (h₁ := h) hl.nd).1 he
    omega
   refine Xaz ?_
   refine Lq (Q_ix (τ := tN) j hsub rfl rfl rfl hjl rfl) ?_
   refine Lq (Q_ldE (τ := tN) (v := .int .i64 ((l[j]'(by omega) : Nat) : Int)) j 0 hsub rfl rfl rfl hjl (by decide) (by rw [hg]; rfl)) ?_
   refine XT ?_
   refine Xem ?_
   refine XaI ?_
   refine X8 ?_
   refine XbG ?_
   refine JL_nil ?_
   exact loopQ_normal (j + 1) (by omega) (by omega) ⟨rfl, rfl, rfl, rfl, rfl, rfl, rfl, rfl, trivial⟩ (Ent.refl _)
  ·refine Xct ?_
   refine XbA ?_
   refine X8 ?_
   exact Xc9
 ·refine Xae ?_
  refine Xg ?_
  refine XO ?_
  refine Lq ((Q_gtr rfl rfl).as (v' := .bool true) (congrArg Value.bool (decide_eq_true (by omega)))) ?_
  refine Xq ?_
  exact retQ_ret _ [slc tN f S l] (.cons (RV_tmp rfl) .nil) ⟨rfl, rfl⟩ (Ent.refl _)
end
end Go.Proofs
/- Shares put together. -/
set_option autoImplicit false
namespace Go.Proofs
open Go.SL
def tSh : Ty (Nat × W4) := ⟨53, 5, fun s => shL s.1 s.2, fun _ => rfl, by decide, fun a v hv => by simp at hv; rcases hv with rfl | rfl | rfl | rfl | rfl <;> rfl⟩
instance : TyI Tryz.prog tSh.e 5 (.agg #[.int .i64 0, .int .u64 0, .int .u64 0, .int .u64 0, .int .u64 0]) 40 := inferInstanceAs (TyI Tryz.prog 53 5 (.agg #[.int .i64 0, .int .u64 0, .int .u64 0, .int .u64 0, .int .u64 0]) 40)
instance : TyU Tryz.prog 67 (.slice tSh.e) := inferInstanceAs (TyU Tryz.prog 67 (.slice 53))
def wgtL (l : List Nat) : List W4 := l.map fun x => ws (wgt l x)
def joinF (l : List (Nat × W4)) : Fq := l.foldl (fun s p => s + wgt (l.map (·.1)) p.1 * sv p.2) 0
attribute [local irreducible] J JL QOp JOp seqQ blockQ loopQ retQ slc cel hex star pur stars Does RV Ent pAt scopeQ JR seqR endR JLI DoesY
section
variable (E : World)
theorem ssubP (a b : Nat) (ha : a < 18446744073709551616) (hb : b < 18446744073709551616) : Does Tryz.prog E 148 [(plW a).v, (plW b).v] [] fun r L => r = (ws (plc a - plc b)).v ∧ L = [] := by
 have := ssubE E (plW a) (plW b) (plW_ok ha) (plW_ok hb); rwa [sv_plW, sv_plW] at this
theorem weights_ok (f : Bool) (S : SV) (l : List Nat) (hl : Plcs l) : Does Tryz.prog E 92 [S.v] [slc tN f S l] fun r L => ∃ T : SV, r = .tuple #[T.v, .int .i64 0] ∧ L = [slc tNm true T (wgtL l), slc tN f S l] := by
 have h1000 := hl.len
 have hp := places_ok E f S l hl
 refine Does.of Tryz.func92 rfl Tryz.ntmps92 rfl rfl fun F => ?_
 refine Xb ?_
 refine Xbm ?_
 refine L_o rfl rfl rfl (O_call [0] [1] hp rfl rfl ?_)
 rintro _ _ ⟨rfl, rfl⟩
 refine Xav ?_
 refine Xag ?_
 refine XO ?_
 refine L_o rfl rfl rfl (O_mk (τ := tNm) l.length z4 rfl rfl rfl rfl rfl rfl (by omega) (by decide) (fun T => ?_))
 refine Xbf ?_
 refine XX ?_
 refine XJ ?_
 rw [← fil_0 (fun x => ws (wgt l x)) z4 l]
 refine J_loop (fun i : Nat => i ≤ l.length) (fun i => [(0, S.v), (4, T.v), (17, S.v), (18, .int .i64 (l.length : Int)), (19, .int .i64 (i : Int))]) (fun i => [slc tNm true T (fil (fun x => ws (wgt l x)) z4 l i), slc tN f S l, F]) (fun i => l.length - i) 0 (Nat.zero_le _) ⟨rfl, rfl, rfl, rfl, rfl, trivial⟩ (Ent.refl _) ?_
 intro i hi
 have hfl := fil_len (fun x => ws (wgt l x)) z4 l i hi
 by_cases h : i < l.length
 ·have hs := fil_set (fun x => ws (wgt l x)) z4 l i h
  have hx31 := hl.hi _ (List.getElem_mem h)
  generalize hx : l[i] = x at *
  refine XR ?_
  refine Lq (Q_ixAt 1 i rfl rfl rfl rfl h rfl) ?_
  refine Lq (Q_ldEAt 1 i 0 (v := .int .i64 ((x : Nat) : Int)) rfl rfl rfl rfl h (by decide) (by rw [hx]; rfl)) ?_
  refine Xs ?_
  refine XW ?_
  refine Xk ?_
  refine L_o rfl rfl rfl (O_alloc fun b7 => ?_)
  refine L_o rfl rfl rfl (O_alloc fun b8 => ?_)
  refine Xcx ?_
  refine Xc ?_
  refine XB ?_
  refine Xg ?_
  refine Lq (Q_lenAt 3 rfl rfl) ?_
  refine XJ ?_
  refine J_loop (fun j : Nat => j ≤ l.length) (fun j => [(0, S.v), (4, T.v), (5, .int .i64 (i : Int)), (6, .int .i64 (x : Int)), (7, .pointer (some ⟨b7, 0, none⟩)), (8, .pointer (some ⟨b8, 0, none⟩)), (17, S.v), (18, .int .i64 (l.length : Int)), (19, .int .i64 (i : Int)), (26, S.v), (27, .int .i64 (l.length : Int)), (28, .int .i64 (j : Int))]) (fun j => [cel b8 (ws (dnF x (l.take j))).l 24, cel b7 (ws (upF x (l.take j))).l 24, slc tNm true T (fil (fun x => ws (wgt l x)) z4 l i), slc tN f S l, F]) (fun j => l.length - j) 0 (Nat.zero_le _) ⟨rfl, rfl, rfl, rfl, rfl, rfl, rfl, rfl, rfl, rfl, rfl, rfl, trivial⟩ (by rw [List.take_zero, show dnF x [] = 1 from rfl, show upF x [] = 1 from rfl, ws_1]; exact Ent.refl _) ?_
  intro j hj
  by_cases hjl : j < l.length
  ·have hu : upF x (l.take (j + 1)) = if l[j] = x then upF x (l.take j) else upF x (l.take j) * plc l[j] := foldl_take _ _ _ _ hjl
   have hd : dnF x (l.take (j + 1)) = if l[j] = x then dnF x (l.take j) else dnF x (l.take j) * (plc l[j] - plc x) := foldl_take _ _ _ _ hjl
   have ho31 := hl.hi _ (List.getElem_mem hjl)
   generalize ho : l[j] = o at *
   generalize upF x (l.take j) = u at *
   generalize dnF x (l.take j) = d at *
   refine Xaz ?_
   refine Lq (Q_ixAt 3 j rfl rfl rfl rfl hjl rfl) ?_
   refine Lq (Q_ldEAt 3 j 0 (v := .int .i64 ((o : Nat) : Int)) rfl rfl rfl rfl hjl (by decide) (by rw [ho]; rfl)) ?_
   refine Xn ?_
   by_cases hox : o = x
   ·rw [if_pos hox] at hu hd
    rw [← hu, ← hd]
    refine Xl ?_
    refine Xci ?_
    refine XaI ?_
    refine X8 ?_
    refine XbG ?_
    exact Xfn
   ·rw [if_neg hox] at hu hd
    have m1 := num_ok E o (by omega)
    have m2 := smulP E u o (by omega)
    have m3 := num_ok E x (by omega)
    have m4 := ssubP E o x (by omega) (by omega)
    have m5 := smulF E d (plc o - plc x)
    rw [← hu] at m2
    rw [← hd] at m5
    refine Xl ?_
    refine Xei ?_
    refine Xm ?_
    refine DH [0,1] [0,1,4,5,7] (.quiet 0 (.quiet 1 (.quiet 4 (.quiet 5 (.quiet 7 (.loud 2 (.loud 3 (.loud 6 (.loud 8 (.loud 9 (.loud 10 (.loud 11 (.loud 12 .done))))))))))))) Tryz.mixed ?_
    refine Sq (Ent.re [0,1] rfl) rfl (Q_ldA 1 rfl rfl rfl) ?_
    refine XaC ?_
    refine Sq (Ent.re [0,1] rfl) rfl (Q_ldA 0 rfl rfl rfl) ?_
    refine Xb7 ?_
    refine S_o rfl rfl rfl rfl (O_callP (m1) rfl ⟨_, fun _ => ⟨Ent.reN [0,1] rfl, Ent.refl _⟩, ?_⟩)
    refine Xa ?_
    refine S_o rfl rfl rfl rfl (O_callP (m2) rfl ⟨_, fun _ => ⟨Ent.reN [0,1] rfl, Ent.refl _⟩, ?_⟩)
    refine Xa ?_
    refine S_o rfl rfl rfl rfl (O_callP (m1) rfl ⟨_, fun _ => ⟨Ent.reN [0,1] rfl, Ent.refl _⟩, ?_⟩)
    refine Xa ?_
    refine S_o rfl rfl rfl rfl (O_callP (m3) rfl ⟨_, fun _ => ⟨Ent.reN [0,1] rfl, Ent.refl _⟩, ?_⟩)
    refine Xa ?_
    refine S_o rfl rfl rfl rfl (O_callP (m4) rfl ⟨_, fun _ => ⟨Ent.reN [0,1] rfl, Ent.refl _⟩, ?_⟩)
    refine Xa ?_
    refine S_o rfl rfl rfl rfl (O_callP (m5) rfl ⟨[], free_no (by kernel_rfl), ?_⟩)
    refine Xa ?_
    refine Xc4 ?_
    refine Xau ?_
    refine S_nil ?_
    refine X8 ?_
    refine XbG ?_
    exact Xfn
  ·obtain rfl : j = l.length := by omega
   rw [List.take_length]
   have m1 := sinvF E (dnF x l)
   have m2 := smulF E (upF x l) (siv (dnF x l))
   rw [show upF x l * siv (dnF x l) = wgt l x from rfl] at m2
   refine Xae ?_
   refine DH [0,1,2] [0,1,2,3,6] (.quiet 0 (.quiet 1 (.quiet 2 (.quiet 3 (.loud 4 (.loud 5 (.quiet 6 (.loud 7 .done)))))))) Tryz.mixed ?_
   refine Sq (Ent.re [0,1,2] rfl) rfl (Q_move rfl) ?_
   refine Sq (Ent.re [0,1,2] rfl) rfl (Q_move rfl) ?_
   refine Sq (Ent.re [0,1,2] rfl) rfl (Q_ldA 1 rfl rfl rfl) ?_
   refine Sq (Ent.re [0,1,2] rfl) rfl (Q_ldA 0 rfl rfl rfl) ?_
   refine S_o rfl rfl rfl rfl (O_callP (m1) rfl ⟨_, fun _ => ⟨Ent.reN [0,1,2] rfl, Ent.refl _⟩, ?_⟩)
   refine Xa ?_
   refine S_o rfl rfl rfl rfl (O_callP (m2) rfl ⟨_, fun _ => ⟨Ent.reN [0,1,2] rfl, Ent.refl _⟩, ?_⟩)
   refine Xa ?_
   refine Sq (Ent.re [0,1,2] rfl) rfl (Q_ixAt 2 i rfl rfl rfl rfl (by rw [hfl]; exact h) rfl) ?_
   refine S_s rfl rfl rfl (O_stE 2 i 0 (ws (wgt l x)) rfl rfl rfl rfl rfl rfl (tNm.one _) (by rw [hfl]; exact h) (Nat.le_refl 4) (by rw [List.take_zero, List.nil_append, List.drop_of_length_le (by rw [tNm.len]; exact Nat.le_refl 4), List.append_nil]; rfl) ⟨[], free_no (by kernel_rfl), ?_⟩)
   refine Xaq ?_
   refine XV ?_
   rw [hs]
   refine Xh ?_
   refine Xbu ?_
   exact loopQ_normal (i + 1) (by omega) (by omega) ⟨rfl, rfl, rfl, rfl, rfl, trivial⟩ (Ent.re [2,3,4] rfl)
 ·obtain rfl : i = l.length := by omega
  rw [fil_end]
  refine Xae ?_
  refine Xg ?_
  refine Xbz ?_
  exact retQ_ret _ [slc tNm true T (wgtL l), slc tN f S l] (.cons (RV_tmp rfl) (.cons (RV_tmp rfl) .nil)) ⟨T, rfl, rfl⟩ (Ent.refl _)
end
end Go.Proofs
