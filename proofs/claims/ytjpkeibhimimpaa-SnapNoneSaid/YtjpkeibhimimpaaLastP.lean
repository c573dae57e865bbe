/- What the slots tell behind writes, whole or cut, and behind a byte that is another one, in plain Lean. -/
import Derived.Test.YtjpkeibhimimpaaRef37g
import Derived.Test.YtjpkeibhimimpaaSnap6
set_option autoImplicit false
namespace Go.Proofs
open Go.SL
theorem be_four (n : Nat) : be (four n) = n % 2 ^ 32 := by
  simp only [be, four, List.foldl_cons, List.foldl_nil, UInt8.toNat_ofNat']
  omega
/-- A slot with a body that is whole. -/
def whole (g : Nat) (body : List UInt8) : List UInt8 :=
  four (crc (four (g % 2 ^ 32) ++ four (body.length % 2 ^ 32) ++ body)) ++ (four (g % 2 ^ 32) ++ four (body.length % 2 ^ 32) ++ body)
theorem four_len (n : Nat) : (four n).length = 4 := rfl
theorem whole_len (g : Nat) (body : List UInt8) : (whole g body).length = 12 + body.length := by simp [whole, four_len]; omega
theorem whole_drop4 (g : Nat) (body : List UInt8) : (whole g body).drop 4 = four (g % 2 ^ 32) ++ four (body.length % 2 ^ 32) ++ body := rfl
theorem whole_drop12 (g : Nat) (body : List UInt8) : (whole g body).drop 12 = body := rfl
theorem whole_nw0 (g : Nat) (body : List UInt8) : nw (whole g body) 0 = crc ((whole g body).drop 4) := by
  rw [whole_drop4]
  show be (four _) = _
  rw [be_four, Nat.mod_eq_of_lt (crc_lt _)]
theorem whole_nw1 (g : Nat) (body : List UInt8) : nw (whole g body) 1 = g % 2 ^ 32 := by
  show be (four _) = _
  rw [be_four, Nat.mod_mod]
theorem whole_nw2 (g : Nat) (body : List UInt8) : nw (whole g body) 2 = body.length % 2 ^ 32 := by
  show be (four _) = _
  rw [be_four, Nat.mod_mod]
theorem whole_right (g : Nat) (body : List UInt8) : rightB (whole g body) = true := by
  have h := whole_len g body
  simp only [rightB, Bool.and_eq_true, decide_eq_true_eq]
  exact ⟨by omega, whole_nw0 g body, by rw [whole_nw2, h]; congr 1; omega⟩
theorem cut_right (g : Nat) (body : List UInt8) (n : Nat) (hb : body.length ≤ 32768) (hn : n < 12 + body.length) : rightB ((whole g body).take n) = false := by
  have h := whole_len g body
  simp only [rightB, Bool.and_eq_false_iff, decide_eq_false_iff_not, List.length_take, h]
  by_cases h12 : 12 ≤ n
  · right; right
    have e : nw ((whole g body).take n) 2 = nw (whole g body) 2 := by
      unfold nw
      congr 1
      rw [List.drop_take, List.take_take]
      congr 1
      omega
    rw [e, whole_nw2]
    omega
  · left; omega
theorem wrote_eq (a b body : List UInt8) (upto : Int) : wrote a b body upto = if 0 ≤ upto ∧ upto < ((12 + body.length : Nat) : Int) then (whole (loadN a b + 1) body).take upto.toNat else whole (loadN a b + 1) body := by
  have h := whole_len (loadN a b + 1) body
  rw [← h]
  rfl
/-- Are these slots telling the body, written as the n-th? -/
def Tells (a b w : List UInt8) (n : Nat) : Prop :=
  (n = 0 ∧ w = [] ∧ rightB a = false ∧ rightB b = false) ∨ (0 < n ∧ rightB a = true ∧ nw a 1 = n ∧ a.drop 12 = w ∧ (rightB b = false ∨ nw b 1 ≤ n)) ∨
  (0 < n ∧ rightB b = true ∧ nw b 1 = n ∧ b.drop 12 = w ∧ (rightB a = false ∨ nw a 1 < n))
theorem tells_nil : Tells [] [] [] 0 := .inl ⟨rfl, rfl, rfl, rfl⟩
theorem Tells.told {a b w : List UInt8} {n : Nat} (h : Tells a b w n) : (n = 0 ∧ w = [] ∧ rightB a = false ∧ rightB b = false ∧ told a b = -1) ∨
    (0 < n ∧ rightB a = true ∧ nw a 1 = n ∧ a.drop 12 = w ∧ told a b = 0) ∨ (0 < n ∧ rightB b = true ∧ nw b 1 = n ∧ b.drop 12 = w ∧ told a b = 1) := by
  rcases h with ⟨h1, h2, h3, h4⟩ | ⟨h1, h2, h3, h4, h5⟩ | ⟨h1, h2, h3, h4, h5⟩
  · exact .inl ⟨h1, h2, h3, h4, by simp [Go.Proofs.told, h3, h4]⟩
  · refine .inr (.inl ⟨h1, h2, h3, h4, ?_⟩)
    unfold Go.Proofs.told
    rw [if_neg, if_pos h2]
    rintro ⟨h6, h7⟩
    rcases h5 with h5 | h5
    · rw [h5] at h6; cases h6
    · rcases h7 with h7 | h7
      · rw [h2] at h7; cases h7
      · omega
  · refine .inr (.inr ⟨h1, h2, h3, h4, ?_⟩)
    unfold Go.Proofs.told
    rw [if_pos]
    refine ⟨h2, h5.imp id fun h => by omega⟩
theorem Tells.load {a b w : List UInt8} {n : Nat} (h : Tells a b w n) : loadT a b = w ∧ loadN a b = n := by
  rcases h.told with ⟨h1, h2, _, _, h5⟩ | ⟨_, _, h3, h4, h5⟩ | ⟨_, _, h3, h4, h5⟩ <;> simp [loadT, loadN, h5, *]
def wholeN (body : List UInt8) (upto : Int) : Prop := upto < 0 ∨ (body.length : Int) ≤ upto - 12
instance (body : List UInt8) (upto : Int) : Decidable (wholeN body upto) := inferInstanceAs (Decidable (_ ∨ _))
theorem write_cut {a b body w : List UInt8} {upto : Int} {n : Nat} (h : Tells a b w n) (hb : body.length ≤ 32768) (hc : ¬ wholeN body upto) :
    Tells (doW a b body upto).1 (doW a b body upto).2.1 w n := by
  have hu : 0 ≤ upto ∧ upto < ((12 + body.length : Nat) : Int) := by unfold wholeN at hc; omega
  have hr := cut_right (loadN a b + 1) body upto.toNat hb (by omega)
  have hw : wrote a b body upto = (whole (loadN a b + 1) body).take upto.toNat := by rw [wrote_eq, if_pos hu]
  rw [← hw] at hr
  unfold doW
  rw [if_neg (by omega)]
  generalize wrote a b body upto = u at hr
  rcases h.told with ⟨h1, h2, h3, h4, h5⟩ | ⟨h1, h2, h3, h4, h5⟩ | ⟨h1, h2, h3, h4, h5⟩
  · rw [h5]; exact .inl ⟨h1, h2, hr, h4⟩
  · rw [h5]; exact .inr (.inl ⟨h1, h2, h3, h4, .inl hr⟩)
  · rw [h5]; exact .inr (.inr ⟨h1, h2, h3, h4, .inl hr⟩)
theorem write_whole {a b body w : List UInt8} {upto : Int} {n : Nat} (h : Tells a b w n) (hn : n < 1000) (hb : body.length ≤ 32768) (hc : wholeN body upto) :
    Tells (doW a b body upto).1 (doW a b body upto).2.1 body (n + 1) := by
  have hu : ¬ (0 ≤ upto ∧ upto < ((12 + body.length : Nat) : Int)) := by unfold wholeN at hc; omega
  have hw : wrote a b body upto = whole (loadN a b + 1) body := by rw [wrote_eq, if_neg hu]
  rw [h.load.2] at hw
  have h6 := whole_right (n + 1) body
  have h7 := whole_nw1 (n + 1) body
  have h8 := whole_drop12 (n + 1) body
  rw [Nat.mod_eq_of_lt (by omega)] at h7
  unfold doW
  rw [if_neg (by omega), hw]
  generalize whole (n + 1) body = u at h6 h7 h8
  rcases h.told with ⟨h1, h2, h3, h4, h5⟩ | ⟨h1, h2, h3, h4, h5⟩ | ⟨h1, h2, h3, h4, h5⟩
  · rw [h5]; exact .inr (.inl ⟨by omega, h6, h7, h8, .inl h4⟩)
  · rw [h5, if_pos rfl]; exact .inr (.inr ⟨by omega, h6, h7, h8, .inr (by simp only; omega)⟩)
  · rw [h5, if_neg (by decide)]; exact .inr (.inl ⟨by omega, h6, h7, h8, .inr (by simp only; omega)⟩)
theorem doW_err {a b body : List UInt8} {upto : Int} (h : 32768 < body.length) : doW a b body upto = (a, b, 2) := by unfold doW; rw [if_pos h]
theorem doW_ok {a b body : List UInt8} {upto : Int} (h : body.length ≤ 32768) : (doW a b body upto).2.2 = 0 := by
  unfold doW; rw [if_neg (by omega)]; split <;> rfl
theorem wrote_len (a b body : List UInt8) (upto : Int) : (wrote a b body upto).length ≤ 12 + body.length := by
  rw [wrote_eq]
  split
  · rw [List.length_take, whole_len]; omega
  · rw [whole_len]; omega
theorem doW_len {a b body : List UInt8} {upto : Int} (ha : a.length ≤ 40000) (hb : b.length ≤ 40000) : (doW a b body upto).1.length ≤ 40000 ∧ (doW a b body upto).2.1.length ≤ 40000 := by
  have := wrote_len a b body upto
  unfold doW
  split
  · exact ⟨ha, hb⟩
  · split
    · simp only; omega
    · simp only; omega
/-- A byte that is another one: the slot is not right. -/
theorem be_inj_aux : ∀ (s t : List UInt8) (a b : Nat), s.length = t.length → s.foldl (fun a b => a * 256 + b.toNat) a = t.foldl (fun a b => a * 256 + b.toNat) b → a = b ∧ s = t
  | [], [], _, _, _, h => ⟨h, rfl⟩
  | [], _ :: _, _, _, h, _ => by simp at h
  | _ :: _, [], _, _, h, _ => by simp at h
  | x :: s, y :: t, a, b, h, h2 => by
    rw [List.foldl_cons, List.foldl_cons] at h2
    obtain ⟨h3, h4⟩ := be_inj_aux s t _ _ (by simpa using h) h2
    have h5 := x.toNat_lt
    have h6 := y.toNat_lt
    have h7 : x.toNat = y.toNat := by omega
    exact ⟨by omega, by rw [h4, UInt8.toNat_inj.1 h7]⟩
theorem be_inj (s t : List UInt8) (h : s.length = t.length) (h2 : be s = be t) : s = t := (be_inj_aux s t 0 0 h h2).2
theorem spoil_right (l : List UInt8) (k : Nat) (x : UInt8) (h : rightB l = true) (hk : k < l.length) (hx : x ≠ l[k]) : rightB (l.set k x) = false := by
  simp only [rightB, Bool.and_eq_true, decide_eq_true_eq] at h
  obtain ⟨h1, h2, h3⟩ := h
  simp only [rightB, Bool.and_eq_false_iff, decide_eq_false_iff_not]
  right; left
  by_cases h4 : k < 4
  · have e : (l.set k x).drop 4 = l.drop 4 := by rw [List.drop_set_of_lt h4]
    rw [e, ← h2]
    intro h5
    have h6 := be_inj _ _ (by simp) h5
    have h7 : ((List.drop (4 * 0) (l.set k x)).take 4)[k]? = ((List.drop (4 * 0) l).take 4)[k]? := by rw [h6]
    simp [List.getElem?_take, h4, hk] at h7
    exact hx h7
  · have e0 : nw (l.set k x) 0 = nw l 0 := by
      unfold nw
      rw [show 4 * 0 = 0 from rfl, List.drop_zero, List.drop_zero, List.take_set_of_le (by omega)]
    have e : (l.set k x).drop 4 = (l.drop 4).set (k - 4) x := by
      rw [List.drop_set, if_neg h4]
    rw [e0, e, h2]
    exact fun h5 => crc_set (l.drop 4) (k - 4) x (by simp; omega) (by simpa [show 4 + (k - 4) = k by omega] using hx) h5.symm
end Go.Proofs
