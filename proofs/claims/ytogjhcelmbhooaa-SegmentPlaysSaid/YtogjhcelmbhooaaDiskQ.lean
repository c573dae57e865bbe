/- What is played on a disk, and what a crash leaves: plain laws. -/
import Derived.Test.YtogjhcelmbhooaaDiskP
set_option autoImplicit false
namespace Go.Proofs

def plays (l : List Ac) : Dk := l.foldl (fun d a => (doD d a).1) ⟨[], 0⟩
theorem plays_succ (l : List Ac) (k : Nat) (h : k < l.length) : plays (l.take (k + 1)) = (doD (plays (l.take k)) l[k]).1 := by
  unfold plays
  rw [List.take_succ_eq_append_getElem h, List.foldl_append]
  rfl
theorem fold_ok (l : List Ac) : ∀ d : Dk, d.ok → (l.foldl (fun d a => (doD d a).1) d).ok := by
  induction l with
  | nil => intro d h; exact h
  | cons a l ih => intro d h; exact ih _ (doD_ok d a h)
theorem plays_ok (l : List Ac) : (plays l).ok := fold_ok l _ ⟨Nat.le_refl _, Nat.zero_le _⟩

def fewB (l : List Ac) : Bool := decide (l.length ≤ 40) && l.all fun a => decide (a.text.length ≤ 70000)
theorem few_text {l : List Ac} (h : fewB l = true) : l.length ≤ 40 ∧ ∀ a ∈ l, a.text.length ≤ 70000 := by
  simp only [fewB, Bool.and_eq_true, decide_eq_true_eq, List.all_eq_true] at h
  exact h
theorem few_long {l : List Ac} (h : 40 < l.length) : fewB l = false := by
  have : decide (l.length ≤ 40) = false := decide_eq_false (by omega)
  simp [fewB, this]
theorem few_wide {l : List Ac} {k : Nat} (h : k < l.length) (h2 : 70000 < l[k].text.length) : fewB l = false := by
  cases e : fewB l with
  | false => rfl
  | true => have := (few_text e).2 l[k] (List.getElem_mem h); omega
theorem few_yes {l : List Ac} (h : l.length ≤ 40) (h2 : ∀ a ∈ l.take l.length, a.text.length ≤ 70000) : fewB l = true := by
  rw [List.take_length] at h2
  simp only [fewB, Bool.and_eq_true, decide_eq_true_eq, List.all_eq_true]
  exact ⟨h, h2⟩
theorem take_succ_all {p : Ac → Prop} {l : List Ac} {k : Nat} (h : k < l.length) (h1 : ∀ a ∈ l.take k, p a) (h2 : p l[k]) : ∀ a ∈ l.take (k + 1), p a := by
  intro a ha
  rw [List.take_succ_eq_append_getElem h] at ha
  rcases List.mem_append.1 ha with ha | ha
  · exact h1 a ha
  · rw [List.mem_singleton.1 ha]; exact h2

theorem torn_get (keep s : Nat) (b : List UInt8) (k i : Nat) (h : i < s ∨ kb keep s i = true) : (torn keep s b k)[i]? = b[i]? := by
  simp only [torn, List.getElem?_mapIdx]
  cases b[i]? with
  | none => rfl
  | some x =>
    simp only [Option.map_some, Option.some.injEq]
    rcases h with h | h
    · rw [if_neg (by omega)]
    · rw [if_neg (by rw [h]; simp)]
/-- What was synced stays. -/
theorem tear_sure (d : Dk) (keep : Nat) : (tear d keep).take d.s = d.b.take d.s := by
  have he := endTo_le keep d.s (d.b.length - d.s)
  unfold tear
  rw [List.take_take, Nat.min_eq_left he.1]
  apply List.ext_getElem?
  intro i
  rw [List.getElem?_take, List.getElem?_take]
  split
  · rename_i hi; exact torn_get _ _ _ _ _ (.inl hi)
  · rfl
theorem endTo_kept (keep s : Nat) (hm : ∀ i j, i ≤ j → kb keep s (s + j) = true → kb keep s (s + i) = true) : ∀ k i, s ≤ i → i < endTo keep s k → kb keep s i = true
  | 0, i, h1, h2 => by simp only [endTo] at h2; omega
  | k + 1, i, h1, h2 => by
    simp only [endTo] at h2
    split at h2
    · rename_i hk
      have := hm (i - s) k (by omega) hk
      rwa [show s + (i - s) = i by omega] at this
    · exact endTo_kept keep s hm k i h1 h2
/-- A crash without gaps leaves a beginning. -/
theorem tear_begin (d : Dk) (keep : Nat) (hm : ∀ i j, i ≤ j → kb keep d.s (d.s + j) = true → kb keep d.s (d.s + i) = true) : tear d keep = d.b.take (endTo keep d.s (d.b.length - d.s)) := by
  unfold tear
  apply List.ext_getElem?
  intro i
  rw [List.getElem?_take, List.getElem?_take]
  split
  · rename_i hi
    apply torn_get
    by_cases h : i < d.s
    · exact .inl h
    · exact .inr (endTo_kept keep d.s hm _ i (by omega) hi)
  · rfl
theorem endTo_all (keep s : Nat) : ∀ k, (∀ j, j < k → kb keep s (s + j) = true) → endTo keep s k = s + k
  | 0, _ => rfl
  | k + 1, h => by simp only [endTo, h k (by omega), if_true]; omega
theorem endTo_none (keep s : Nat) : ∀ k, (∀ j, j < k → kb keep s (s + j) = false) → endTo keep s k = s
  | 0, _ => rfl
  | k + 1, h => by
    simp only [endTo, h k (by omega)]
    exact endTo_none keep s k fun j hj => h j (by omega)
theorem bits_full (k i : Nat) : ((2 ^ k - 1) >>> i % 2 == 1) = decide (i < k) := by
  have h := Nat.testBit_two_pow_sub_one k i
  rw [Nat.testBit_eq_decide_div_mod_eq] at h
  rw [Nat.shiftRight_eq_div_pow]
  by_cases hi : i < k
  · simp only [hi, decide_true, decide_eq_true_eq] at h
    simp [h, hi]
  · simp only [hi, decide_false, decide_eq_false_iff_not] at h
    simp [h, hi]
theorem kb_full (k s i : Nat) : kb (2 ^ k - 1) s i = (decide (i / 64 - s / 64 < 64) && decide (i / 64 - s / 64 < k)) := by
  unfold kb; rw [bits_full]
theorem kb_mono (k s : Nat) : ∀ i j, i ≤ j → kb (2 ^ k - 1) s (s + j) = true → kb (2 ^ k - 1) s (s + i) = true := by
  intro i j hij h
  rw [kb_full] at h ⊢
  simp only [Bool.and_eq_true, decide_eq_true_eq] at h ⊢
  omega
/-- A crash that keeps all of a few sectors changes nothing. -/
theorem tear_full (d : Dk) (h : d.s ≤ d.b.length) (h2 : d.b.length ≤ d.s + 3000) : tear d 18446744073709551615 = d.b := by
  have e : (18446744073709551615 : Nat) = 2 ^ 64 - 1 := by decide
  rw [e, tear_begin d _ (kb_mono 64 d.s), endTo_all]
  · rw [List.take_of_length_le (by omega)]
  · intro j hj
    rw [kb_full]
    simp only [Bool.and_eq_true, decide_eq_true_eq]
    omega
/-- A crash that keeps none leaves what was synced. -/
theorem tear_zero (d : Dk) : tear d 0 = d.b.take d.s := by
  have e : (0 : Nat) = 2 ^ 0 - 1 := by decide
  rw [e, tear_begin d _ (kb_mono 0 d.s), endTo_none]
  intro j _
  rw [kb_full]; simp
/-- A write: what was synced stays. -/
theorem write_sure (d : Dk) (t : List UInt8) (h : d.ok) : (doD d ⟨1, t, 0⟩).1.s = d.s ∧ d.s ≤ (doD d ⟨1, t, 0⟩).1.b.length ∧ (doD d ⟨1, t, 0⟩).1.b.take d.s = d.b.take d.s := by
  obtain ⟨h1, h2⟩ := h
  unfold doD
  rw [if_pos rfl]
  split
  · exact ⟨rfl, h1, rfl⟩
  · refine ⟨rfl, by simp; omega, ?_⟩
    rw [List.take_append_of_le_length h1]
theorem write_small (d : Dk) (t : List UInt8) : (doD d ⟨1, t, 0⟩).1.s = d.s ∧ (doD d ⟨1, t, 0⟩).1.b.length ≤ d.b.length + t.length := by
  unfold doD
  rw [if_pos rfl]
  split
  · exact ⟨rfl, by simp⟩
  · exact ⟨rfl, by simp⟩
theorem or_one (i : Nat) (h : i < 64) : ((2 ^ i - 1) * 2 ||| 1) = 2 ^ (i + 1) - 1 ∧ (2 ^ i - 1) * 2 < 2 ^ 64 := by
  have h1 := Nat.two_pow_add_eq_or_of_lt (i := 1) (b := 1) (by decide) (2 ^ i - 1)
  have h2 : 0 < 2 ^ i := Nat.two_pow_pos i
  have h3 : 2 ^ i ≤ 2 ^ 63 := Nat.pow_le_pow_right (by decide) (by omega)
  rw [Nat.pow_one] at h1
  rw [Nat.mul_comm, ← h1, Nat.pow_succ]
  constructor <;> omega
end Go.Proofs
