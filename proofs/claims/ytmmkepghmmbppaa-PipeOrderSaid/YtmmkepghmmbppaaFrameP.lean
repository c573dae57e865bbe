/- Records one behind the other, in plain Lean. -/
import Derived.Test.YtmmkepghmmbppaaWireP
set_option autoImplicit false
namespace Go.Proofs
theorem be_four4 (n : Nat) : be (four n) = n % 2 ^ 32 := by
  simp only [be, four, List.foldl_cons, List.foldl_nil, UInt8.toNat_ofNat']
  omega
def frame (t : List UInt8) : List UInt8 := four t.length ++ four (crc (four t.length ++ t)) ++ t
theorem frame_len (t : List UInt8) : (frame t).length = 8 + t.length := by simp [frame, four]; omega
/-- The record at the beginning: its text, how many bytes it has, the error. -/
def recNext (s : List UInt8) : List UInt8 × Nat × Int :=
  if s.length < 4 then ([], 0, 2) else if 4096 < be (s.take 4) then ([], 0, 3) else if s.length < 8 + be (s.take 4) then ([], 0, 2)
  else if crc (s.take 4 ++ (s.take (8 + be (s.take 4))).drop 8) = be ((s.drop 4).take 4) then ((s.take (8 + be (s.take 4))).drop 8, 8 + be (s.take 4), 0) else ([], 0, 4)
theorem four_be (s : List UInt8) (h : 4 ≤ s.length) : four (be (s.take 4)) = s.take 4 := by
  rw [be4 s h]
  match s, h with
  | a :: b :: c :: d :: r, _ =>
    have := a.toNat_lt; have := b.toNat_lt; have := c.toNat_lt; have := d.toNat_lt
    simp only [four, List.take_succ_cons, List.take_zero, List.cons.injEq, and_true, List.getElem_cons_zero, List.getElem_cons_succ]
    refine ⟨?_, ?_, ?_, ?_⟩ <;> (apply UInt8.toNat_inj.1; rw [UInt8.toNat_ofNat']; omega)
theorem recNext_ok {s t : List UInt8} {n : Nat} (h : recNext s = (t, n, 0)) : t.length ≤ 4096 ∧ n = 8 + t.length ∧ n ≤ s.length ∧ s.take n = frame t := by
  unfold recNext at h
  split at h
  · cases h
  · split at h
    · cases h
    · split at h
      · cases h
      · split at h
        · rename_i h1 h2 h3 h4
          simp only [Prod.mk.injEq, and_true] at h
          obtain ⟨ht, rfl⟩ := h
          have hl : t.length = be (s.take 4) := by rw [← ht]; simp; omega
          refine ⟨by omega, by omega, by omega, ?_⟩
          have e1 : s.take (8 + be (s.take 4)) = s.take 4 ++ ((s.drop 4).take 4 ++ t) := by
            rw [← ht, List.drop_take, show 8 + be (s.take 4) - 8 = be (s.take 4) by omega, show 8 + be (s.take 4) = 4 + (4 + be (s.take 4)) by omega, List.take_add, List.take_add (l := s.drop 4), List.drop_drop]
          have e2 : four t.length = s.take 4 := by rw [hl]; exact four_be s (by omega)
          have e3 : four (crc (four t.length ++ t)) = (s.drop 4).take 4 := by
            rw [e2, ← ht, h4]; exact four_be (s.drop 4) (by simp; omega)
          rw [e1, frame, e2, e3.symm, e2, List.append_assoc]
        · cases h
theorem recNext_err (s : List UInt8) : 0 ≤ (recNext s).2.2 := by unfold recNext; split; simp; split; simp; split; simp; split <;> simp
theorem recNext_frame (t r : List UInt8) (h : t.length ≤ 4096) : recNext (frame t ++ r) = (t, 8 + t.length, 0) := by
  have hb : be (four t.length) = t.length := by rw [be_four4]; omega
  have h1 : (frame t ++ r).take 4 = four t.length := rfl
  have h2 : ((frame t ++ r).drop 4).take 4 = four (crc (four t.length ++ t)) := rfl
  have h3 : (frame t ++ r).length = 8 + t.length + r.length := by rw [List.length_append, frame_len]
  have h4 : ((frame t ++ r).take (8 + t.length)).drop 8 = t := by
    rw [List.take_append_of_le_length (by rw [frame_len]; exact Nat.le_refl _), List.take_of_length_le (by rw [frame_len]; exact Nat.le_refl _)]; rfl
  unfold recNext
  rw [h1, h2, h3, hb, h4, be_four4, Nat.mod_eq_of_lt (crc_lt _), if_neg (by omega), if_neg (by omega), if_neg (by omega), if_pos rfl]
/-- The records that are right, and how many bytes they have. -/
def prefixR (s : List UInt8) : List (List UInt8) × Nat :=
  match h : recNext s with
  | (t, n, e) => if e = 0 ∧ 0 < n ∧ n ≤ s.length then (t :: (prefixR (s.drop n)).1, n + (prefixR (s.drop n)).2) else ([], 0)
termination_by s.length
decreasing_by all_goals simp; omega
theorem prefixR_step {s t : List UInt8} {n : Nat} (h : recNext s = (t, n, 0)) : prefixR s = (t :: (prefixR (s.drop n)).1, n + (prefixR (s.drop n)).2) := by
  obtain ⟨_, h1, h2, _⟩ := recNext_ok h
  rw [prefixR]
  split
  rename_i t' n' e' he
  rw [h] at he
  obtain ⟨rfl, rfl, rfl⟩ : t = t' ∧ n = n' ∧ (0 : Int) = e' := by simpa using he
  rw [if_pos ⟨rfl, by omega, h2⟩]
theorem prefixR_stop {s : List UInt8} (h : (recNext s).2.2 ≠ 0) : prefixR s = ([], 0) := by
  rw [prefixR]
  split
  rename_i t n e he
  rw [he] at h
  rw [if_neg (fun h2 => h h2.1)]
def text (l : List (List UInt8)) : List UInt8 := l.flatMap frame
theorem text_cons (t : List UInt8) (l : List (List UInt8)) : text (t :: l) = frame t ++ text l := by simp [text]
theorem text_append (l m : List (List UInt8)) : text (l ++ m) = text l ++ text m := by simp [text]
theorem text_snoc (l : List (List UInt8)) (t : List UInt8) : text (l ++ [t]) = text l ++ frame t := by simp [text]
theorem text_len (l : List (List UInt8)) : 8 * l.length ≤ (text l).length := by
  induction l with
  | nil => simp
  | cons t l ih => rw [text_cons, List.length_append, frame_len, List.length_cons]; omega
theorem prefixR_text (n : Nat) : ∀ s : List UInt8, s.length ≤ n → text (prefixR s).1 = s.take (prefixR s).2 ∧ (prefixR s).2 ≤ s.length ∧ ∀ t ∈ (prefixR s).1, t.length ≤ 4096 := by
  induction n with
  | zero =>
    intro s h
    obtain rfl : s = [] := List.eq_nil_of_length_eq_zero (by omega)
    rw [prefixR_stop (by decide)]; simp [text]
  | succ n ih =>
    intro s h
    rcases hx : recNext s with ⟨t, m, e⟩
    by_cases he : e = 0
    · subst he
      obtain ⟨h0, h1, h2, h3⟩ := recNext_ok hx
      obtain ⟨i1, i2, i3⟩ := ih (s.drop m) (by simp; omega)
      rw [prefixR_step hx]
      refine ⟨?_, ?_, ?_⟩
      · simp only [text_cons, i1, List.take_add, h3]
      · simp only [List.length_drop] at i2 ⊢; omega
      · intro t' h'
        rcases List.mem_cons.1 h' with rfl | h'
        · exact h0
        · exact i3 t' h'
    · rw [prefixR_stop (by rw [hx]; exact he)]; simp [text]
theorem prefixR_app (l : List (List UInt8)) (r : List UInt8) (h : ∀ t ∈ l, t.length ≤ 4096) : prefixR (text l ++ r) = (l ++ (prefixR r).1, (text l).length + (prefixR r).2) := by
  induction l with
  | nil => simp [text]
  | cons t l ih =>
    have e : text (t :: l) ++ r = frame t ++ (text l ++ r) := by rw [text_cons, List.append_assoc]
    have e2 : (frame t ++ (text l ++ r)).drop (8 + t.length) = text l ++ r := by rw [← frame_len, List.drop_left]
    rw [e, prefixR_step (recNext_frame t _ (h t (by simp))), e2, ih (fun t' h' => h t' (by simp [h']))]
    simp only [text_cons, List.length_append, frame_len, List.cons_append, Prod.mk.injEq, true_and]
    omega
theorem recNext_cut (t r : List UInt8) (m : Nat) (h : t.length ≤ 4096) (hm : m < 8 + t.length) : (recNext ((frame t ++ r).take m)).2.2 ≠ 0 := by
  have hl : ((frame t ++ r).take m).length = m := by rw [List.length_take, List.length_append, frame_len]; omega
  unfold recNext
  rw [hl]
  split
  · simp
  · rename_i h4
    have hb : be (four t.length) = t.length := by rw [be_four4]; omega
    have h1 : ((frame t ++ r).take m).take 4 = four t.length := by
      rw [List.take_take, show min 4 m = 4 by omega]; rfl
    rw [h1, hb, if_neg (by omega), if_pos hm]
    simp
theorem prefixR_cut (l : List (List UInt8)) (h : ∀ t ∈ l, t.length ≤ 4096) : ∀ m, ∃ j, j ≤ l.length ∧ (prefixR ((text l).take m)).1 = l.take j := by
  induction l with
  | nil => intro m; refine ⟨0, by simp, ?_⟩; rw [show (text []).take m = [] by simp [text], prefixR_stop (by decide)]; rfl
  | cons t l ih =>
    intro m
    rw [text_cons]
    by_cases hm : m < 8 + t.length
    · exact ⟨0, by simp, by rw [prefixR_stop (recNext_cut t _ m (h t (by simp)) hm)]; rfl⟩
    · obtain ⟨j, hj, e⟩ := ih (fun t' h' => h t' (by simp [h'])) (m - (8 + t.length))
      refine ⟨j + 1, by simp; omega, ?_⟩
      have e1 : (frame t ++ text l).take m = frame t ++ (text l).take (m - (8 + t.length)) := by
        rw [List.take_append, frame_len, List.take_of_length_le (by rw [frame_len]; omega)]
      have e2 : (frame t ++ (text l).take (m - (8 + t.length))).drop (8 + t.length) = (text l).take (m - (8 + t.length)) := by rw [← frame_len t, List.drop_left]
      rw [e1, prefixR_step (recNext_frame t _ (h t (by simp))), e2]
      simp only [e, List.take_succ_cons]
end Go.Proofs
