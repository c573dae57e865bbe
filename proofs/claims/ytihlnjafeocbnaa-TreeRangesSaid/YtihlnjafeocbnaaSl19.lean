/- Maps. -/
import Derived.Test.YtihlnjafeocbnaaSl8
set_option autoImplicit false
namespace Go.SL
/-- How a map's keys and values lie. -/
structure MTy (κ β : Type) where
  kt : Nat
  vt : Nat
  kd : TypeDesc
  kenc : κ → Value
  venc : β → Value
  same : ∀ [DecidableEq κ], ∀ a b, Instr.sameNow kd (kenc a) (kenc b) = some (decide (a = b))
  bits : ∀ a, Instr.sameBits 10000 (kenc a) (kenc a) = true
  plain : (∃ k, kd = .int k) ∨ kd = .string
section
variable {κ β : Type} [DecidableEq κ] (M : MTy κ β)
def mrow (es : List MapEntry) (l : List (κ × β)) : Prop := es.map (fun e => (e.key, e.val)) = l.map fun x => (M.kenc x.1, M.venc x.2)
def mpc (r : Nat) (l : List (κ × β)) : HProp := fun _ h => ∃ (es : Array MapEntry) (clock : Nat), h r = some (.map es clock) ∧ mrow M es.toList l ∧ (es.toList.Pairwise fun x y => x.born < y.born) ∧ ∀ e ∈ es.toList, e.born < clock
def mget (l : List (κ × β)) (k : κ) : Option β := (l.find? fun x => decide (x.1 = k)).map (·.2)
def mset : List (κ × β) → κ → β → List (κ × β)
  | [], k, v => [(k, v)]
  | x :: l, k, v => if x.1 = k then (k, v) :: l else x :: mset l k v
def mdel : List (κ × β) → κ → List (κ × β)
  | [], _ => []
  | x :: l, k => if x.1 = k then l else x :: mdel l k
theorem mget_nil (k : κ) : mget ([] : List (κ × β)) k = none := rfl
theorem mget_cons (x : κ × β) (l : List (κ × β)) (k : κ) : mget (x :: l) k = if x.1 = k then some x.2 else mget l k := by
  unfold mget
  rw [List.find?_cons]
  by_cases h : x.1 = k <;> simp [h]
theorem mget_mset (l : List (κ × β)) (k : κ) (v : β) (j : κ) : mget (mset l k v) j = if k = j then some v else mget l j := by
  induction l with
  | nil => simp only [mset, mget_cons]
  | cons x l ih =>
    simp only [mset]
    split
    · rename_i h
      rw [mget_cons, mget_cons]
      by_cases hj : k = j
      · rw [if_pos hj, if_pos hj]
      · rw [if_neg hj, if_neg hj, if_neg (by rw [h]; exact hj)]
    · rename_i h
      rw [mget_cons, mget_cons, ih]
      by_cases hj : k = j
      · subst hj; simp [h]
      · simp [hj]
theorem mkeys_mset (l : List (κ × β)) (k : κ) (v : β) : ∀ j, j ∈ (mset l k v).map (·.1) → j = k ∨ j ∈ l.map (·.1) := by
  induction l with
  | nil => intro j hj; simp [mset] at hj; exact .inl hj
  | cons x l ih =>
    intro j hj
    simp only [mset] at hj
    split at hj
    · rename_i h
      rcases List.mem_cons.1 hj with rfl | hj
      · exact .inl rfl
      · exact .inr (by simp only [List.map_cons, List.mem_cons]; exact .inr hj)
    · rcases List.mem_cons.1 hj with rfl | hj
      · exact .inr (by simp)
      · rcases ih j hj with h2 | h2
        · exact .inl h2
        · exact .inr (by simp only [List.map_cons, List.mem_cons]; exact .inr h2)
theorem mset_nodup (l : List (κ × β)) (k : κ) (v : β) (h : (l.map (·.1)).Nodup) : ((mset l k v).map (·.1)).Nodup := by
  induction l with
  | nil => simp [mset]
  | cons x l ih =>
    rw [List.map_cons, List.nodup_cons] at h
    simp only [mset]
    split
    · rename_i hx; rw [List.map_cons, List.nodup_cons]; exact ⟨by rw [← hx]; exact h.1, h.2⟩
    · rename_i hx
      rw [List.map_cons, List.nodup_cons]
      refine ⟨fun hm => ?_, ih h.2⟩
      rcases mkeys_mset l k v _ hm with h2 | h2
      · exact hx h2
      · exact h.1 h2
theorem mget_none (l : List (κ × β)) (k : κ) (h : k ∉ l.map (·.1)) : mget l k = none := by
  induction l with
  | nil => rfl
  | cons x l ih =>
    rw [List.map_cons, List.mem_cons, not_or] at h
    rw [mget_cons, if_neg (fun e => h.1 e.symm), ih h.2]
theorem mget_mem (l : List (κ × β)) (k : κ) : k ∈ l.map (·.1) ↔ (mget l k).isSome = true := by
  induction l with
  | nil => simp [mget]
  | cons x l ih =>
    rw [mget_cons, List.map_cons, List.mem_cons]
    by_cases h : x.1 = k
    · simp [h]
    · rw [if_neg h, ← ih]; constructor
      · rintro (e | e); exact absurd e.symm h; exact e
      · exact .inr
theorem mdel_sub (l : List (κ × β)) (k : κ) : ∀ x, x ∈ mdel l k → x ∈ l := by
  induction l with
  | nil => intro x hx; simp [mdel] at hx
  | cons y l ih =>
    intro x hx
    simp only [mdel] at hx
    split at hx
    · exact List.mem_cons_of_mem _ hx
    · rcases List.mem_cons.1 hx with rfl | hx
      · simp
      · exact List.mem_cons_of_mem _ (ih x hx)
theorem mdel_nodup (l : List (κ × β)) (k : κ) (h : (l.map (·.1)).Nodup) : ((mdel l k).map (·.1)).Nodup := by
  induction l with
  | nil => simp [mdel]
  | cons x l ih =>
    rw [List.map_cons, List.nodup_cons] at h
    simp only [mdel]
    split
    · exact h.2
    · rw [List.map_cons, List.nodup_cons]
      refine ⟨fun hm => ?_, ih h.2⟩
      obtain ⟨y, hy, e⟩ := List.mem_map.1 hm
      exact h.1 (List.mem_map.2 ⟨y, mdel_sub l k y hy, e⟩)
theorem mget_mdel (l : List (κ × β)) (k j : κ) (h : (l.map (·.1)).Nodup) : mget (mdel l k) j = if k = j then none else mget l j := by
  induction l with
  | nil => simp [mdel, mget]
  | cons x l ih =>
    rw [List.map_cons, List.nodup_cons] at h
    simp only [mdel]
    split
    · rename_i hx
      rw [mget_cons]
      by_cases hj : k = j
      · rw [if_pos hj]; exact mget_none l j (by rw [← hj, ← hx]; exact h.1)
      · rw [if_neg hj, if_neg (by rw [hx]; exact hj)]
    · rename_i hx
      rw [mget_cons, mget_cons, ih h.2]
      by_cases hj : k = j
      · subst hj; simp [hx]
      · simp [hj]
/-- Where a key stands. -/
def midx : List (κ × β) → κ → Option Nat
  | [], _ => none
  | x :: l, k => if x.1 = k then some 0 else (midx l k).map (· + 1)
theorem findNow_eq (k : κ) : ∀ (es : List MapEntry) (l : List (κ × β)) (i : Nat), mrow M es l → Instr.findNow M.kd (M.kenc k) es i = some ((midx l k).bind fun j => (mget l k).map fun v => (i + j, M.venc v))
  | [], [], i, _ => rfl
  | [], _ :: _, i, h => by simp [mrow] at h
  | _ :: _, [], i, h => by simp [mrow] at h
  | e :: es, x :: l, i, h => by
    simp only [mrow, List.map_cons, List.cons.injEq, Prod.mk.injEq] at h
    obtain ⟨⟨h1, h2⟩, h3⟩ := h
    simp only [Instr.findNow, h1, M.same]
    by_cases hx : x.1 = k
    · have hk : k = x.1 := hx.symm
      simp [hk, midx, mget_cons, h2]
    · have hk : ¬ k = x.1 := fun e => hx e.symm
      simp only [hk, decide_false, midx, hx, if_false, mget_cons]
      rw [findNow_eq k es l (i + 1) h3]
      cases midx l k with
      | none => rfl
      | some j => cases mget l k with
        | none => rfl
        | some v => simp [Nat.add_assoc, Nat.add_comm 1 j]
theorem midx_get (l : List (κ × β)) (k : κ) : (midx l k).isSome = (mget l k).isSome := by
  induction l with
  | nil => rfl
  | cons x l ih =>
    rw [mget_cons]
    simp only [midx]
    by_cases hx : x.1 = k <;> simp [hx, ih]
end
end Go.SL
