/- A timer, in plain Lean. -/
import Derived.Test.YtmmkepghmmbppaaWin3
set_option autoImplicit false
namespace Go.Proofs
open Go.SL
abbrev Op3 := Int × Wt
structure Rel (m l : List Op3) : Prop where
  nd : (m.map (·.1)).Nodup
  up : l.Pairwise fun x y => x.1 < y.1
  at' : ∀ k, mget m k = mget l k
  ok : ∀ x ∈ l, 0 ≤ x.1 ∧ x.1 ≤ 9223372036854775807 ∧ 0 ≤ x.2.1 ∧ x.2.1 ≤ 2199023255552 ∧ 8 ≤ x.2.2 ∧ x.2.2 ≤ 64
theorem Rel.new : Rel [] [] := ⟨by simp, by simp, fun _ => rfl, by simp⟩
theorem up_nodup {l : List Op3} (h : l.Pairwise fun x y => x.1 < y.1) : (l.map (·.1)).Nodup := by
  rw [List.nodup_iff_pairwise_ne, List.pairwise_map]
  exact h.imp fun h e => by omega
theorem Rel.perm {m l : List Op3} (h : Rel m l) : (m.map (·.1)).Perm (l.map (·.1)) := by
  rw [List.perm_ext_iff_of_nodup h.nd (up_nodup h.up)]
  intro k
  rw [mget_mem, mget_mem, h.at']
theorem Rel.len {m l : List Op3} (h : Rel m l) : m.length = l.length := by
  have := h.perm.length_eq
  simpa using this
theorem Rel.openS {m l : List Op3} (h : Rel m l) : Go.Proofs.openS m = l.map (·.1) := by
  refine sorted_uniq ((List.mergeSort_perm _ _).trans h.perm) (sort_sorted _) ?_
  rw [List.pairwise_map]
  exact h.up.imp fun h => by omega
theorem Rel.keys {m l : List Op3} (h : Rel m l) : ∀ x ∈ m, -9223372036854775808 ≤ x.1 ∧ x.1 ≤ 9223372036854775807 := by
  intro x hx
  have h1 : x.1 ∈ l.map (·.1) := h.perm.mem_iff.1 (List.mem_map_of_mem hx)
  obtain ⟨y, hy, e⟩ := List.mem_map.1 h1
  have := h.ok y hy
  rw [← e]; omega
theorem mget_at {l : List Op3} (h : (l.map (·.1)).Nodup) : ∀ x ∈ l, mget l x.1 = some x.2 := by
  induction l with
  | nil => simp
  | cons y l ih =>
    rw [List.map_cons, List.nodup_cons] at h
    intro x hx
    rw [mget_cons]
    rcases List.mem_cons.1 hx with rfl | hx
    · rw [if_pos rfl]
    · rw [if_neg (fun e => h.1 (by rw [e]; exact List.mem_map_of_mem hx))]
      exact ih h.2 x hx
theorem mget_app (a b : List Op3) (k : Int) : mget (a ++ b) k = match mget a k with
    | some v => some v
    | none => mget b k := by
  induction a with
  | nil => rfl
  | cons x a ih =>
    rw [List.cons_append, mget_cons, mget_cons]
    split
    · rfl
    · exact ih
def moment (z : Int) : Bool := decide (0 ≤ z ∧ z ≤ 1099511627776)
def insT : List Op3 → Int → Wt → List Op3
  | [], s, w => [(s, w)]
  | x :: l, s, w => if s < x.1 then (s, w) :: x :: l else x :: insT l s w
def sentB (most : Nat) (l : List Op3) (s now : Int) : Bool := decide (0 ≤ s) && (moment now && (decide (l.length < most) && (mget l s).isNone))
def sentL (most : Nat) (l : List Op3) (s now : Int) : List Op3 := if sentB most l s now = true then insT l s (now + 4, 8) else l
theorem insT_mem (l : List Op3) (s : Int) (w : Wt) : ∀ x, x ∈ insT l s w ↔ x = (s, w) ∨ x ∈ l := by
  induction l with
  | nil => intro x; simp [insT]
  | cons y l ih =>
    intro x
    simp only [insT]
    split
    · simp
    · rw [List.mem_cons, ih, List.mem_cons]
      constructor
      · rintro (h | h | h); exact .inr (.inl h); exact .inl h; exact .inr (.inr h)
      · rintro (h | h | h); exact .inr (.inl h); exact .inl h; exact .inr (.inr h)
theorem insT_up (l : List Op3) (s : Int) (w : Wt) (h : l.Pairwise fun x y => x.1 < y.1) (hs : mget l s = none) : (insT l s w).Pairwise fun x y => x.1 < y.1 := by
  induction l with
  | nil => simp [insT]
  | cons x l ih =>
    rw [mget_cons] at hs
    split at hs
    · cases hs
    · rename_i hx
      rw [List.pairwise_cons] at h
      simp only [insT]
      split
      · rename_i hlt
        rw [List.pairwise_cons, List.pairwise_cons]
        refine ⟨fun y hy => ?_, h.1, h.2⟩
        rcases List.mem_cons.1 hy with rfl | hy
        · exact hlt
        · have := h.1 y hy; simp only; omega
      · rw [List.pairwise_cons]
        refine ⟨fun y hy => ?_, ih h.2 hs⟩
        rcases (insT_mem l s w y).1 hy with rfl | hy
        · simp only; omega
        · exact h.1 y hy
theorem mget_insT (l : List Op3) (s : Int) (w : Wt) (hs : mget l s = none) (k : Int) : mget (insT l s w) k = if s = k then some w else mget l k := by
  induction l with
  | nil => simp only [insT, mget_cons]
  | cons x l ih =>
    rw [mget_cons] at hs
    split at hs
    · cases hs
    · rename_i hx
      simp only [insT]
      split
      · rw [mget_cons]
      · rw [mget_cons, ih hs, mget_cons]
        by_cases e : s = k
        · subst e; simp [hx]
        · simp [e]
theorem insT_len (l : List Op3) (s : Int) (w : Wt) : (insT l s w).length = l.length + 1 := by
  induction l with
  | nil => rfl
  | cons x l ih => simp only [insT]; split <;> simp [ih]
theorem Rel.sent {m l : List Op3} (h : Rel m l) (s now : Int) (hs : 0 ≤ s) (hs2 : s ≤ 9223372036854775807) (hn : moment now = true) (hg : mget l s = none) : Rel (mset m s (now + 4, 8)) (insT l s (now + 4, 8)) := by
  refine ⟨mset_nodup _ _ _ h.nd, insT_up l s _ h.up hg, fun k => by rw [mget_mset, mget_insT l s _ hg, h.at'], fun x hx => ?_⟩
  rcases (insT_mem l s _ x).1 hx with rfl | hx
  · simp only [moment, decide_eq_true_eq] at hn
    exact ⟨hs, hs2, by simp only; omega, by simp only; omega, by simp only; omega, by simp only; omega⟩
  · exact h.ok x hx
def dueF (now : Int) (x : Op3) : Op3 := if x.2.1 ≤ now then (x.1, (now + x.2.2, min (2 * x.2.2) 64)) else x
def dueL (l : List Op3) (now : Int) : List Op3 := if moment now = true then l.map (dueF now) else l
def dueO (l : List Op3) (now : Int) : List Int := if moment now = true then (l.filter fun x => decide (x.2.1 ≤ now)).map (·.1) else []
theorem dueF_key (now : Int) (x : Op3) : (dueF now x).1 = x.1 := by unfold dueF; split <;> rfl
theorem dueF_ok {now : Int} {x : Op3} (hn : moment now = true) (h : 0 ≤ x.1 ∧ x.1 ≤ 9223372036854775807 ∧ 0 ≤ x.2.1 ∧ x.2.1 ≤ 2199023255552 ∧ 8 ≤ x.2.2 ∧ x.2.2 ≤ 64) : 0 ≤ (dueF now x).1 ∧ (dueF now x).1 ≤ 9223372036854775807 ∧ 0 ≤ (dueF now x).2.1 ∧ (dueF now x).2.1 ≤ 2199023255552 ∧ 8 ≤ (dueF now x).2.2 ∧ (dueF now x).2.2 ≤ 64 := by
  simp only [moment, decide_eq_true_eq] at hn
  unfold dueF
  split
  · simp only; omega
  · exact h
/-- One element is another one, with the same key. -/
theorem Rel.upd {m a b : List Op3} {x y : Op3} (h : Rel m (a ++ x :: b)) (hk : y.1 = x.1) (hy : 0 ≤ y.1 ∧ y.1 ≤ 9223372036854775807 ∧ 0 ≤ y.2.1 ∧ y.2.1 ≤ 2199023255552 ∧ 8 ≤ y.2.2 ∧ y.2.2 ≤ 64) : Rel (mset m y.1 y.2) (a ++ y :: b) := by
  have hu := h.up
  rw [List.pairwise_append, List.pairwise_cons] at hu
  refine ⟨mset_nodup _ _ _ h.nd, ?_, fun k => ?_, fun z hz => ?_⟩
  · rw [List.pairwise_append, List.pairwise_cons]
    refine ⟨hu.1, ⟨fun z hz => by rw [hk]; exact hu.2.1.1 z hz, hu.2.1.2⟩, fun z hz w hw => ?_⟩
    rcases List.mem_cons.1 hw with rfl | hw
    · rw [hk]; exact hu.2.2 z hz x (by simp)
    · exact hu.2.2 z hz w (by simp [hw])
  · rw [mget_mset, h.at', mget_app, mget_app, mget_cons, mget_cons]
    by_cases e : y.1 = k
    · rw [if_pos e]
      have : mget a k = none := by
        refine mget_none a k fun hm => ?_
        obtain ⟨z, hz, e2⟩ := List.mem_map.1 hm
        have := hu.2.2 z hz x (by simp)
        omega
      rw [this]; simp [e]
    · rw [if_neg e, if_neg (by rw [← hk]; exact e)]; simp [e]
  · rcases List.mem_append.1 hz with hz | hz
    · exact h.ok z (by simp [hz])
    · rcases List.mem_cons.1 hz with rfl | hz
      · exact hy
      · exact h.ok z (by simp [hz])
/-- One element goes. -/
theorem Rel.del {m a b : List Op3} {x : Op3} (h : Rel m (a ++ x :: b)) : Rel (mdel m x.1) (a ++ b) := by
  have hu := h.up
  rw [List.pairwise_append, List.pairwise_cons] at hu
  refine ⟨mdel_nodup _ _ h.nd, ?_, fun k => ?_, fun z hz => ?_⟩
  · rw [List.pairwise_append]
    exact ⟨hu.1, hu.2.1.2, fun z hz w hw => hu.2.2 z hz w (by simp [hw])⟩
  · rw [mget_mdel m _ _ h.nd, h.at', mget_app, mget_app, mget_cons]
    by_cases e : x.1 = k
    · rw [if_pos e]
      have h1 : mget a k = none := by
        refine mget_none a k fun hm => ?_
        obtain ⟨z, hz, e2⟩ := List.mem_map.1 hm
        have := hu.2.2 z hz x (by simp)
        omega
      have h2 : mget b k = none := by
        refine mget_none b k fun hm => ?_
        obtain ⟨z, hz, e2⟩ := List.mem_map.1 hm
        have := hu.2.1.1 z hz
        omega
      rw [h1, h2]
    · rw [if_neg e, if_neg e]
  · rcases List.mem_append.1 hz with hz | hz
    · exact h.ok z (by simp [hz])
    · exact h.ok z (by simp [hz])
theorem Rel.get {m a b : List Op3} {x : Op3} (h : Rel m (a ++ x :: b)) : mget m x.1 = some x.2 := by
  rw [h.at']; exact mget_at (up_nodup h.up) x (by simp)
def ackL (l : List Op3) (u : Int) : List Op3 := l.filter fun x => decide (u ≤ x.1)
end Go.Proofs
