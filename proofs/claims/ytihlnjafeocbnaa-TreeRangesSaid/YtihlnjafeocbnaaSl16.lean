/- Many chunks as one: one taken out, one put in. -/
import Derived.Test.YtihlnjafeocbnaaSl8
set_option autoImplicit false
namespace Go.SL
section
variable {E w : World}
def swap01 : Nat → Nat
  | 0 => 1
  | 1 => 0
  | i + 2 => i + 2
theorem swap01_inj {i j : Nat} (h : swap01 i = swap01 j) : i = j := by
  match i, j with
  | 0, 0 => rfl
  | 0, 1 => simp [swap01] at h
  | 0, j + 2 => simp [swap01] at h
  | 1, 0 => simp [swap01] at h
  | 1, 1 => rfl
  | 1, j + 2 => simp [swap01] at h
  | i + 2, 0 => simp [swap01] at h
  | i + 2, 1 => simp [swap01] at h
  | i + 2, j + 2 => simpa [swap01] using h
theorem swap01_get {x y : HProp} {R : List HProp} (i : Nat) : (x :: y :: R)[swap01 i]? = (y :: x :: R)[i]? := by
  match i with
  | 0 => rfl
  | 1 => rfl
  | i + 2 => rfl
theorem swap01_lt {i n : Nat} (h : i < n + 2) : swap01 i < n + 2 := by
  match i with
  | 0 => simp [swap01]
  | 1 => simp [swap01]
  | i + 2 => exact h
theorem Sat.two {A L : List HProp} {x y : HProp} (h : Sat E w (A ++ x :: y :: L)) : Sat E w (A ++ y :: x :: L) := by
  have h1 : Sat E w (x :: y :: (L ++ A)) := by simpa using Sat.rot (A := A) h
  have h2 : Sat E w (y :: x :: (L ++ A)) := by
    obtain ⟨fr, f1, f2, f3⟩ := h1.own
    refine ⟨h1.os, h1.tape, h1.output, h1.size, h1.old, fun i => fr (swap01 i), ?_, ?_, ?_⟩
    · intro i c hc
      exact f1 (swap01 i) c (by rw [swap01_get]; exact hc)
    · intro i hi
      exact f2 (swap01 i) (by simp only [List.length_cons] at hi ⊢; exact swap01_lt hi)
    · intro i j hi hj hne
      exact f3 _ _ (by simp only [List.length_cons] at hi ⊢; exact swap01_lt hi) (by simp only [List.length_cons] at hj ⊢; exact swap01_lt hj) fun h => hne (swap01_inj h)
  exact Sat.rot (A := y :: x :: L) (B := A) (by simpa using h2)
theorem Sat.perm {L L' : List HProp} (p : L.Perm L') : ∀ {A : List HProp}, Sat E w (A ++ L) → Sat E w (A ++ L') := by
  induction p with
  | nil => intro A h; exact h
  | cons x _ ih => intro A h; have := ih (A := A ++ [x]) (by simpa using h); simpa using this
  | swap x y l => intro A h; exact h.two
  | trans _ _ ih1 ih2 => intro A h; exact ih2 (ih1 h)
theorem Sat.stars_out {L R R' : List HProp} {c : HProp} (p : R.Perm (c :: R')) (h : Sat E w (stars R :: L)) : Sat E w (c :: stars R' :: L) := by
  have h1 : Sat E w (L ++ R) := Sat.unfold (A := L) (by simpa using Sat.rot (A := [stars R]) h)
  have h2 : Sat E w ((L ++ [c]) ++ R') := by have := h1.perm p; simpa using this
  have h3 : Sat E w ((L ++ [c]) ++ [stars R']) := Sat.fold h2
  have h4 : Sat E w ([c, stars R'] ++ L) := Sat.rot (A := L) (by simpa using h3)
  exact h4
theorem Sat.stars_in {L R R' : List HProp} {c : HProp} (p : (c :: R').Perm R) (h : Sat E w (c :: stars R' :: L)) : Sat E w (stars R :: L) := by
  have h1 : Sat E w ((L ++ [c]) ++ [stars R']) := by have := Sat.rot (A := [c, stars R']) (B := L) h; simpa using this
  have h2 : Sat E w ((L ++ [c]) ++ R') := Sat.unfold h1
  have h3 : Sat E w (L ++ R) := Sat.perm p (A := L) (by simpa using h2)
  have h4 : Sat E w (L ++ [stars R]) := Sat.fold h3
  exact Sat.rot (A := L) h4
theorem Ent.stars_out {L R R' : List HProp} {c : HProp} (p : R.Perm (c :: R')) : Ent (stars R :: L) (c :: stars R' :: L) := fun _ _ h => h.stars_out p
theorem Ent.stars_in {L R R' : List HProp} {c : HProp} (p : (c :: R').Perm R) : Ent (c :: stars R' :: L) (stars R :: L) := fun _ _ h => h.stars_in p
theorem Ent.stars_nil {L : List HProp} : Ent L (stars [] :: L) := fun _ _ h => h.lay fun _ => ⟨fun _ _ => none, by simp, by simp, by simp⟩
theorem Ent.stars_drop {L A B : List HProp} : Ent (stars (A ++ B) :: L) (stars B :: L) := fun E w h => by
  have h1 : Sat E w (L ++ (A ++ B)) := Sat.unfold (A := L) (by simpa using Sat.rot (A := [stars (A ++ B)]) h)
  have h2 : Sat E w (A ++ (L ++ B)) := by
    have h3 : Sat E w (B ++ (L ++ A)) := by have := Sat.rot (A := L ++ A) (B := B) (by simpa using h1); simpa using this
    have h4 : Sat E w ((B ++ L) ++ A) := by simpa using h3
    have h5 : Sat E w (A ++ (B ++ L)) := Sat.rot h4
    exact h5.perm List.perm_append_comm
  have h6 : Sat E w (L ++ B) := by
    clear h h1
    induction A with
    | nil => simpa using h2
    | cons a A ih => exact ih (Sat.head (L := []) h2 fun g _ => ⟨fun _ => g, by simp, by simp, by simp⟩)
  have h7 : Sat E w (L ++ [stars B]) := Sat.fold h6
  exact Sat.rot (A := L) h7
/-- .. of a list of things: the one behind, and one in the middle. -/
theorem Ent.last_out {α : Type} {L : List HProp} (f : α → HProp) (l : List α) (x : α) : Ent (stars ((l ++ [x]).map f) :: L) (f x :: stars (l.map f) :: L) := Ent.stars_out (by
  rw [List.map_append]; exact List.perm_append_comm)
theorem Ent.last_in {α : Type} {L : List HProp} (f : α → HProp) (l : List α) (x : α) : Ent (f x :: stars (l.map f) :: L) (stars ((l ++ [x]).map f) :: L) := Ent.stars_in (by
  rw [List.map_append]; exact List.perm_append_comm (l₁ := [f x]))
theorem Ent.mid_out {α : Type} {L : List HProp} (f : α → HProp) (l : List α) (x : α) (m : List α) : Ent (stars ((l ++ x :: m).map f) :: L) (f x :: stars ((l ++ m).map f) :: L) := Ent.stars_out (by
  rw [List.map_append, List.map_append, List.map_cons]; exact List.perm_middle)
theorem Ent.mid_in {α : Type} {L : List HProp} (f : α → HProp) (l : List α) (x : α) (m : List α) : Ent (f x :: stars ((l ++ m).map f) :: L) (stars ((l ++ x :: m).map f) :: L) := Ent.stars_in (by
  rw [List.map_append, List.map_append, List.map_cons]; exact List.perm_middle.symm)
end
end Go.SL
