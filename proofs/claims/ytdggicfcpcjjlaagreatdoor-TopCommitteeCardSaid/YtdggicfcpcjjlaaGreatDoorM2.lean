/- Part 2 of the texts below the row: Sl1. -/
import Derived.Calls
import Derived.Tactics
import Derived.Laws.World
import Derived.Laws.NewBlocks
import Derived.Test.YtdggicfcpcjjlaaGreatDoorM1
/- Separation-logic style assertions over the model's worlds: which blocks a call owns, and that all that was there at the start is as it was. -/
set_option autoImplicit false
namespace Go.SL
abbrev Frag := Nat → Option Obj
/-- An assertion: of the world at the start, and of a piece of the heap. -/
def HProp := World → Frag → Prop
/-- The block b is o. -/
def blk (b : Nat) (o : Obj) : HProp := fun _ h => h b = some o
def pur (p : Prop) : HProp := fun _ _ => p
def hex {α : Type} (f : α → HProp) : HProp := fun E h => ∃ x, f x E h
def Frag.Disj (g h : Frag) : Prop := ∀ b, g b = none ∨ h b = none
def Frag.Le (g h : Frag) : Prop := ∀ b o, g b = some o → h b = some o
def star (A B : HProp) : HProp := fun E h => ∃ g k, A E g ∧ B E k ∧ Frag.Disj g k ∧ Frag.Le g h ∧ Frag.Le k h
def emp : HProp := fun _ _ => True
structure Sat (E w : World) (L : List HProp) : Prop where
 os : w.os = E.os
 tape : w.tape = E.tape
 output : w.output = E.output
 size : E.heap.size ≤ w.heap.size
 old : ∀ b, b < E.heap.size → w.heap[b]? = E.heap[b]?
 own : ∃ fr : Nat → Frag, (∀ (i : Nat) (c : HProp), L[i]? = some c → c E (fr i)) ∧
  (∀ i, i < L.length → ∀ b o, fr i b = some o → E.heap.size ≤ b ∧ w.heap[b]? = some o) ∧
  (∀ i j, i < L.length → j < L.length → i ≠ j → Frag.Disj (fr i) (fr j))
theorem Frag.Disj.symm {g h : Frag} (d : Frag.Disj g h) : Frag.Disj h g := fun b => (d b).symm
section
variable {E w : World} {L : List HProp}
theorem Sat.start (w : World) : Sat w w [] := ⟨rfl, rfl, rfl, Nat.le_refl _, fun _ _ => rfl, fun _ _ => none, by simp, by simp, by simp⟩
/-- Choose chunks, in whatever order: the others are dropped. -/
def pick (idx : List Nat) (L : List HProp) : List HProp := idx.map fun i => L.getD i emp
def okIdx (n : Nat) : List Nat → Bool
 | [] => true
 | i :: r => Nat.blt i n && !r.contains i && okIdx n r
theorem okIdx_nodup {n : Nat} : ∀ {idx : List Nat}, okIdx n idx = true → (∀ i ∈ idx, i < n) ∧ (∀ (i j x : Nat), idx[i]? = some x → idx[j]? = some x → i = j)
 | [], _ => ⟨by simp, by simp⟩
 | k :: r, h => by
  simp only [okIdx, Bool.and_eq_true, Bool.not_eq_true', Nat.blt_eq] at h
  obtain ⟨⟨h1, h2⟩, h3⟩ := h
  have h2 : k ∉ r := by intro hm; rw [List.contains_iff_mem.2 hm] at h2; cases h2
  obtain ⟨a, b⟩ := okIdx_nodup h3
  refine ⟨by intro i hi; rcases List.mem_cons.1 hi with rfl | hi; exact h1; exact a i hi, ?_⟩
  intro i j x hi hj
  cases i <;> cases j
  ·rfl
  ·simp at hi hj; subst hi; exact absurd (List.mem_of_getElem? hj) h2
  ·simp at hi hj; subst hj; exact absurd (List.mem_of_getElem? hi) h2
  ·simp at hi hj; rw [b _ _ _ hi hj]
theorem Sat.pick (h : Sat E w L) (idx : List Nat) (hi : okIdx L.length idx = true) : Sat E w (SL.pick idx L) := by
 obtain ⟨a, b⟩ := okIdx_nodup hi
 obtain ⟨fr, f1, f2, f3⟩ := h.own
 refine ⟨h.os, h.tape, h.output, h.size, h.old, fun i => fr (idx.getD i 0), ?_, ?_, ?_⟩
 ·intro i c hc
  simp only [SL.pick, List.getElem?_map, Option.map_eq_some_iff] at hc
  obtain ⟨k, hk, rfl⟩ := hc
  have hk' := a k (List.mem_of_getElem? hk)
  simp only [List.getD_eq_getElem?_getD, hk, Option.getD_some]
  exact f1 k _ (by simp [List.getElem?_eq_getElem hk'])
 ·intro i hl
  simp only [SL.pick, List.length_map] at hl
  have : idx[i]? = some idx[i] := List.getElem?_eq_getElem hl
  simp only [List.getD_eq_getElem?_getD, this, Option.getD_some]
  exact f2 _ (a _ (List.getElem_mem hl))
 ·intro i j hl hl' hne
  simp only [SL.pick, List.length_map] at hl hl'
  have e1 : idx[i]? = some idx[i] := List.getElem?_eq_getElem hl
  have e2 : idx[j]? = some idx[j] := List.getElem?_eq_getElem hl'
  simp only [List.getD_eq_getElem?_getD, e1, e2, Option.getD_some]
  refine f3 _ _ (a _ (List.getElem_mem hl)) (a _ (List.getElem_mem hl')) fun he => hne (b i j _ e1 (he ▸ e2))
theorem Sat.blk_at (h : Sat E w L) {i b : Nat} {o : Obj} (hi : L[i]? = some (blk b o)) : w.heap[b]? = some o ∧ E.heap.size ≤ b ∧ b < w.heap.size := by
 obtain ⟨fr, f1, f2, f3⟩ := h.own
 have h1 : fr i b = some o := f1 i _ hi
 have hlt : i < L.length := (List.getElem?_eq_some_iff.1 hi).1
 obtain ⟨h2, h3⟩ := f2 i hlt b o h1
 exact ⟨h3, h2, (Array.getElem?_eq_some_iff.1 h3).1⟩
/-- What a world is in which one block of the call's own became another one. -/
structure Turned (w w' : World) (b : Nat) (o : Obj) : Prop where
 os : w'.os = w.os
 tape : w'.tape = w.tape
 output : w'.output = w.output
 size : w.heap.size ≤ w'.heap.size
 other : ∀ k, k ≠ b → k < w.heap.size → w'.heap[k]? = w.heap[k]?
 here : w'.heap[b]? = some o
theorem Sat.turned {w' : World} (h : Sat E w L) {i b : Nat} {o o' : Obj} (hi : L[i]? = some (blk b o)) (ht : Turned w w' b o') : Sat E w' (L.set i (blk b o')) := by
 have hb := h.blk_at hi
 have hlt : i < L.length := (List.getElem?_eq_some_iff.1 hi).1
 obtain ⟨fr, f1, f2, f3⟩ := h.own
 have h1 : fr i b = some o := f1 i _ hi
 refine ⟨ht.os.trans h.os, ht.tape.trans h.tape, ht.output.trans h.output, Nat.le_trans h.size ht.size, fun k hk => ?_,
  fun j => if j = i then (fun k => if k = b then some o' else fr i k) else fr j, ?_, ?_, ?_⟩
 ·rw [ht.other k (by omega) (Nat.lt_of_lt_of_le hk h.size)]; exact h.old k hk
 ·intro j c hc
  by_cases e : j = i
  ·subst e
   rw [List.getElem?_set_self hlt] at hc
   obtain rfl := Option.some.inj hc
   simp [blk]
  ·rw [List.getElem?_set_ne (Ne.symm e)] at hc
   simp only [e, if_false]
   exact f1 j c hc
 ·intro j hj k x hx
  rw [List.length_set] at hj
  by_cases e : j = i
  ·subst e
   simp only [if_true] at hx
   by_cases ek : k = b
   ·subst ek; simp at hx; subst hx; exact ⟨hb.2.1, ht.here⟩
   ·simp only [ek, if_false] at hx
    have := f2 j hj k x hx
    exact ⟨this.1, by rw [ht.other k ek (Array.getElem?_eq_some_iff.1 this.2).1]; exact this.2⟩
  ·simp only [e, if_false] at hx
   have := f2 j hj k x hx
   have hkb : k ≠ b := by
    intro ek; subst ek
    have := f3 j i hj hlt e k
    rw [hx, h1] at this; simp at this
   exact ⟨this.1, by rw [ht.other k hkb (Array.getElem?_eq_some_iff.1 this.2).1]; exact this.2⟩
 ·intro j k hj hk hne x
  rw [List.length_set] at hj hk
  by_cases e : j = i
  ·subst e
   have e2 : k ≠ j := Ne.symm hne
   simp only [if_true, e2, if_false]
   by_cases ex : x = b
   ·subst ex
    right
    have := f3 k j hk hj e2 x
    rw [h1] at this; simpa using this
   ·simp only [ex, if_false]; exact f3 j k hj hk hne x
  ·simp only [e, if_false]
   by_cases e2 : k = i
   ·subst e2
    simp only [if_true]
    by_cases ex : x = b
    ·subst ex
     left
     have := f3 j k hj hk e x
     rw [h1] at this; simpa using this
    ·simp only [ex, if_false]; exact f3 j k hj hk hne x
   ·simp only [e2, if_false]; exact f3 j k hj hk hne x
/-- A world with a new block. -/
structure Newed (w w' : World) (b : Nat) (o : Obj) : Prop where
 os : w'.os = w.os
 tape : w'.tape = w.tape
 output : w'.output = w.output
 fresh : w.heap.size ≤ b
 size : w.heap.size ≤ w'.heap.size
 other : ∀ k, k < w.heap.size → w'.heap[k]? = w.heap[k]?
 here : w'.heap[b]? = some o
theorem Sat.newed {w' : World} (h : Sat E w L) {b : Nat} {o : Obj} (ht : Newed w w' b o) : Sat E w' (blk b o :: L) := by
 obtain ⟨fr, f1, f2, f3⟩ := h.own
 have hlt : ∀ j, j < L.length → fr j b = none := fun j hj => by
  cases hx : fr j b with
  | none => rfl
  | some x => have := (Array.getElem?_eq_some_iff.1 (f2 j hj b x hx).2).1; have := ht.fresh; omega
 refine ⟨ht.os.trans h.os, ht.tape.trans h.tape, ht.output.trans h.output, Nat.le_trans h.size ht.size, fun k hk => ?_,
  fun j => match j with | 0 => (fun k => if k = b then some o else none) | j + 1 => fr j, ?_, ?_, ?_⟩
 ·rw [ht.other k (Nat.lt_of_lt_of_le hk h.size)]; exact h.old k hk
 ·intro j c hc
  cases j with
  | zero => simp at hc; subst hc; simp [blk]
  | succ j => exact f1 j c (by simpa using hc)
 ·intro j hj k x hx
  cases j with
  | zero =>
   simp only at hx
   by_cases ek : k = b
   ·subst ek; simp at hx; subst hx; exact ⟨Nat.le_trans h.size ht.fresh, ht.here⟩
   ·simp [ek] at hx
  | succ j =>
   have := f2 j (by simpa using hj) k x hx
   exact ⟨this.1, by rw [ht.other k (Array.getElem?_eq_some_iff.1 this.2).1]; exact this.2⟩
 ·intro j k hj hk hne x
  cases j with
  | zero =>
   cases k with
   | zero => exact absurd rfl hne
   | succ k =>
    by_cases ex : x = b
    ·subst ex; right; exact hlt k (by simpa using hk)
    ·left; simp [ex]
  | succ j =>
   cases k with
   | zero =>
    by_cases ex : x = b
    ·subst ex; left; exact hlt j (by simpa using hj)
    ·right; simp [ex]
   | succ k => exact f3 j k (by simpa using hj) (by simpa using hk) (by omega) x
/-- A world whose heap, tape and all is the same, but for the draws. -/
theorem Sat.same {w' : World} (h : Sat E w L) (h1 : w'.os = w.os) (h2 : w'.tape = w.tape) (h3 : w'.output = w.output) (h4 : w'.heap = w.heap) : Sat E w' L := by
 obtain ⟨a, b, c, d, e, f⟩ := h
 exact ⟨h1.trans a, h2.trans b, h3.trans c, by rw [h4]; exact d, by rw [h4]; exact e, by rw [h4]; exact f⟩
theorem Sat.drawn (h : Sat E w L) (n : Nat) : Sat E { w with drawn := n } L := h.same rfl rfl rfl rfl
/-- An entailment between lists of chunks. -/
def Ent (L L' : List HProp) : Prop := ∀ E w, Sat E w L → Sat E w L'
theorem Ent.refl (L : List HProp) : Ent L L := fun _ _ h => h
theorem Ent.trans {A B C : List HProp} (h : Ent A B) (h' : Ent B C) : Ent A C := fun E w hs => h' E w (h E w hs)
theorem Ent.pick (idx : List Nat) (L : List HProp) (hi : okIdx L.length idx = true) : Ent L (SL.pick idx L) := fun _ _ h => h.pick idx hi
/-- The first chunk turned into several, by what it says of its own piece. -/
theorem Sat.head {L R : List HProp} {c : HProp} (h : Sat E w (c :: R))
 (hc : ∀ g, c E g → ∃ fr : Nat → Frag, (∀ (i : Nat) (d : HProp), L[i]? = some d → d E (fr i)) ∧ (∀ i, i < L.length → Frag.Le (fr i) g) ∧ (∀ i j, i < L.length → j < L.length → i ≠ j → Frag.Disj (fr i) (fr j))) :
 Sat E w (L ++ R) := by
 obtain ⟨fr, f1, f2, f3⟩ := h.own
 obtain ⟨gr, g1, g2, g3⟩ := hc (fr 0) (f1 0 c rfl)
 refine ⟨h.os, h.tape, h.output, h.size, h.old, fun i => if i < L.length then gr i else fr (i - L.length + 1), ?_, ?_, ?_⟩
 ·intro i d hd
  by_cases e : i < L.length
  ·simp only [e, if_true]; rw [List.getElem?_append_left e] at hd; exact g1 i d hd
  ·simp only [e, if_false]; rw [List.getElem?_append_right (by omega)] at hd; exact f1 _ d (by simpa using hd)
 ·intro i hi b o hb
  by_cases e : i < L.length
  ·simp only [e, if_true] at hb; exact f2 0 (by simp) b o (g2 i e b o hb)
  ·simp only [e, if_false] at hb; rw [List.length_append] at hi; exact f2 _ (by simp; omega) b o hb
 ·intro i j hi hj hne b
  rw [List.length_append] at hi hj
  by_cases e : i < L.length <;> by_cases e' : j < L.length <;> simp only [e, e', if_true, if_false]
  ·exact g3 i j e e' hne b
  ·have := f3 0 (j - L.length + 1) (by simp) (by simp; omega) (by omega) b
   rcases this with this | this
   ·left
    cases hx : gr i b with
    | none => rfl
    | some x => rw [g2 i e b x hx] at this; cases this
   ·exact .inr this
  ·have := f3 0 (i - L.length + 1) (by simp) (by simp; omega) (by omega) b
   rcases this with this | this
   ·right
    cases hx : gr j b with
    | none => rfl
    | some x => rw [g2 j e' b x hx] at this; cases this
   ·exact .inl this
  ·exact f3 _ _ (by simp; omega) (by simp; omega) (by omega) b
theorem Sat.star {A B : HProp} {R : List HProp} (h : Sat E w (star A B :: R)) : Sat E w (A :: B :: R) :=
 h.head (L := [A, B]) fun g ⟨x, y, hx, hy, hd, l1, l2⟩ =>
  ⟨fun i => if i = 0 then x else y, by intro i d hd'; match i, hd' with
   | 0, hd' => simp at hd'; subst hd'; exact hx
   | 1, hd' => simp at hd'; subst hd'; exact hy, by
    intro i hi; match i, hi with
    | 0, _ => exact l1
    | 1, _ => exact l2, by
    intro i j hi hj hne
    have hi' : i = 0 ∨ i = 1 := by simp at hi; omega
    have hj' : j = 0 ∨ j = 1 := by simp at hj; omega
    rcases hi' with rfl | rfl <;> rcases hj' with rfl | rfl
    ·exact absurd rfl hne
    ·exact hd
    ·exact hd.symm
    ·exact absurd rfl hne⟩
/-- Several chunks in front joined into one. -/
theorem Sat.join {L R : List HProp} {c : HProp} (h : Sat E w (L ++ R))
 (hc : ∀ fr : Nat → Frag, (∀ (i : Nat) (d : HProp), L[i]? = some d → d E (fr i)) → (∀ i j, i < L.length → j < L.length → i ≠ j → Frag.Disj (fr i) (fr j)) →
  ∀ g : Frag, (∀ i, i < L.length → Frag.Le (fr i) g) → c E g) :
 Sat E w (c :: R) := by
 obtain ⟨fr, f1, f2, f3⟩ := h.own
 have hdec : ∀ b, ∃ o : Option Obj, (∀ i, i < L.length → ∀ x, fr i b = some x → o = some x) ∧ (∀ x, o = some x → ∃ i, i < L.length ∧ fr i b = some x) := by
  intro b
  by_cases he : ∃ i x, i < L.length ∧ fr i b = some x
  ·obtain ⟨i, x, hi, hx⟩ := he
   refine ⟨some x, fun j hj y hy => ?_, fun y hy => ⟨i, hi, by rw [hx, hy]⟩⟩
   by_cases e : i = j
   ·subst e; rw [hx] at hy; exact hy
   ·have := f3 i j (by rw [List.length_append]; omega) (by rw [List.length_append]; omega) e b
    rw [hx, hy] at this; simp at this
  ·exact ⟨none, fun i hi x hx => absurd ⟨i, x, hi, hx⟩ he, by simp⟩
 let g : Frag := fun b => Classical.choose (hdec b)
 have g1 : ∀ i, i < L.length → Frag.Le (fr i) g := fun i hi b o hb => (Classical.choose_spec (hdec b)).1 i hi o hb
 have g2 : ∀ b x, g b = some x → ∃ i, i < L.length ∧ fr i b = some x := fun b x hx => (Classical.choose_spec (hdec b)).2 x hx
 refine ⟨h.os, h.tape, h.output, h.size, h.old, fun i => match i with | 0 => g | i + 1 => fr (i + L.length), ?_, ?_, ?_⟩
 ·intro i d hd
  cases i with
  | zero =>
   simp at hd; subst hd
   exact hc fr (fun i d hd => f1 i d (by rw [List.getElem?_append_left (List.getElem?_eq_some_iff.1 hd).1]; exact hd))
    (fun i j hi hj => f3 i j (by rw [List.length_append]; omega) (by rw [List.length_append]; omega)) g g1
  | succ i => exact f1 _ d (by rw [List.getElem?_append_right (by omega)]; simpa using hd)
 ·intro i hi b o hb
  cases i with
  | zero =>
   obtain ⟨j, hj, hx⟩ := g2 b o hb
   exact f2 j (by rw [List.length_append]; omega) b o hx
  | succ i => exact f2 _ (by rw [List.length_append]; simp at hi; omega) b o hb
 ·intro i j hi hj hne b
  have key : ∀ k, k < R.length → g b = none ∨ fr (k + L.length) b = none := fun k hk => by
   cases hx : g b with
   | none => exact .inl rfl
   | some x =>
    obtain ⟨m, hm, hy⟩ := g2 b x hx
    have := f3 m (k + L.length) (by rw [List.length_append]; omega) (by rw [List.length_append]; omega) (by omega) b
    rw [hy] at this; simp at this
    exact .inr this
  cases i with
  | zero =>
   cases j with
   | zero => exact absurd rfl hne
   | succ j => exact key j (by simpa using hj)
  | succ i =>
   cases j with
   | zero => exact (key i (by simpa using hi)).symm
   | succ j => exact f3 _ _ (by rw [List.length_append]; simp at hi; omega) (by rw [List.length_append]; simp at hj; omega) (by omega) b
theorem Sat.mkstar {A B : HProp} {R : List HProp} (h : Sat E w (A :: B :: R)) : Sat E w (SL.star A B :: R) :=
 h.join (L := [A, B]) fun fr f1 f3 g hg => ⟨fr 0, fr 1, f1 0 A rfl, f1 1 B rfl, f3 0 1 (by simp) (by simp) (by simp), hg 0 (by simp), hg 1 (by simp)⟩
theorem Sat.ex {α : Type} {f : α → HProp} {R : List HProp} (h : Sat E w (hex f :: R)) : ∃ x, Sat E w (f x :: R) := by
 obtain ⟨fr, f1, f2, f3⟩ := h.own
 obtain ⟨x, hx⟩ := f1 0 _ rfl
 refine ⟨x, h.os, h.tape, h.output, h.size, h.old, fr, ?_, f2, f3⟩
 intro i c hc
 cases i with
 | zero => simp at hc; subst hc; exact hx
 | succ i => exact f1 (i + 1) c (by simpa using hc)
/-- The first chunk weakened. -/
theorem Sat.weaken {c d : HProp} {R : List HProp} (h : Sat E w (c :: R)) (hc : ∀ g, c E g → d E g) : Sat E w (d :: R) := by
 obtain ⟨fr, f1, f2, f3⟩ := h.own
 refine ⟨h.os, h.tape, h.output, h.size, h.old, fr, ?_, f2, f3⟩
 intro i x hx
 cases i with
 | zero => simp at hx; subst hx; exact hc _ (f1 0 c rfl)
 | succ i => exact f1 (i + 1) x (by simpa using hx)
theorem Sat.mkex {α : Type} {f : α → HProp} {R : List HProp} (x : α) (h : Sat E w (f x :: R)) : Sat E w (hex f :: R) := h.weaken fun _ hg => ⟨x, hg⟩
theorem Sat.fact {p : Prop} {R : List HProp} (h : Sat E w (pur p :: R)) : p ∧ Sat E w R := by
 obtain ⟨fr, f1, f2, f3⟩ := h.own
 refine ⟨f1 0 _ rfl, ?_⟩
 exact h.head (L := []) fun g _ => ⟨fun _ => g, by simp, by simp, by simp⟩
/-- A chunk that owns nothing. -/
theorem Sat.lay {c : HProp} {R : List HProp} (h : Sat E w R) (hc : ∀ g, c E g) : Sat E w (c :: R) :=
 Sat.join (L := []) (by simpa using h) fun _ _ _ g _ => hc g
end
end Go.SL
