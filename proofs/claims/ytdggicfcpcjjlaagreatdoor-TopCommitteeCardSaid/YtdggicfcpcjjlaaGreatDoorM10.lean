/- Part 10 of the texts below the row: Sl28, Sl16, Sl30. -/
import Derived.Test.YtdggicfcpcjjlaaGreatDoorM1
import Derived.Test.YtdggicfcpcjjlaaGreatDoorM9
/- Slices of slices of leafs that came in; words laid at a step because they hold of the start. -/
set_option autoImplicit false
namespace Go.SL
open Go.ChangeShapes Go.WideShapes Go.Deep Go.RowKit
theorem J.lay {P : Program} {E : World} {n : Nat} {c : Code} {Q : Post} {ρ : Env} {L : List HProp} {H : HProp} (hH : ∀ g, H E g) (h : J P E n c Q ρ (H :: L)) : J P E n c Q ρ L := fun a w ha hs => h a w ha (hs.lay hH)
section
variable {H : Type} {enc : TypeId × Value → H} {P : Program} {w : World} {base : Nat} {spare : Nat → Bool} {held : Bool}
/-- A slice that came in: its elements' cells, each as R says. -/
theorem rows_okR {t e sz : Nat} {R : List Value → Prop} {cs : List Value} {x : DataW H × List MemPlace} {fuel : Nat} (ht : P.underlying t = some (.slice e)) (hc : P.cellsOf e = sz)
 (hR : ∀ fuel cs x, cs.length = sz → DataW.trod enc P w base spare held fuel e cs = some x → R cs) (hf : DataW.trod enc P w base spare held fuel t cs = some x) :
 ∃ (S : SV) (rows : List (List Value)), cs = [S.v] ∧ S.n = rows.length ∧ S.n ≤ S.c ∧ S.c ≤ maxLen ∧ (∀ r ∈ rows, R r) ∧
  ((S.a = none ∧ S.c = 0) ∨ ∃ a, S.a = some a ∧ ∀ (j : Nat) u, rows.flatten[j]? = some u → a.block < w.heap.size ∧ w.cell? (a.add j) = some u) := by
 rcases open_slice ht hf with ⟨hcs, hx⟩ | ⟨a, len, cap, m, n, D, Pl, hcs, hb, hle, hm, hmm, hx, hi⟩
 ·exact ⟨⟨none, 0, 0⟩, [], hcs, rfl, Nat.le_refl _, Nat.zero_le _, by simp, .inl ⟨rfl, rfl⟩⟩
 ·have hlm : len ≤ m := by rw [hmm]; split <;> omega
  have key : ∀ q, q ≤ len → ∃ rows : List (List Value), rows.length = q ∧ rows.flatten.length = q * sz ∧ (∀ r ∈ rows, R r) ∧ ∀ (j : Nat) u, rows.flatten[j]? = some u → w.cell? (a.add j) = some u := by
   intro q
   induction q with
   | zero => intro _; exact ⟨[], rfl, by simp, by simp, by simp⟩
   | succ q ih =>
    intro hq
    obtain ⟨rows, r1, r2, r3, r4⟩ := ih (by omega)
    obtain ⟨cs', hc', ht'⟩ := hi q (by omega)
    obtain ⟨_, c2, c3⟩ := World.cells?_some hc'
    have hok := hR n cs' _ (by rw [c2, hc]) ht'
    rw [hc] at c2 c3
    refine ⟨rows ++ [cs'], by simp [r1], ?_, ?_, ?_⟩
    ·simp only [List.flatten_append, List.length_append, r2, List.flatten_cons, List.flatten_nil, List.append_nil, c2, Nat.add_mul, Nat.one_mul]
    ·intro r hr; rcases List.mem_append.1 hr with hr | hr
     ·exact r3 r hr
     ·rw [List.mem_singleton.1 hr]; exact hok
    ·intro j u hu
     simp only [List.flatten_append, List.flatten_cons, List.flatten_nil, List.append_nil] at hu
     by_cases hj : j < rows.flatten.length
     ·rw [List.getElem?_append_left hj] at hu; exact r4 j u hu
     ·rw [List.getElem?_append_right (by omega), r2] at hu
      have hlt : j - q * sz < sz := by have := (List.getElem?_eq_some_iff.1 hu).1; omega
      have h5 := c3 (j - q * sz) hlt
      rw [hu, addr_add_add, show q * sz + (j - q * sz) = j by omega] at h5
      exact h5
  obtain ⟨rows, r1, _, r3, r4⟩ := key len (Nat.le_refl _)
  refine ⟨⟨some a, len, cap⟩, rows, hcs, r1.symm, hle, hm, r3, .inr ⟨a, rfl, fun j u hu => ?_⟩⟩
  have := r4 j u hu
  refine ⟨?_, this⟩
  have hbl := World.block_lt_of_cell? w _ this
  have hb2 : (a.add j).block = a.block := by unfold Addr.add; split <;> rfl
  rwa [hb2] at hbl
end
/-- What came in: rows, each as R says. -/
def InRowsR (W : World) (R : List Value → Prop) (v : Value) : Prop := ∃ (S : SV) (rows : List (List Value)), v = S.v ∧ S.n = rows.length ∧ S.n ≤ S.c ∧ S.c ≤ maxLen ∧ (∀ r ∈ rows, R r) ∧
 ((S.a = none ∧ S.c = 0) ∨ ∃ a, S.a = some a ∧ ∀ (j : Nat) u, rows.flatten[j]? = some u → a.block < W.heap.size ∧ W.cell? (a.add j) = some u)
/-- A cell that holds rows of leafs. -/
def CellRows (W : World) (ls : List Leaf) (cs : List Value) : Prop := ∃ v, cs = [v] ∧ InRowsR W (LeafsOk ls) v
theorem InRowsR.slc {α : Type} (τ : Ty α) {W : World} {R : List Value → Prop} {v : Value} (h : InRowsR W R v) {ok : α → Prop} (h4 : ∀ r, R r → ∃ a, r = τ.enc a ∧ ok a) :
 ∃ (S : SV) (l : List α), v = S.v ∧ l.length = S.n ∧ l.length ≤ maxLen ∧ (∀ a ∈ l, ok a) ∧ ∀ g, slc τ false S l W g := by
 obtain ⟨S, rows, rfl, h1, h2, h3, h5, h6⟩ := h
 obtain ⟨l, l1, l2, l3⟩ := slc_of_rows τ (ok := ok) h1 h2 h6 (fun r hr => h4 r (h5 r hr))
 exact ⟨S, l, rfl, l1, by omega, l2, l3⟩
end Go.SL
/- Many chunks as one: one taken out, one put in. -/
set_option autoImplicit false
namespace Go.SL
section
variable {E w : World}
def swap01 : Nat → Nat
 | 0 => 1
 | 1 => 0
 | i + 2 => i + 2
theorem swap01_inj {i j : Nat} (h : swap01 i = swap01 j) : i = j := by
 match i, j with
 | 0, 0 => rfl
 | 0, 1 => simp [swap01] at h
 | 0, j + 2 => simp [swap01] at h
 | 1, 0 => simp [swap01] at h
 | 1, 1 => rfl
 | 1, j + 2 => simp [swap01] at h
 | i + 2, 0 => simp [swap01] at h
 | i + 2, 1 => simp [swap01] at h
 | i + 2, j + 2 => simpa [swap01] using h
theorem swap01_get {x y : HProp} {R : List HProp} (i : Nat) : (x :: y :: R)[swap01 i]? = (y :: x :: R)[i]? := by
 match i with
 | 0 => rfl
 | 1 => rfl
 | i + 2 => rfl
theorem swap01_lt {i n : Nat} (h : i < n + 2) : swap01 i < n + 2 := by
 match i with
 | 0 => simp [swap01]
 | 1 => simp [swap01]
 | i + 2 => exact h
theorem Sat.two {A L : List HProp} {x y : HProp} (h : Sat E w (A ++ x :: y :: L)) : Sat E w (A ++ y :: x :: L) := by
 have h1 : Sat E w (x :: y :: (L ++ A)) := by simpa using Sat.rot (A := A) h
 have h2 : Sat E w (y :: x :: (L ++ A)) := by
  obtain ⟨fr, f1, f2, f3⟩ := h1.own
  refine ⟨h1.os, h1.tape, h1.output, h1.size, h1.old, fun i => fr (swap01 i), ?_, ?_, ?_⟩
  ·intro i c hc
   exact f1 (swap01 i) c (by rw [swap01_get]; exact hc)
  ·intro i hi
   exact f2 (swap01 i) (by simp only [List.length_cons] at hi ⊢; exact swap01_lt hi)
  ·intro i j hi hj hne
   exact f3 _ _ (by simp only [List.length_cons] at hi ⊢; exact swap01_lt hi) (by simp only [List.length_cons] at hj ⊢; exact swap01_lt hj) fun h => hne (swap01_inj h)
 exact Sat.rot (A := y :: x :: L) (B := A) (by simpa using h2)
theorem Sat.perm {L L' : List HProp} (p : L.Perm L') : ∀ {A : List HProp}, Sat E w (A ++ L) → Sat E w (A ++ L') := by
 induction p with
 | nil => intro A h; exact h
 | cons x _ ih => intro A h; have := ih (A := A ++ [x]) (by simpa using h); simpa using this
 | swap x y l => intro A h; exact h.two
 | trans _ _ ih1 ih2 => intro A h; exact ih2 (ih1 h)
theorem Sat.stars_out {L R R' : List HProp} {c : HProp} (p : R.Perm (c :: R')) (h : Sat E w (stars R :: L)) : Sat E w (c :: stars R' :: L) := by
 have h1 : Sat E w (L ++ R) := Sat.unfold (A := L) (by simpa using Sat.rot (A := [stars R]) h)
 have h2 : Sat E w ((L ++ [c]) ++ R') := by have := h1.perm p; simpa using this
 have h3 : Sat E w ((L ++ [c]) ++ [stars R']) := Sat.fold h2
 have h4 : Sat E w ([c, stars R'] ++ L) := Sat.rot (A := L) (by simpa using h3)
 exact h4
theorem Sat.stars_in {L R R' : List HProp} {c : HProp} (p : (c :: R').Perm R) (h : Sat E w (c :: stars R' :: L)) : Sat E w (stars R :: L) := by
 have h1 : Sat E w ((L ++ [c]) ++ [stars R']) := by have := Sat.rot (A := [c, stars R']) (B := L) h; simpa using this
 have h2 : Sat E w ((L ++ [c]) ++ R') := Sat.unfold h1
 have h3 : Sat E w (L ++ R) := Sat.perm p (A := L) (by simpa using h2)
 have h4 : Sat E w (L ++ [stars R]) := Sat.fold h3
 exact Sat.rot (A := L) h4
theorem Ent.stars_out {L R R' : List HProp} {c : HProp} (p : R.Perm (c :: R')) : Ent (stars R :: L) (c :: stars R' :: L) := fun _ _ h => h.stars_out p
theorem Ent.stars_in {L R R' : List HProp} {c : HProp} (p : (c :: R').Perm R) : Ent (c :: stars R' :: L) (stars R :: L) := fun _ _ h => h.stars_in p
theorem Ent.stars_nil {L : List HProp} : Ent L (stars [] :: L) := fun _ _ h => h.lay fun _ => ⟨fun _ _ => none, by simp, by simp, by simp⟩
/-- .. of a list of things: the one behind, and one in the middle. -/
theorem Ent.last_out {α : Type} {L : List HProp} (f : α → HProp) (l : List α) (x : α) : Ent (stars ((l ++ [x]).map f) :: L) (f x :: stars (l.map f) :: L) := Ent.stars_out (by
 rw [List.map_append]; exact List.perm_append_comm)
theorem Ent.last_in {α : Type} {L : List HProp} (f : α → HProp) (l : List α) (x : α) : Ent (f x :: stars (l.map f) :: L) (stars ((l ++ [x]).map f) :: L) := Ent.stars_in (by
 rw [List.map_append]; exact List.perm_append_comm (l₁ := [f x]))
theorem Ent.mid_out {α : Type} {L : List HProp} (f : α → HProp) (l : List α) (x : α) (m : List α) : Ent (stars ((l ++ x :: m).map f) :: L) (f x :: stars ((l ++ m).map f) :: L) := Ent.stars_out (by
 rw [List.map_append, List.map_append, List.map_cons]; exact List.perm_middle)
theorem Ent.mid_in {α : Type} {L : List HProp} (f : α → HProp) (l : List α) (x : α) (m : List α) : Ent (f x :: stars ((l ++ m).map f) :: L) (stars ((l ++ x :: m).map f) :: L) := Ent.stars_in (by
 rw [List.map_append, List.map_append, List.map_cons]; exact List.perm_middle.symm)
end
end Go.SL
/- Regions in which allocations float: each may come at any time among the others; they are landed behind these. -/
set_option autoImplicit false
namespace Go.SL
/-- An allocation: its place, its slot, its type, its cells. -/
structure AlS where
 i : Nat
 d : Nat
 t : Nat
 cs : List Value
abbrev AlS.ch (s : AlS) (b : Nat) : HProp := cel b s.cs s.t
def markD (D : List Nat) (l : Array Bool) : Array Bool := D.foldl (fun l i => l.setIfInBounds i true) l
def subs : List Nat → List (List Nat)
 | [] => [[]]
 | a :: r => subs r ++ (subs r).map (a :: ·)
theorem subs_mem (p : Nat → Bool) : ∀ l : List Nat, l.filter p ∈ subs l
 | [] => by simp [subs]
 | a :: r => by
  have := subs_mem p r
  rw [subs, List.filter_cons]
  split
  ·exact List.mem_append_right _ (List.mem_map_of_mem this)
  ·exact List.mem_append_left _ this
theorem markD_size (D : List Nat) : ∀ l : Array Bool, (markD D l).size = l.size := by
 induction D with
 | nil => intro l; rfl
 | cons a D ih => intro l; rw [markD, List.foldl_cons]; rw [show List.foldl (fun l i => l.setIfInBounds i true) (l.setIfInBounds a true) D = markD D (l.setIfInBounds a true) from rfl, ih]; simp
theorem markD_get (D : List Nat) : ∀ (l : Array Bool) (j : Nat), (markD D l)[j]? = if j ∈ D ∧ j < l.size then some true else l[j]? := by
 induction D with
 | nil => intro l j; simp [markD]
 | cons a D ih =>
  intro l j
  rw [markD, List.foldl_cons]
  rw [show List.foldl (fun l i => l.setIfInBounds i true) (l.setIfInBounds a true) D = markD D (l.setIfInBounds a true) from rfl, ih]
  by_cases h : j = a
  ·subst h
   by_cases h2 : j < l.size
   ·simp [h2]
   ·simp [h2]
  ·have h' : ¬ a = j := fun e => h e.symm
   simp [h, Array.getElem?_setIfInBounds_ne h']
theorem markD_congr {D D' : List Nat} (h : ∀ j, j ∈ D ↔ j ∈ D') (l : Array Bool) : markD D l = markD D' l := by
 apply Array.ext_getElem?
 intro j
 rw [markD_get, markD_get]
 simp only [h j]
theorem markD_cons (i : Nat) (D : List Nat) (l : Array Bool) : (markD D l).setIfInBounds i true = markD (i :: D) l := by
 apply Array.ext_getElem?
 intro j
 rw [markD_get, Array.getElem?_setIfInBounds, markD_get, markD_size]
 by_cases h : i = j
 ·subst h; by_cases h2 : i < l.size <;> simp [h2]
 ·have h' : ¬ j = i := fun e => h e.symm
  simp [h, h']
theorem markD_set (i : Nat) (D : List Nat) (l : Array Bool) : (markD D l).setIfInBounds i true = markD D (l.setIfInBounds i true) := by
 apply Array.ext_getElem?
 intro j
 rw [markD_get, Array.getElem?_setIfInBounds, markD_get, markD_size, Array.getElem?_setIfInBounds]
 by_cases h : i = j
 ·subst h; by_cases h2 : i < l.size <;> simp [h2]
 ·simp [h]
/-- The order of the others is right, whichever allocations are done. -/
def okFlo (ops : Array Oper) (quiet as : List Nat) (r : Sched) : Nat → List (Bool × Nat) → Array Bool → Bool
 | f, [], listed => ((subs as).all fun D => D == as || (!(Region.ready .any ops (markD D listed)).isEmpty && (Region.ready .any ops (markD D listed)).all fun j => as.contains j && !D.contains j)) && okSched ops quiet f r (markD as listed)
 | 0, _ :: _, _ => false
 | f + 1, (true, i) :: ms, listed => ((subs as).all fun D => (Region.ready .any ops (markD D listed)).contains i && (Region.ready .any ops (markD D listed)).all fun j => j == i || (as.contains j && !D.contains j)) && okFlo ops quiet as r f ms (listed.setIfInBounds i true)
 | f + 1, (false, i) :: ms, listed => quiet.contains i && ((subs as).all fun D => (Region.ready .any ops (markD D listed)).contains i && Region.free .any ops (markD D listed) i) && okFlo ops quiet as r f ms (listed.setIfInBounds i true)
/-- No other one writes an allocation's slot. -/
def okDs (ops : List Oper) (ds : List Nat) (ms : List (Bool × Nat)) : Bool := ms.all fun m => match (ops[m.2]?).bind (·.dst) with
 | none => true
 | some d => !ds.contains d
def JSF (P : Program) (E : World) (n : Nat) (all : List Oper) (quiet : List Nat) (K : List HProp → Env → List HProp → Prop) : List (Bool × Nat) → List HProp → Env → List HProp → Prop
 | [], H, ρ, L => Ent L H ∧ K H ρ L
 | (false, i) :: ms, H, ρ, L => Ent L H ∧ ∀ o, all[i]? = some o →
  ∃ v, (match o.guard with
   | none => QOp P E n o ρ H v
   | some (g, b) => ∃ d c, (all.toArray[g]?).bind (·.dst) = some d ∧ ρ.get d = some c ∧ (if gbOf c = some b then QOp P E n o ρ H v else v = undef)) ∧ okDst n o.dst = true ∧
   JSF P E n all quiet K ms H (ρ.put o.dst v) L
 | (true, i) :: ms, H, ρ, L => Ent L H ∧ ∀ o, all[i]? = some o → okDst n o.dst = true ∧ o.guard = none ∧
  ∀ X, JOp P E n o (fun v L' => ∃ M H', L' = X :: M ∧ (frOf all.toArray quiet i = true → Ent M H' ∧ Ent H' H) ∧ JSF P E n all quiet K ms H' (ρ.put o.dst v) M) ρ (X :: L)
/-- An allocation, as it is carried out. -/
def AlOk (P : Program) (E : World) (n : Nat) (all : List Oper) (s : AlS) : Prop := ∃ o, all[s.i]? = some o ∧ o.dst = some s.d ∧ s.d < n ∧ o.guard = none ∧
 ∀ (ρ : Env) (L : List HProp) (K : Value → List HProp → Prop), (∀ b, K (.pointer (some ⟨b, 0, none⟩)) (s.ch b :: L)) → JOp P E n o K ρ L
def putA (β : Nat → Nat) (as : List AlS) (ρ : Env) : Env := as.map (fun s => (s.d, .pointer (some ⟨β s.i, 0, none⟩))) ++ ρ
def chA (β : Nat → Nat) (as : List AlS) : List HProp := as.map fun s => s.ch (β s.i)
theorem Agrees.lay {a : Act} {n : Nat} {ρ : Env} (h : Agrees a n ρ) {d : Nat} {v : Value} (hd : d < n) (hv : a.tmps.getD d undef = v) : Agrees a n ((d, v) :: ρ) := by
 refine ⟨h.defers, h.size, fun t u hu => ?_⟩
 simp only [Env.get] at hu
 cases e : Nat.beq d t with
 | true =>
  rw [e] at hu
  simp only [cond_true, Option.some.injEq] at hu
  subst hu
  rw [← Nat.eq_of_beq_eq_true e]
  exact ⟨hd, hv⟩
 | false => rw [e] at hu; exact h.get t u hu
theorem Agrees.lays {a : Act} {n : Nat} {ρ : Env} (h : Agrees a n ρ) {β : Nat → Nat} : ∀ {as : List AlS}, (∀ s ∈ as, s.d < n ∧ a.tmps.getD s.d undef = .pointer (some ⟨β s.i, 0, none⟩)) → Agrees a n (putA β as ρ)
 | [], _ => h
 | s :: as, hs => (Agrees.lays h fun x hx => hs x (by simp [hx])).lay (hs s (by simp)).1 (hs s (by simp)).2
theorem Agrees.skip {a : Act} {n : Nat} {ρ : Env} (h : Agrees a n ρ) {d : Nat} {v : Value} (hd : ρ.get d = none) : Agrees (a.put (some d) v) n ρ := by
 refine ⟨h.defers, by simp [Act.put, h.size], fun t u hu => ?_⟩
 obtain ⟨h1, h2⟩ := h.get t u hu
 refine ⟨h1, ?_⟩
 have hne : d ≠ t := fun e => by rw [e, hu] at hd; cases hd
 rw [← h2]
 simp [Act.put, Array.getElem?_setIfInBounds_ne hne]
theorem get_put {ρ : Env} {e : Option Tmp} {v : Value} {d : Nat} (h : ρ.get d = none) (he : e ≠ some d) : (ρ.put e v).get d = none := by
 cases e with
 | none => exact h
 | some e =>
  simp only [Env.put, Env.get]
  cases hb : Nat.beq e d with
  | true => exact absurd (by rw [Nat.eq_of_beq_eq_true hb]) he
  | false => exact h
theorem put_ne {a : Act} {d : Option Tmp} {v : Value} {t : Nat} (h : d ≠ some t) : (a.put d v).tmps.getD t undef = a.tmps.getD t undef := by
 cases d with
 | none => rfl
 | some d =>
  have : d ≠ t := fun e => h (by rw [e])
  simp [Act.put, Array.getElem?_setIfInBounds_ne this]
section
variable {P : Program} {E : World} {n : Nat} {all : List Oper} {quiet : List Nat} {Q : Post} {K : List HProp → Env → List HProp → Prop} {as : List AlS} {r : Sched}
theorem in_subs (D : List Nat) (hD : ∀ j ∈ D, j ∈ as.map (·.i)) : ∃ D', D' ∈ subs (as.map (·.i)) ∧ ∀ j, j ∈ D' ↔ j ∈ D :=
 ⟨(as.map (·.i)).filter fun j => D.contains j, subs_mem _ _, fun j => by
  rw [List.mem_filter]
  simp only [List.contains_iff_mem]
  exact ⟨fun h => h.2, fun h => ⟨hD j h, h⟩⟩⟩
theorem drop2 {w : World} {X : HProp} {L : List HProp} (h : Sat E w (X :: L)) : Sat E w L := by
 have := h.weaken (d := pur True) (fun _ _ => trivial)
 exact this.fact.2
theorem JSF.sound (hsel : Region.noSelect all.toArray = true) (hQ : ∀ c ρ L, ¬ Q (.panic c) ρ L) (hal : ∀ s ∈ as, AlOk P E n all s) (hnd : (as.map (·.i)).Nodup) (hdd : (as.map (·.d)).Nodup)
 (hK : ∀ H ρ L, K H ρ L → ∀ β, JS P E n all quiet Q r H (putA β as ρ) (chA β as ++ L)) :
 ∀ (fuel f : Nat) (ms : List (Bool × Nat)) (listed : Array Bool) (D R : List AlS) (β : Nat → Nat) (H : List HProp) (ρ : Env) (L : List HProp) (a : Act) (w : World),
  fuel = f + R.length → (D ++ R).Perm as → okFlo all.toArray quiet (as.map (·.i)) r f ms listed = true → okDs all (as.map (·.d)) ms = true → Closed .any all.toArray (markD (D.map (·.i)) listed) →
  (∀ s ∈ as, ρ.get s.d = none) → JSF P E n all quiet K ms H ρ L → Agrees a n ρ → (∀ s ∈ D, a.tmps.getD s.d undef = .pointer (some ⟨β s.i, 0, none⟩)) → Sat E w (stars (chA β D) :: L) →
  wpAnyG P .any all.toArray (lift E n Q) (frOf all.toArray quiet) (fun w => Sat E w H) fuel (markD (D.map (·.i)) listed) a w := by
 have land : ∀ (fuel f : Nat) (listed : Array Bool) (D : List AlS) (β : Nat → Nat) (H : List HProp) (ρ : Env) (L : List HProp) (a : Act) (w : World), fuel = f → D.Perm as → okFlo all.toArray quiet (as.map (·.i)) r f [] listed = true → Closed .any all.toArray (markD (D.map (·.i)) listed) →
  K H ρ L → Agrees a n ρ → (∀ s ∈ D, a.tmps.getD s.d undef = .pointer (some ⟨β s.i, 0, none⟩)) → Sat E w (stars (chA β D) :: L) →
  wpAnyG P .any all.toArray (lift E n Q) (frOf all.toArray quiet) (fun w => Sat E w H) fuel (markD (D.map (·.i)) listed) a w := by
  intro fuel f listed D β H ρ L a w hf hp ho hcl hk ha hb hs
  subst hf
  simp only [okFlo, Bool.and_eq_true] at ho
  have hm : markD (D.map (·.i)) listed = markD (as.map (·.i)) listed := markD_congr (fun j => (hp.map (·.i)).mem_iff) listed
  rw [hm] at hcl ⊢
  refine JS.sound hsel hQ r fuel _ H _ _ a w ho.2 hcl (hK _ _ _ hk β) (ha.lays fun s hs' => ⟨?_, hb s (hp.mem_iff.2 hs')⟩) ?_
  ·obtain ⟨o, _, _, h3, _⟩ := hal s hs'; exact h3
  ·have h1 : Sat E w (L ++ chA β D) := Sat.unfold (A := L) (Sat.rot (A := [stars (chA β D)]) hs)
   have h2 : Sat E w (L ++ chA β as) := Sat.perm (hp.map _) h1
   exact h2.rot
 intro fuel
 induction fuel with
 | zero =>
  intro f ms listed D R β H ρ L a w hf hp ho hds hcl hρ h ha hb hs
  obtain rfl : f = 0 := by omega
  obtain rfl : R = [] := List.eq_nil_of_length_eq_zero (by omega)
  rw [List.append_nil] at hp
  cases ms with
  | cons m ms => obtain ⟨b, i⟩ := m; cases b <;> simp [okFlo] at ho
  | nil => exact land 0 0 listed D β H ρ L a w rfl hp ho hcl h.2 ha hb hs
 | succ fuel ih =>
  intro f ms listed D R β H ρ L a w hf hp ho hds hcl hρ h ha hb hs
  have hi := hp.map (·.i)
  rw [List.map_append] at hi
  have hDs : ∀ j ∈ D.map (·.i), j ∈ as.map (·.i) := fun j hj => hi.mem_iff.1 (List.mem_append_left _ hj)
  have hndp : (D.map (·.i) ++ R.map (·.i)).Nodup := hi.nodup_iff.2 hnd
  have hdp : (D.map (·.d) ++ R.map (·.d)).Nodup := by have := hp.map (·.d); rw [List.map_append] at this; exact this.nodup_iff.2 hdd
  obtain ⟨D', hD', hDm⟩ := in_subs (as := as) (D.map (·.i)) hDs
  have hmk : markD D' listed = markD (D.map (·.i)) listed := markD_congr hDm listed
  have alloc : ∀ j, j ∈ as.map (·.i) → j ∉ D.map (·.i) → j ∈ Region.ready .any all.toArray (markD (D.map (·.i)) listed) →
   (Ent L H) → wpOp P all.toArray (lift E n Q) j (fun a' w' => ∃ S' : World → Prop, (frOf all.toArray quiet j = true → S' w' ∧ ∀ w, S' w → Sat E w H) ∧ wpAnyG P .any all.toArray (lift E n Q) (frOf all.toArray quiet) S' fuel ((markD (D.map (·.i)) listed).setIfInBounds j true) a' w') a w := by
   intro j hj hjD hrd hLH
   have hjR : j ∈ R.map (·.i) := by
    rcases List.mem_append.1 (hi.mem_iff.2 hj) with h | h
    ·exact absurd h hjD
    ·exact h
   obtain ⟨s, hsR, rfl⟩ := List.mem_map.1 hjR
   obtain ⟨R1, R2, rfl⟩ := List.append_of_mem hsR
   have hsa : s ∈ as := hp.mem_iff.1 (List.mem_append_right _ hsR)
   obtain ⟨o, h1, h2, h3, h4, h5⟩ := hal s hsa
   unfold wpOp
   have h1' : all.toArray[s.i]? = some o := by simpa using h1
   simp only [h1']
   rw [if_pos (by simp [Region.wanted, h4])]
   refine .inl ?_
   refine h5 ρ (stars (chA β D) :: L) (fun v L' => ∃ b, v = .pointer (some ⟨b, 0, none⟩) ∧ L' = s.ch b :: stars (chA β D) :: L) (fun b => ⟨b, rfl, rfl⟩) a w ha hs _ _ ?_
   rintro v L' w' ⟨b, rfl, rfl⟩ hs'
   refine ⟨fun w => Sat E w H, fun _ => ⟨hLH E w' (drop2 (drop2 hs')), fun _ h => h⟩, ?_⟩
   rw [markD_cons]
   have hne : ∀ x ∈ D, x.i ≠ s.i := fun x hx e => hjD (by rw [← e]; exact List.mem_map_of_mem hx)
   have hch : chA (fun k => if k = s.i then b else β k) (s :: D) = s.ch b :: chA β D := by
    simp only [chA, List.map_cons, if_true]
    congr 1
    exact List.map_congr_left fun x hx => by rw [if_neg (hne x hx)]
   refine ih f ms listed (s :: D) (R1 ++ R2) (fun k => if k = s.i then b else β k) H ρ L _ w' (by simp only [List.length_append, List.length_cons] at hf ⊢; omega) ?_ ho hds ?_ hρ h ?_ ?_ ?_
   ·refine List.Perm.trans ?_ hp
    have : (D ++ (R1 ++ s :: R2)).Perm (s :: (D ++ (R1 ++ R2))) := by
     rw [← List.append_assoc, ← List.append_assoc]
     exact List.perm_middle
    exact this.symm
   ·exact (markD_cons s.i (D.map (·.i)) listed) ▸ hcl.list hrd
   ·rw [h2]; exact ha.skip (hρ s hsa)
   ·intro x hx
    rcases List.mem_cons.1 hx with rfl | hx
    ·rw [h2]; simp [Act.put, ha.size, h3]
    ·rw [put_ne, hb x hx, if_neg (hne x hx)]
     rw [h2]
     intro e
     have e' := Option.some.inj e
     have hdx : x.d ∈ D.map (·.d) := List.mem_map_of_mem hx
     have hdr : s.d ∈ (R1 ++ s :: R2).map (·.d) := List.mem_map_of_mem hsR
     exact (List.nodup_append.1 hdp).2.2 _ hdx _ hdr e'.symm
   ·rw [hch]
    exact Sat.stars_in (List.Perm.refl _) hs'
  have keep : ∀ (o : Oper) (i : Nat) (v : Value), all[i]? = some o → (∃ b, okDs all (as.map (·.d)) ((b, i) :: ms.tail) = true) → (∀ s ∈ as, o.dst ≠ some s.d) := by
   intro o i v hoi ⟨b, hk⟩ s hs' e
   simp only [okDs, List.all_cons, Bool.and_eq_true, hoi, Option.bind_some, e] at hk
   have := hk.1
   simp at this
   exact this s hs' rfl
  match ms, h, ho, hds, keep with
  | [], h, ho, hds, _ =>
   cases R with
   | nil =>
    rw [List.append_nil] at hp
    exact land _ f listed D β H ρ L a w (by simpa using hf) hp ho hcl h.2 ha hb hs
   | cons s R =>
    simp only [okFlo, Bool.and_eq_true, List.all_eq_true, Bool.or_eq_true] at ho
    have hsa : s.i ∈ as.map (·.i) := hi.mem_iff.1 (List.mem_append_right _ (by simp))
    have hsD : s.i ∉ D.map (·.i) := fun hx => (List.nodup_append.1 hndp).2.2 _ hx _ (by simp) rfl
    have h1 := (ho.1 D' hD').resolve_left fun e => by
     have e := eq_of_beq e
     exact hsD ((hDm s.i).1 (by rw [e]; exact hsa))
    rw [hmk] at h1
    obtain ⟨h1, h2⟩ := h1
    refine ⟨fun h0 => (by rw [h0] at h1; simp at h1), fun j hj => ?_⟩
    have h3 := h2 j hj
    have h4 : j ∉ D.map (·.i) := fun hx => by
     have := (hDm j).2 hx
     have h5 := h3.2
     simp [this] at h5
    exact alloc j (List.contains_iff_mem.1 h3.1) h4 hj h.1
  | (true, i) :: ms, h, ho, hds, keep =>
   cases f with
   | zero => simp [okFlo] at ho
   | succ f =>
    simp only [okFlo, Bool.and_eq_true, List.all_eq_true] at ho
    obtain ⟨ho1, ho2⟩ := ho
    have h1 := ho1 D' hD'
    rw [hmk] at h1
    obtain ⟨hci, h2⟩ := h1
    have hci := List.contains_iff_mem.1 hci
    refine ⟨fun h0 => (by rw [h0] at hci; cases hci), fun j hj => ?_⟩
    have h3 := h2 j hj
    by_cases hji : j = i
    ·subst hji
     obtain ⟨_, oi, hoi, _⟩ := mem_ready.1 hj
     have hoi' : all[j]? = some oi := by simpa using hoi
     obtain ⟨hd, hg, hX⟩ := h.2 oi hoi'
     have hk := keep oi j undef hoi' ⟨true, hds⟩
     unfold wpOp
     simp only [hoi]
     rw [if_pos (by simp [Region.wanted, hg])]
     refine .inl ?_
     refine hX (stars (chA β D)) a w ha hs _ _ ?_
     rintro v L' w' ⟨M, H', rfl, hfr, hJ⟩ hs'
     refine ⟨fun w => Sat E w H', fun hx => ⟨(hfr hx).1 E w' (drop2 hs'), fun w hw => (hfr hx).2 E w hw⟩, ?_⟩
     rw [markD_set]
     refine ih f ms (listed.setIfInBounds j true) D R β H' _ M _ w' (by omega) hp ho2 ?_ ?_ ?_ hJ (ha.put _ _ hd) ?_ hs'
     ·simp only [okDs, List.all_cons, Bool.and_eq_true] at hds ⊢; exact hds.2
     ·rw [← markD_set]; exact hcl.list hj
     ·exact fun s hs' => get_put (hρ s hs') (hk s hs')
     ·intro s hs'
      rw [put_ne (hk s (hp.mem_iff.1 (List.mem_append_left _ hs')))]
      exact hb s hs'
    ·have h3 : (as.map (·.i)).contains j = true ∧ (!D'.contains j) = true := by simpa [hji] using h3
     have h4 : j ∉ D.map (·.i) := fun hx => by
      have := (hDm j).2 hx
      have h5 := h3.2
      simp [this] at h5
     exact alloc j (List.contains_iff_mem.1 h3.1) h4 hj h.1
  | (false, i) :: ms, h, ho, hds, keep =>
   cases f with
   | zero => simp [okFlo] at ho
   | succ f =>
    simp only [okFlo, Bool.and_eq_true, List.all_eq_true] at ho
    obtain ⟨⟨hq, ho1⟩, ho2⟩ := ho
    have h1 := ho1 D' hD'
    rw [hmk] at h1
    obtain ⟨hci, hfree⟩ := h1
    have hmem := List.contains_iff_mem.1 hci
    obtain ⟨_, oi, hoi, _⟩ := mem_ready.1 hmem
    have hoi' : all[i]? = some oi := by simpa using hoi
    obtain ⟨hLH, h⟩ := h
    obtain ⟨v, hv, hd, hrest⟩ := h oi hoi'
    have hk := keep oi i undef hoi' ⟨false, hds⟩
    have hy : YieldsIf P all.toArray (fun w => Sat E w H) oi v a := by
     cases hg : oi.guard with
     | none => rw [hg] at hv; exact .inl ⟨by simp [Region.wanted, hg], fun w' hw' => hv a w' ha hw'⟩
     | some gb =>
      obtain ⟨g, b⟩ := gb
      rw [hg] at hv
      obtain ⟨d, c, h1, h2, h3⟩ := hv
      by_cases hcb : gbOf c = some b
      ·rw [if_pos hcb] at h3
       exact XfZ
      ·rw [if_neg hcb] at h3
       exact .inr ⟨by simp [Region.wanted, hg, yielded_val ha h1 h2, hcb], h3⟩
    refine wpAnyG_first hoi (Region.noSelect_spec hsel) (fun c a w ⟨ρ, L, hc, _⟩ => absurd hc (hQ c ρ L)) (frOf_spec (List.contains_iff_mem.1 hq)) fuel _ _ a w hcl (Region.free_spec hoi hfree) hmem hy (hLH E w (drop2 hs)) ?_
    rw [markD_set]
    refine ih f ms (listed.setIfInBounds i true) D R β H _ L _ w (by omega) hp ho2 ?_ ?_ ?_ hrest (ha.put _ _ hd) ?_ hs
    ·simp only [okDs, List.all_cons, Bool.and_eq_true] at hds ⊢; exact hds.2
    ·rw [← markD_set]; exact hcl.list hmem
    ·exact fun s hs' => get_put (hρ s hs') (hk s hs')
    ·intro s hs'
     rw [put_ne (hk s (hp.mem_iff.1 (List.mem_append_left _ hs')))]
     exact hb s hs'
/-- A region with allocations that float. -/
theorem J_flo {id : Nat} {l : List Oper} {H : List HProp} {ρ : Env} {L : List HProp} (idx quiet : List Nat) (as : List AlS) (ms : List (Bool × Nat)) (r : Sched) (hm : P.follows .mixedOrders = true)
 (hsel : Region.noSelect l.toArray = true) (hc : (decide ((as.map (·.i)).Nodup) && decide ((as.map (·.d)).Nodup) && decide (as.length + ms.length ≤ l.length) && okDs l (as.map (·.d)) ms && okFlo l.toArray quiet (as.map (·.i)) r (l.length - as.length) ms (Array.replicate l.length false)) = true)
 (hQ : ∀ c ρ L, ¬ Q (.panic c) ρ L) [NormL (pick idx L) H] (hal : ∀ s ∈ as, AlOk P E n l s) (hρ : (as.all fun s => (ρ.get s.d).isNone) = true)
 (h : JSF P E n l quiet (fun H ρ L => ∀ β, JS P E n l quiet Q r H (putA β as ρ) (chA β as ++ L)) ms H ρ L) : J P E n (.region id l.toArray true) Q ρ L := fun a w ha hs => by
 simp only [Bool.and_eq_true, decide_eq_true_eq] at hc
 obtain ⟨⟨⟨⟨h1, h2⟩, h3⟩, h4⟩, h5⟩ := hc
 refine wp_region_any hm (wpAny_of_G (fr := frOf l.toArray quiet) _ (fun w => Sat E w H) _ _ _ ?_)
 have hz : (Array.replicate l.length false) = markD (([] : List AlS).map (·.i)) (Array.replicate l.length false) := rfl
 have hsz : l.toArray.size = l.length := by simp
 rw [hsz, hz]
 refine JSF.sound hsel hQ hal h1 h2 (fun _ _ _ h => h) l.length (l.length - as.length) ms _ [] as (fun _ => 0) H ρ L a _ (by omega) (List.Perm.refl _) h5 h4 ?_ ?_ h ha (by simp) ?_
 ·have := Closed.start (md := .any) (ops := l.toArray)
  rw [hsz] at this
  exact this
 ·intro s hs'
  have := List.all_eq_true.1 hρ s hs'
  simpa using this
 ·exact Ent.stars_nil E _ (hs.drawn _)
theorem AlOk.of {s : AlS} {o : Oper} {z : Value} {sz by_ : Nat} (h1 : all[s.i]? = some o) (h2 : o = ⟨some s.d, .alloc s.t, o.type, o.pos, o.after, none⟩) (h3 : Nat.blt s.d n = true) [k : TyI P s.t sz z by_] [hc : CellsL z s.cs] : AlOk P E n all s :=
 ⟨o, h1, by rw [h2], by simpa using h3, by rw [h2], fun ρ L K hK => by rw [h2]; exact O_alloc hK⟩
variable {H : List HProp} {ρ : Env} {L M : List HProp} {ms : List (Bool × Nat)} {i : Nat} {o : Oper}
theorem F_q {d : Tmp} {v : Value} (hH : Ent L H) (ho : all[i]? = some o) (hq : QOp P E n o ρ H v) (hd : o.dst = some d) (hn : Nat.blt d n = true) (hg : guardOk all ρ o true = true) (h : JSF P E n all quiet K ms H ((d, v) :: ρ) L) : JSF P E n all quiet K ((false, i) :: ms) H ρ L := by
 refine ⟨hH, fun o' ho' => ?_⟩
 rw [ho] at ho'
 obtain rfl := Option.some.inj ho'
 refine ⟨v, ?_, by rw [hd]; exact hn, by rw [hd]; exact h⟩
 rcases guardOk_t hg with h1 | ⟨g, b, e, h1, h2, h3⟩
 ·rw [h1]; exact hq
 ·rw [h1]; exact ⟨e, _, h2, h3, by rw [if_pos (show gbOf (.bool b) = some b from rfl)]; exact hq⟩
theorem F_o {d : Tmp} (hH : Ent L H) (ho : all[i]? = some o) (hd : o.dst = some d) (hn : Nat.blt d n = true) (hg : o.guard = none)
 (h : ∀ X, JOp P E n o (fun v L' => ∃ M H', L' = X :: M ∧ (frOf all.toArray quiet i = true → Ent M H' ∧ Ent H' H) ∧ JSF P E n all quiet K ms H' ((d, v) :: ρ) M) ρ (X :: L)) : JSF P E n all quiet K ((true, i) :: ms) H ρ L := by
 refine ⟨hH, fun o' ho' => ?_⟩
 rw [ho] at ho'
 obtain rfl := Option.some.inj ho'
 exact ⟨by rw [hd]; exact hn, hg, fun X => by rw [hd]; exact h X⟩
theorem F_nil (hH : Ent L H) (h : K H ρ L) : JSF P E n all quiet K [] H ρ L := ⟨hH, h⟩
theorem land1 {si sd st : Nat} {sc : List Value} {Q : Post} (h : ∀ b, JS P E n all quiet Q r H ((sd, .pointer (some ⟨b, 0, none⟩)) :: ρ) (cel b sc st :: L)) : ∀ β, JS P E n all quiet Q r H (putA β [⟨si, sd, st, sc⟩] ρ) (chA β [⟨si, sd, st, sc⟩] ++ L) := fun β => h (β si)
theorem land2 {si sd st ti td tt : Nat} {sc tc : List Value} {Q : Post} (h : ∀ b c, JS P E n all quiet Q r H ((sd, .pointer (some ⟨b, 0, none⟩)) :: (td, .pointer (some ⟨c, 0, none⟩)) :: ρ) (cel b sc st :: cel c tc tt :: L)) : ∀ β, JS P E n all quiet Q r H (putA β [⟨si, sd, st, sc⟩, ⟨ti, td, tt, tc⟩] ρ) (chA β [⟨si, sd, st, sc⟩, ⟨ti, td, tt, tc⟩] ++ L) := fun β => h (β si) (β ti)
theorem land4 {si sd st ti td tt ui ud ut vi vd vt : Nat} {sc tc uc vc : List Value} {Q : Post} (h : ∀ b c d e, JS P E n all quiet Q r H ((sd, .pointer (some ⟨b, 0, none⟩)) :: (td, .pointer (some ⟨c, 0, none⟩)) :: (ud, .pointer (some ⟨d, 0, none⟩)) :: (vd, .pointer (some ⟨e, 0, none⟩)) :: ρ) (cel b sc st :: cel c tc tt :: cel d uc ut :: cel e vc vt :: L)) : ∀ β, JS P E n all quiet Q r H (putA β [⟨si, sd, st, sc⟩, ⟨ti, td, tt, tc⟩, ⟨ui, ud, ut, uc⟩, ⟨vi, vd, vt, vc⟩] ρ) (chA β [⟨si, sd, st, sc⟩, ⟨ti, td, tt, tc⟩, ⟨ui, ud, ut, uc⟩, ⟨vi, vd, vt, vc⟩] ++ L) := fun β => h (β si) (β ti) (β ui) (β vi)
/-- A call that leaves no chunk behind: what it hands back is known. -/
theorem O_callP {f : Nat} {xs : List Operand} {ts : Array TypeId} {vs : List Value} {v : Value} {K : Value → List HProp → Prop} {dst : Option Tmp} {ty : TypeId} {pos : String} {after : Array Edge} {g : Option (Nat × Bool)} [hf : HasFn P f] (hc : Does P E f vs [] fun r L => r = v ∧ L = []) (hx : ρ.evs xs = some vs)
 (hK : K v L) : JOp P E n ⟨dst, .call ⟨.value (.func f), xs.toArray, ts⟩, ty, pos, after, g⟩ K ρ L := fun a w ha hs => by
 have h := O_call (P := P) (E := E) (n := n) (ρ := ρ) (L := [stars L]) (dst := dst) (ty := ty) (pos := pos) (after := after) (g := g) (ts := ts) (K := fun v L' => ∃ M, L' = [stars M] ∧ K v M) [] [0] hc hx rfl
  (fun v' L' h => by obtain ⟨rfl, rfl⟩ := h; exact ⟨L, rfl, hK⟩) a w ha (Sat.fold (A := []) hs)
 refine fun next Q hn => h next Q ?_
 rintro v' L' w' ⟨M, rfl, hk⟩ hs'
 exact hn v' M w' hk (Sat.unfold (A := []) hs')
section
variable {x : Operand} {dst : Option Tmp} {ty : TypeId} {pos : String} {after : Array Edge} {g : Option (Nat × Bool)} {u v p q : Value}
theorem Q_ext20 (hx : ρ.ev x = some (.tuple #[u, v])) : QOp P E n ⟨dst, .extract x 0, ty, pos, after, g⟩ ρ L u := Q_extract hx rfl
theorem Q_ext21 (hx : ρ.ev x = some (.tuple #[u, v])) : QOp P E n ⟨dst, .extract x 1, ty, pos, after, g⟩ ρ L v := Q_extract hx rfl
end
end
end Go.SL
