/- A log in files, in plain Lean. -/
import Derived.Test.YtogjhcelmbhooaaFrameP
import Derived.Test.YtogjhcelmbhooaaDiskP
set_option autoImplicit false
namespace Go.Proofs
structure Fl where
  first : Nat
  l : List (List UInt8)
  s : Nat
structure Lg where
  size : Nat
  sure : Nat
  fs : List Fl
def Fl.next (f : Fl) : Nat := f.first + f.l.length
def Fl.d (f : Fl) : Dk := ⟨text f.l, f.s⟩
/-- Where records end. -/
def ends (l : List (List UInt8)) : List Nat := (List.range l.length).map fun i => (text (l.take (i + 1))).length
theorem ends_len (l : List (List UInt8)) : (ends l).length = l.length := by simp [ends]
theorem ends_get (l : List (List UInt8)) (i : Nat) (h : i < (ends l).length) : (ends l)[i] = (text (l.take (i + 1))).length := by simp [ends]
theorem ends_snoc (l : List (List UInt8)) (t : List UInt8) : ends (l ++ [t]) = ends l ++ [(text (l ++ [t])).length] := by
  simp only [ends, List.length_append, List.length_singleton, List.range_succ, List.map_append, List.map_cons, List.map_nil]
  congr 1
  · apply List.map_congr_left
    intro i hi
    rw [List.mem_range] at hi
    rw [List.take_append_of_le_length (by omega)]
  · rw [List.take_of_length_le (by simp)]
theorem text_cut (l : List (List UInt8)) (i : Nat) (h : i < l.length) : ((text l).take (text (l.take (i + 1))).length).drop (text (l.take i)).length = frame l[i] := by
  have e1 : text l = text (l.take (i + 1)) ++ text (l.drop (i + 1)) := by rw [← text_append, List.take_append_drop]
  rw [e1, List.take_left, List.take_succ_eq_append_getElem h, text_snoc, List.drop_left]
theorem text_take_le (l : List (List UInt8)) (i : Nat) : (text (l.take i)).length ≤ (text l).length := by
  have e1 : text l = text (l.take i) ++ text (l.drop i) := by rw [← text_append, List.take_append_drop]
  rw [e1, List.length_append]; omega
def nextOf (fs : List Fl) : Nat := match fs.getLast? with
  | none => 0
  | some f => f.next
def firstOf (fs : List Fl) : Nat := match fs.head? with
  | none => 0
  | some f => f.first
theorem nextOf_snoc (fs : List Fl) (f : Fl) : nextOf (fs ++ [f]) = f.next := by simp [nextOf]
def syncF (f : Fl) : Fl := ⟨f.first, f.l, (text f.l).length⟩
def putF (f : Fl) (t : List UInt8) : Fl := ⟨f.first, f.l ++ [t], f.s⟩
def onLast (fs : List Fl) (u : Fl → Fl) : List Fl := match fs.getLast? with
  | none => []
  | some f => fs.dropLast ++ [u f]
theorem onLast_snoc (fs : List Fl) (f : Fl) (u : Fl → Fl) : onLast (fs ++ [f]) u = fs ++ [u f] := by simp [onLast]
def syncL (g : Lg) : Lg := ⟨g.size, if g.fs = [] then g.sure else nextOf g.fs, onLast g.fs syncF⟩
def roomB (g : Lg) (n : Nat) : Bool := match g.fs.getLast? with
  | none => false
  | some f => decide ((text f.l).length + n ≤ g.size)
/-- A record behind all: the log, the number, the error. -/
def appL (g : Lg) (t : List UInt8) : Lg × Nat × Int :=
  if 4096 < t.length then (g, 0, 2) else if g.size < 8 + t.length then (g, 0, 2)
  else if roomB g (8 + t.length) = true then (⟨g.size, g.sure, onLast g.fs fun f => putF f t⟩, nextOf g.fs, 0)
  else if 16 ≤ g.fs.length then (g, 0, 7)
  else (⟨g.size, (syncL g).sure, (syncL g).fs ++ [⟨nextOf g.fs, [t], 0⟩]⟩, nextOf g.fs, 0)
def crashF (f : Fl) (keep : Nat) : Fl := ⟨f.first, (prefixR (tear f.d keep)).1, (prefixR (tear f.d keep)).2⟩
def crashL (g : Lg) (keep : Nat) : Lg := ⟨g.size, if g.fs = [] then g.sure else nextOf (onLast g.fs fun f => crashF f keep), onLast g.fs fun f => crashF f keep⟩
def dropN : List Fl → Int → Nat
  | f :: f2 :: r, seq => if (f.next : Int) ≤ seq then dropN (f2 :: r) seq + 1 else 0
  | _, _ => 0
def dropL (g : Lg) (seq : Int) : Lg × Nat := (⟨g.size, g.sure, g.fs.drop (dropN g.fs seq)⟩, dropN g.fs seq)
def getL : List Fl → Int → List UInt8 × Int
  | [], _ => ([], 9)
  | f :: r, i => if (f.first : Int) ≤ i ∧ i < (f.next : Int) then (f.l.getD (i - f.first).toNat [], 0) else getL r i
def chain : List Fl → Prop
  | f :: f2 :: r => f2.first = f.next ∧ chain (f2 :: r)
  | _ => True
structure Good (g : Lg) (c : Nat) : Prop where
  size : 64 ≤ g.size ∧ g.size ≤ 8192
  few : g.fs.length ≤ 16
  file : ∀ f ∈ g.fs, (text f.l).length ≤ 8192 ∧ f.s ≤ (text f.l).length ∧ (∀ t ∈ f.l, t.length ≤ 4096) ∧ f.next ≤ c
  ch : chain g.fs
  sure : g.sure ≤ c
theorem chain_append : ∀ (a : List Fl) (f : Fl) (b : List Fl), chain (a ++ f :: b) ↔ chain (a ++ [f]) ∧ chain (f :: b)
  | [], f, b => by simp [chain]
  | [x], f, b => by simp [chain]
  | x :: y :: r, f, b => by
    have := chain_append (y :: r) f b
    simp only [List.cons_append, chain] at this ⊢
    rw [this]
    exact and_assoc.symm
theorem chain_last (a : List Fl) (f f' : Fl) (h : f.first = f'.first) : chain (a ++ [f]) → chain (a ++ [f']) := by
  induction a with
  | nil => intro _; trivial
  | cons x r ih =>
    cases r with
    | nil => simp only [List.nil_append, List.cons_append, chain]; rw [h]; exact id
    | cons y r => simp only [List.cons_append, chain] at ih ⊢; exact fun ⟨h1, h2⟩ => ⟨h1, ih h2⟩
theorem chain_drop (fs : List Fl) (n : Nat) (h : chain fs) : chain (fs.drop n) := by
  induction n generalizing fs with
  | zero => exact h
  | succ n ih =>
    cases fs with
    | nil => trivial
    | cons x r =>
      rw [List.drop_succ_cons]
      refine ih r ?_
      cases r with
      | nil => trivial
      | cons y r => exact h.2
theorem dropN_lt : ∀ (fs : List Fl) (seq : Int), fs = [] ∨ dropN fs seq < fs.length
  | [], _ => .inl rfl
  | [_], _ => .inr (by simp [dropN])
  | f :: f2 :: r, seq => .inr (by
    simp only [dropN]
    have := (dropN_lt (f2 :: r) seq).resolve_left (by simp)
    simp only [List.length_cons] at this ⊢
    split <;> omega)
theorem dropN_le (fs : List Fl) (seq : Int) : dropN fs seq ≤ fs.length := by
  rcases dropN_lt fs seq with rfl | h
  · simp [dropN]
  · omega
theorem last_cases {α : Type} (l : List α) : l = [] ∨ ∃ a x, l = a ++ [x] := by
  rcases List.eq_nil_or_concat l with h | ⟨a, x, h⟩
  · exact .inl h
  · exact .inr ⟨a, x, by rw [h]; simp⟩
theorem Good.mono {g : Lg} {c d : Nat} (h : Good g c) (hd : c ≤ d) : Good g d := ⟨h.size, h.few, fun f hf => by obtain ⟨a, b, e, k⟩ := h.file f hf; exact ⟨a, b, e, Nat.le_trans k hd⟩, h.ch, Nat.le_trans h.sure hd⟩
theorem Good.next {g : Lg} {c : Nat} (h : Good g c) : nextOf g.fs ≤ c := by
  rcases last_cases g.fs with e | ⟨a, x, e⟩
  · rw [e]; simp [nextOf]
  · rw [e, nextOf_snoc]; exact (h.file x (by rw [e]; simp)).2.2.2
theorem Good.sync {g : Lg} {c : Nat} (h : Good g c) : Good (syncL g) c := by
  have hn := h.next
  rcases last_cases g.fs with e | ⟨a, x, e⟩
  · have : (syncL g).fs = [] := by simp [syncL, e, onLast]
    refine ⟨h.size, by rw [this]; simp, by rw [this]; simp, by rw [this]; trivial, by simp [syncL, e]; exact h.sure⟩
  · have e2 : (syncL g).fs = a ++ [syncF x] := by simp only [syncL]; rw [e, onLast_snoc]
    refine ⟨h.size, by rw [e2]; have := h.few; rw [e] at this; simpa using this, ?_, ?_, ?_⟩
    · intro f hf
      rw [e2, List.mem_append, List.mem_singleton] at hf
      rcases hf with hf | rfl
      · exact h.file f (by rw [e]; simp [hf])
      · obtain ⟨a1, a2, a3, a4⟩ := h.file x (by rw [e]; simp)
        exact ⟨a1, Nat.le_refl _, a3, a4⟩
    · rw [e2]; exact chain_last a x _ rfl (by rw [← e]; exact h.ch)
    · simp only [syncL]; rw [if_neg (by rw [e]; simp)]; exact hn
theorem Good.app {g : Lg} {c : Nat} (t : List UInt8) (h : Good g c) : Good (appL g t).1 (c + 1) := by
  have hn := h.next
  unfold appL
  split
  · exact h.mono (by omega)
  split
  · exact h.mono (by omega)
  rename_i h1 h2
  split
  · rename_i h3
    rcases last_cases g.fs with e | ⟨a, x, e⟩
    · simp [roomB, e] at h3
    · simp only [roomB, e, List.getLast?_append, List.getLast?_singleton, Option.some_or, decide_eq_true_eq] at h3
      have hs := h.size
      obtain ⟨a1, a2, a3, a4⟩ := h.file x (by rw [e]; simp)
      refine ⟨h.size, ?_, ?_, ?_, by simp only; have := h.sure; omega⟩
      · simp only; rw [e, onLast_snoc]; have := h.few; rw [e] at this; simpa using this
      · simp only; rw [e, onLast_snoc]
        intro f hf
        rw [List.mem_append, List.mem_singleton] at hf
        rcases hf with hf | rfl
        · obtain ⟨b1, b2, b3, b4⟩ := h.file f (by rw [e]; simp [hf])
          exact ⟨b1, b2, b3, by omega⟩
        · simp only [putF, text_snoc, List.length_append, frame_len, Fl.next, List.length_singleton] at *
          refine ⟨by omega, by omega, ?_, by omega⟩
          intro t' ht'
          rw [List.mem_append, List.mem_singleton] at ht'
          rcases ht' with ht' | rfl
          · exact a3 t' ht'
          · omega
      · simp only; rw [e, onLast_snoc]; exact chain_last a x _ rfl (by rw [← e]; exact h.ch)
  · split
    · exact h.mono (by omega)
    · rename_i h4
      have hg := h.sync
      have hs := h.size
      have hl : (syncL g).fs.length = g.fs.length := by
        rcases last_cases g.fs with e | ⟨a, x, e⟩
        · simp [syncL, e, onLast]
        · simp only [syncL]; rw [e, onLast_snoc]; simp
      refine ⟨h.size, by simp only [List.length_append, List.length_singleton]; omega, ?_, ?_, by simp only; have := hg.sure; omega⟩
      · intro f hf
        simp only [List.mem_append, List.mem_singleton] at hf
        rcases hf with hf | rfl
        · obtain ⟨b1, b2, b3, b4⟩ := hg.file f hf
          exact ⟨b1, b2, b3, by omega⟩
        · have e1 : (text [t]).length = 8 + t.length := by simp [text, frame_len]
          refine ⟨by rw [e1]; omega, by simp, ?_, by simp only [Fl.next, List.length_singleton]; omega⟩
          intro t' ht'
          rw [List.mem_singleton.1 ht']; omega
      · simp only
        rcases last_cases g.fs with e | ⟨a, x, e⟩
        · simp [syncL, e, onLast, chain]
        · have e2 : (syncL g).fs = a ++ [syncF x] := by simp only [syncL]; rw [e, onLast_snoc]
          have hc := hg.ch
          rw [e2] at hc ⊢
          rw [List.append_assoc]
          refine (chain_append a _ _).2 ⟨hc, ?_⟩
          rw [e, nextOf_snoc]
          exact ⟨rfl, trivial⟩
theorem Good.crash {g : Lg} {c keep : Nat} (h : Good g c) : Good (crashL g keep) (c + 8192) := by
  rcases last_cases g.fs with e | ⟨a, x, e⟩
  · have : (crashL g keep).fs = [] := by simp [crashL, e, onLast]
    refine ⟨h.size, by rw [this]; simp, by rw [this]; simp, by rw [this]; trivial, by simp [crashL, e]; have := h.sure; omega⟩
  · have e2 : (crashL g keep).fs = a ++ [crashF x keep] := by simp only [crashL]; rw [e, onLast_snoc]
    obtain ⟨a1, a2, a3, a4⟩ := h.file x (by rw [e]; simp)
    obtain ⟨p1, p2, p3⟩ := prefixR_text _ (tear x.d keep) (Nat.le_refl _)
    obtain ⟨t1, t2⟩ := tear_length x.d keep a2
    have t3 : (tear x.d keep).length ≤ (text x.l).length := t2
    have p4 : (text (prefixR (tear x.d keep)).1).length = (prefixR (tear x.d keep)).2 := by rw [p1, List.length_take]; omega
    have p5 := text_len (prefixR (tear x.d keep)).1
    have hk : (crashF x keep).next ≤ c + 8192 := by simp only [crashF, Fl.next] at *; omega
    refine ⟨h.size, by rw [e2]; have := h.few; rw [e] at this; simpa using this, ?_, ?_, ?_⟩
    · intro f hf
      rw [e2, List.mem_append, List.mem_singleton] at hf
      rcases hf with hf | rfl
      · obtain ⟨b1, b2, b3, b4⟩ := h.file f (by rw [e]; simp [hf])
        exact ⟨b1, b2, b3, by omega⟩
      · exact ⟨by simp only [crashF]; omega, by simp only [crashF]; omega, p3, hk⟩
    · rw [e2]; exact chain_last a x _ rfl (by rw [← e]; exact h.ch)
    · have : (crashL g keep).sure = (crashF x keep).next := by
        simp only [crashL]; rw [if_neg (by rw [e]; simp), e, onLast_snoc, nextOf_snoc]
      rw [this]; exact hk
theorem Good.drop {g : Lg} {c : Nat} (seq : Int) (h : Good g c) : Good (dropL g seq).1 c := by
  refine ⟨h.size, ?_, fun f hf => h.file f (List.mem_of_mem_drop hf), chain_drop _ _ h.ch, h.sure⟩
  simp only [dropL, List.length_drop]; have := h.few; omega
end Go.Proofs
