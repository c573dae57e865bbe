/- Part 14 of the texts below the row: FrameP, DiskP, SegP, TysD, Rec, Sl14, Wire, Ref37b, RecF. -/
import Derived.Test.YtgifbeecmidciaaGreatM13
/- Records one behind the other, in plain Lean. -/
set_option autoImplicit false
namespace Go.Proofs
theorem be_four4 (n : Nat) : be (four n) = n % 2 ^ 32 := by
 simp only [be, four, List.foldl_cons, List.foldl_nil, UInt8.toNat_ofNat']
 omega
def frame (t : List UInt8) : List UInt8 := four t.length ++ four (crc (four t.length ++ t)) ++ t
theorem frame_len (t : List UInt8) : (frame t).length = 8 + t.length := by simp [frame, four]; omega
/-- The record at the beginning: its text, how many bytes it has, the error. -/
def recNext (s : List UInt8) : List UInt8 × Nat × Int :=
 if s.length < 4 then ([], 0, 2) else if 4096 < be (s.take 4) then ([], 0, 3) else if s.length < 8 + be (s.take 4) then ([], 0, 2)
 else if crc (s.take 4 ++ (s.take (8 + be (s.take 4))).drop 8) = be ((s.drop 4).take 4) then ((s.take (8 + be (s.take 4))).drop 8, 8 + be (s.take 4), 0) else ([], 0, 4)
theorem four_be (s : List UInt8) (h : 4 ≤ s.length) : four (be (s.take 4)) = s.take 4 := by
 rw [be4 s h]
 match s, h with
 | a :: b :: c :: d :: r, _ =>
  have := a.toNat_lt; have := b.toNat_lt; have := c.toNat_lt; have := d.toNat_lt
  simp only [four, List.take_succ_cons, List.take_zero, List.cons.injEq, and_true, List.getElem_cons_zero, List.getElem_cons_succ]
  refine ⟨?_, ?_, ?_, ?_⟩ <;> (apply UInt8.toNat_inj.1; rw [UInt8.toNat_ofNat']; omega)
theorem recNext_ok {s t : List UInt8} {n : Nat} (h : recNext s = (t, n, 0)) : t.length ≤ 4096 ∧ n = 8 + t.length ∧ n ≤ s.length ∧ s.take n = frame t := by
 unfold recNext at h
 split at h
 ·cases h
 ·split at h
  ·cases h
  ·split at h
   ·cases h
   ·split at h
    ·rename_i h1 h2 h3 h4
     simp only [Prod.mk.injEq, and_true] at h
     obtain ⟨ht, rfl⟩ := h
     have hl : t.length = be (s.take 4) := by rw [← ht]; simp; omega
     refine ⟨by omega, by omega, by omega, ?_⟩
     have e1 : s.take (8 + be (s.take 4)) = s.take 4 ++ ((s.drop 4).take 4 ++ t) := by
      rw [← ht, List.drop_take, show 8 + be (s.take 4) - 8 = be (s.take 4) by omega, show 8 + be (s.take 4) = 4 + (4 + be (s.take 4)) by omega, List.take_add, List.take_add (l := s.drop 4), List.drop_drop]
     have e2 : four t.length = s.take 4 := by rw [hl]; exact four_be s (by omega)
     have e3 : four (crc (four t.length ++ t)) = (s.drop 4).take 4 := by
      rw [e2, ← ht, h4]; exact four_be (s.drop 4) (by simp; omega)
     rw [e1, frame, e2, e3.symm, e2, List.append_assoc]
    ·cases h
theorem recNext_frame (t r : List UInt8) (h : t.length ≤ 4096) : recNext (frame t ++ r) = (t, 8 + t.length, 0) := by
 have hb : be (four t.length) = t.length := by rw [be_four4]; omega
 have h1 : (frame t ++ r).take 4 = four t.length := rfl
 have h2 : ((frame t ++ r).drop 4).take 4 = four (crc (four t.length ++ t)) := rfl
 have h3 : (frame t ++ r).length = 8 + t.length + r.length := by rw [List.length_append, frame_len]
 have h4 : ((frame t ++ r).take (8 + t.length)).drop 8 = t := by
  rw [List.take_append_of_le_length (by rw [frame_len]; exact Nat.le_refl _), List.take_of_length_le (by rw [frame_len]; exact Nat.le_refl _)]; rfl
 unfold recNext
 rw [h1, h2, h3, hb, h4, be_four4, Nat.mod_eq_of_lt (crc_lt _), if_neg (by omega), if_neg (by omega), if_neg (by omega), if_pos rfl]
/-- The records that are right, and how many bytes they have. -/
def prefixR (s : List UInt8) : List (List UInt8) × Nat :=
 match h : recNext s with
 | (t, n, e) => if e = 0 ∧ 0 < n ∧ n ≤ s.length then (t :: (prefixR (s.drop n)).1, n + (prefixR (s.drop n)).2) else ([], 0)
termination_by s.length
decreasing_by all_goals simp; omega
theorem prefixR_step {s t : List UInt8} {n : Nat} (h : recNext s = (t, n, 0)) : prefixR s = (t :: (prefixR (s.drop n)).1, n + (prefixR (s.drop n)).2) := by
 obtain ⟨_, h1, h2, _⟩ := recNext_ok h
 rw [prefixR]
 split
 rename_i t' n' e' he
 rw [h] at he
 obtain ⟨rfl, rfl, rfl⟩ : t = t' ∧ n = n' ∧ (0 : Int) = e' := by simpa using he
 rw [if_pos ⟨rfl, by omega, h2⟩]
theorem prefixR_stop {s : List UInt8} (h : (recNext s).2.2 ≠ 0) : prefixR s = ([], 0) := by
 rw [prefixR]
 split
 rename_i t n e he
 rw [he] at h
 rw [if_neg (fun h2 => h h2.1)]
def text (l : List (List UInt8)) : List UInt8 := l.flatMap frame
theorem text_cons (t : List UInt8) (l : List (List UInt8)) : text (t :: l) = frame t ++ text l := by simp [text]
theorem text_append (l m : List (List UInt8)) : text (l ++ m) = text l ++ text m := by simp [text]
theorem text_snoc (l : List (List UInt8)) (t : List UInt8) : text (l ++ [t]) = text l ++ frame t := by simp [text]
theorem text_len (l : List (List UInt8)) : 8 * l.length ≤ (text l).length := by
 induction l with
 | nil => simp
 | cons t l ih => rw [text_cons, List.length_append, frame_len, List.length_cons]; omega
theorem prefixR_text (n : Nat) : ∀ s : List UInt8, s.length ≤ n → text (prefixR s).1 = s.take (prefixR s).2 ∧ (prefixR s).2 ≤ s.length ∧ ∀ t ∈ (prefixR s).1, t.length ≤ 4096 := by
 induction n with
 | zero =>
  intro s h
  obtain rfl : s = [] := List.eq_nil_of_length_eq_zero (by omega)
  rw [prefixR_stop (by decide)]; simp [text]
 | succ n ih =>
  intro s h
  rcases hx : recNext s with ⟨t, m, e⟩
  by_cases he : e = 0
  ·subst he
   obtain ⟨h0, h1, h2, h3⟩ := recNext_ok hx
   obtain ⟨i1, i2, i3⟩ := ih (s.drop m) (by simp; omega)
   rw [prefixR_step hx]
   refine ⟨?_, ?_, ?_⟩
   ·simp only [text_cons, i1, List.take_add, h3]
   ·simp only [List.length_drop] at i2 ⊢; omega
   ·intro t' h'
    rcases List.mem_cons.1 h' with rfl | h'
    ·exact h0
    ·exact i3 t' h'
  ·rw [prefixR_stop (by rw [hx]; exact he)]; simp [text]
theorem prefixR_app (l : List (List UInt8)) (r : List UInt8) (h : ∀ t ∈ l, t.length ≤ 4096) : prefixR (text l ++ r) = (l ++ (prefixR r).1, (text l).length + (prefixR r).2) := by
 induction l with
 | nil => simp [text]
 | cons t l ih =>
  have e : text (t :: l) ++ r = frame t ++ (text l ++ r) := by rw [text_cons, List.append_assoc]
  have e2 : (frame t ++ (text l ++ r)).drop (8 + t.length) = text l ++ r := by rw [← frame_len, List.drop_left]
  rw [e, prefixR_step (recNext_frame t _ (h t (by simp))), e2, ih (fun t' h' => h t' (by simp [h']))]
  simp only [text_cons, List.length_append, frame_len, List.cons_append, Prod.mk.injEq, true_and]
  omega
theorem recNext_cut (t r : List UInt8) (m : Nat) (h : t.length ≤ 4096) (hm : m < 8 + t.length) : (recNext ((frame t ++ r).take m)).2.2 ≠ 0 := by
 have hl : ((frame t ++ r).take m).length = m := by rw [List.length_take, List.length_append, frame_len]; omega
 unfold recNext
 rw [hl]
 split
 ·simp
 ·rename_i h4
  have hb : be (four t.length) = t.length := by rw [be_four4]; omega
  have h1 : ((frame t ++ r).take m).take 4 = four t.length := by
   rw [List.take_take, show min 4 m = 4 by omega]; rfl
  rw [h1, hb, if_neg (by omega), if_pos hm]
  simp
theorem prefixR_cut (l : List (List UInt8)) (h : ∀ t ∈ l, t.length ≤ 4096) : ∀ m, ∃ j, j ≤ l.length ∧ (prefixR ((text l).take m)).1 = l.take j := by
 induction l with
 | nil => intro m; refine ⟨0, by simp, ?_⟩; rw [show (text []).take m = [] by simp [text], prefixR_stop (by decide)]; rfl
 | cons t l ih =>
  intro m
  rw [text_cons]
  by_cases hm : m < 8 + t.length
  ·exact ⟨0, by simp, by rw [prefixR_stop (recNext_cut t _ m (h t (by simp)) hm)]; rfl⟩
  ·obtain ⟨j, hj, e⟩ := ih (fun t' h' => h t' (by simp [h'])) (m - (8 + t.length))
   refine ⟨j + 1, by simp; omega, ?_⟩
   have e1 : (frame t ++ text l).take m = frame t ++ (text l).take (m - (8 + t.length)) := by
    rw [List.take_append, frame_len, List.take_of_length_le (by rw [frame_len]; omega)]
   have e2 : (frame t ++ (text l).take (m - (8 + t.length))).drop (8 + t.length) = (text l).take (m - (8 + t.length)) := by rw [← frame_len t, List.drop_left]
   rw [e1, prefixR_step (recNext_frame t _ (h t (by simp))), e2]
   simp only [e, List.take_succ_cons]
end Go.Proofs
/- What a disk is, in plain Lean: its bytes, how many are synced, what a crash does. -/
set_option autoImplicit false
namespace Go.Proofs
/-- A disk: its bytes, how many are synced. -/
structure Dk where
 b : List UInt8
 s : Nat
/-- Is the sector that holds byte i kept? -/
def kb (keep s i : Nat) : Bool := decide (i / 64 - s / 64 < 64) && (keep >>> (i / 64 - s / 64) % 2 == 1)
/-- The bytes when the first k that are not synced have been gone over. -/
def torn (keep s : Nat) (b : List UInt8) (k : Nat) : List UInt8 := b.mapIdx fun i x => if s ≤ i ∧ i < s + k ∧ kb keep s i = false then 0 else x
/-- Where what is there ends. -/
def endTo (keep s : Nat) : Nat → Nat
 | 0 => s
 | k + 1 => if kb keep s (s + k) = true then s + k + 1 else endTo keep s k
theorem torn_length (keep s : Nat) (b : List UInt8) (k : Nat) : (torn keep s b k).length = b.length := by simp [torn]
theorem torn_zero (keep s : Nat) (b : List UInt8) : torn keep s b 0 = b := by
 apply List.ext_getElem?; intro i
 simp only [torn, List.getElem?_mapIdx]
 cases b[i]? <;> simp <;> omega
theorem torn_kept (keep s : Nat) (b : List UInt8) (k : Nat) (h : kb keep s (s + k) = true) : torn keep s b (k + 1) = torn keep s b k := by
 apply List.ext_getElem?; intro i
 simp only [torn, List.getElem?_mapIdx]
 cases b[i]? with
 | none => rfl
 | some x =>
  simp only [Option.map_some, Option.some.injEq]
  by_cases e : i = s + k
  ·subst e; simp [h]
  ·have : (s ≤ i ∧ i < s + (k + 1) ∧ kb keep s i = false) ↔ (s ≤ i ∧ i < s + k ∧ kb keep s i = false) := by
    constructor <;> rintro ⟨h1, h2, h3⟩ <;> exact ⟨h1, by omega, h3⟩
   simp only [this]
theorem torn_lost (keep s : Nat) (b : List UInt8) (k : Nat) (h : kb keep s (s + k) = false) : torn keep s b (k + 1) = (torn keep s b k).set (s + k) 0 := by
 apply List.ext_getElem?; intro i
 rw [List.getElem?_set]
 simp only [torn, List.getElem?_mapIdx, List.length_mapIdx]
 by_cases e : s + k = i
 ·subst e
  by_cases hl : s + k < b.length
  ·simp [hl, h]
  ·simp [hl]
 ·simp only [e, if_false]
  cases b[i]? with
  | none => rfl
  | some x =>
   simp only [Option.map_some, Option.some.injEq]
   have : (s ≤ i ∧ i < s + (k + 1) ∧ kb keep s i = false) ↔ (s ≤ i ∧ i < s + k ∧ kb keep s i = false) := by
    constructor <;> rintro ⟨h1, h2, h3⟩ <;> exact ⟨h1, by omega, h3⟩
   simp only [this]
theorem endTo_le (keep s : Nat) : ∀ k, s ≤ endTo keep s k ∧ endTo keep s k ≤ s + k
 | 0 => ⟨Nat.le_refl _, Nat.le_refl _⟩
 | k + 1 => by
  have := endTo_le keep s k
  simp only [endTo]
  split <;> omega
/-- What a crash leaves. -/
def tear (d : Dk) (keep : Nat) : List UInt8 := (torn keep d.s d.b (d.b.length - d.s)).take (endTo keep d.s (d.b.length - d.s))
/-- What is done to a disk. -/
structure Ac where
 kind : Int
 text : List UInt8
 keep : Nat
def doD (d : Dk) (a : Ac) : Dk × Int :=
 if a.kind = 1 then if 65536 < d.b.length + a.text.length then (d, 2) else (⟨d.b ++ a.text, d.s⟩, 0)
 else if a.kind = 3 then (⟨tear d a.keep, (tear d a.keep).length⟩, 0)
 else if a.kind = 2 then (⟨d.b, d.b.length⟩, 0)
 else (d, 1)
def Dk.ok (d : Dk) : Prop := d.s ≤ d.b.length ∧ d.b.length ≤ 65536
theorem tear_length (d : Dk) (keep : Nat) (h : d.s ≤ d.b.length) : d.s ≤ (tear d keep).length ∧ (tear d keep).length ≤ d.b.length := by
 have := endTo_le keep d.s (d.b.length - d.s)
 simp [tear, torn_length]; omega
end Go.Proofs
/- A log in files, in plain Lean. -/
set_option autoImplicit false
namespace Go.Proofs
structure Fl where
 first : Nat
 l : List (List UInt8)
 s : Nat
structure Lg where
 size : Nat
 sure : Nat
 fs : List Fl
def Fl.next (f : Fl) : Nat := f.first + f.l.length
def Fl.d (f : Fl) : Dk := ⟨text f.l, f.s⟩
/-- Where records end. -/
def ends (l : List (List UInt8)) : List Nat := (List.range l.length).map fun i => (text (l.take (i + 1))).length
theorem ends_len (l : List (List UInt8)) : (ends l).length = l.length := by simp [ends]
theorem ends_get (l : List (List UInt8)) (i : Nat) (h : i < (ends l).length) : (ends l)[i] = (text (l.take (i + 1))).length := by simp [ends]
theorem ends_snoc (l : List (List UInt8)) (t : List UInt8) : ends (l ++ [t]) = ends l ++ [(text (l ++ [t])).length] := by
 simp only [ends, List.length_append, List.length_singleton, List.range_succ, List.map_append, List.map_cons, List.map_nil]
 congr 1
 ·apply List.map_congr_left
  intro i hi
  rw [List.mem_range] at hi
  rw [List.take_append_of_le_length (by omega)]
 ·rw [List.take_of_length_le (by simp)]
theorem text_cut (l : List (List UInt8)) (i : Nat) (h : i < l.length) : ((text l).take (text (l.take (i + 1))).length).drop (text (l.take i)).length = frame l[i] := by
 have e1 : text l = text (l.take (i + 1)) ++ text (l.drop (i + 1)) := by rw [← text_append, List.take_append_drop]
 rw [e1, List.take_left, List.take_succ_eq_append_getElem h, text_snoc, List.drop_left]
theorem text_take_le (l : List (List UInt8)) (i : Nat) : (text (l.take i)).length ≤ (text l).length := by
 have e1 : text l = text (l.take i) ++ text (l.drop i) := by rw [← text_append, List.take_append_drop]
 rw [e1, List.length_append]; omega
def nextOf (fs : List Fl) : Nat := match fs.getLast? with
 | none => 0
 | some f => f.next
def firstOf (fs : List Fl) : Nat := match fs.head? with
 | none => 0
 | some f => f.first
theorem nextOf_snoc (fs : List Fl) (f : Fl) : nextOf (fs ++ [f]) = f.next := by simp [nextOf]
def syncF (f : Fl) : Fl := ⟨f.first, f.l, (text f.l).length⟩
def putF (f : Fl) (t : List UInt8) : Fl := ⟨f.first, f.l ++ [t], f.s⟩
def onLast (fs : List Fl) (u : Fl → Fl) : List Fl := match fs.getLast? with
 | none => []
 | some f => fs.dropLast ++ [u f]
theorem onLast_snoc (fs : List Fl) (f : Fl) (u : Fl → Fl) : onLast (fs ++ [f]) u = fs ++ [u f] := by simp [onLast]
def syncL (g : Lg) : Lg := ⟨g.size, if g.fs = [] then g.sure else nextOf g.fs, onLast g.fs syncF⟩
def roomB (g : Lg) (n : Nat) : Bool := match g.fs.getLast? with
 | none => false
 | some f => decide ((text f.l).length + n ≤ g.size)
/-- A record behind all: the log, the number, the error. -/
def appL (g : Lg) (t : List UInt8) : Lg × Nat × Int :=
 if 4096 < t.length then (g, 0, 2) else if g.size < 8 + t.length then (g, 0, 2)
 else if roomB g (8 + t.length) = true then (⟨g.size, g.sure, onLast g.fs fun f => putF f t⟩, nextOf g.fs, 0)
 else if 16 ≤ g.fs.length then (g, 0, 7)
 else (⟨g.size, (syncL g).sure, (syncL g).fs ++ [⟨nextOf g.fs, [t], 0⟩]⟩, nextOf g.fs, 0)
def crashF (f : Fl) (keep : Nat) : Fl := ⟨f.first, (prefixR (tear f.d keep)).1, (prefixR (tear f.d keep)).2⟩
def crashL (g : Lg) (keep : Nat) : Lg := ⟨g.size, if g.fs = [] then g.sure else nextOf (onLast g.fs fun f => crashF f keep), onLast g.fs fun f => crashF f keep⟩
def dropN : List Fl → Int → Nat
 | f :: f2 :: r, seq => if (f.next : Int) ≤ seq then dropN (f2 :: r) seq + 1 else 0
 | _, _ => 0
def dropL (g : Lg) (seq : Int) : Lg × Nat := (⟨g.size, g.sure, g.fs.drop (dropN g.fs seq)⟩, dropN g.fs seq)
def getL : List Fl → Int → List UInt8 × Int
 | [], _ => ([], 9)
 | f :: r, i => if (f.first : Int) ≤ i ∧ i < (f.next : Int) then (f.l.getD (i - f.first).toNat [], 0) else getL r i
def chain : List Fl → Prop
 | f :: f2 :: r => f2.first = f.next ∧ chain (f2 :: r)
 | _ => True
structure Good (g : Lg) (c : Nat) : Prop where
 size : 64 ≤ g.size ∧ g.size ≤ 8192
 few : g.fs.length ≤ 16
 file : ∀ f ∈ g.fs, (text f.l).length ≤ 8192 ∧ f.s ≤ (text f.l).length ∧ (∀ t ∈ f.l, t.length ≤ 4096) ∧ f.next ≤ c
 ch : chain g.fs
 sure : g.sure ≤ c
theorem chain_append : ∀ (a : List Fl) (f : Fl) (b : List Fl), chain (a ++ f :: b) ↔ chain (a ++ [f]) ∧ chain (f :: b)
 | [], f, b => by simp [chain]
 | [x], f, b => by simp [chain]
 | x :: y :: r, f, b => by
  have := chain_append (y :: r) f b
  simp only [List.cons_append, chain] at this ⊢
  rw [this]
  exact and_assoc.symm
theorem chain_last (a : List Fl) (f f' : Fl) (h : f.first = f'.first) : chain (a ++ [f]) → chain (a ++ [f']) := by
 induction a with
 | nil => intro _; trivial
 | cons x r ih =>
  cases r with
  | nil => simp only [List.nil_append, List.cons_append, chain]; rw [h]; exact id
  | cons y r => simp only [List.cons_append, chain] at ih ⊢; exact fun ⟨h1, h2⟩ => ⟨h1, ih h2⟩
theorem chain_drop (fs : List Fl) (n : Nat) (h : chain fs) : chain (fs.drop n) := by
 induction n generalizing fs with
 | zero => exact h
 | succ n ih =>
  cases fs with
  | nil => trivial
  | cons x r =>
   rw [List.drop_succ_cons]
   refine ih r ?_
   cases r with
   | nil => trivial
   | cons y r => exact h.2
theorem dropN_lt : ∀ (fs : List Fl) (seq : Int), fs = [] ∨ dropN fs seq < fs.length
 | [], _ => .inl rfl
 | [_], _ => .inr (by simp [dropN])
 | f :: f2 :: r, seq => .inr (by
  simp only [dropN]
  have := (dropN_lt (f2 :: r) seq).resolve_left (by simp)
  simp only [List.length_cons] at this ⊢
  split <;> omega)
theorem last_cases {α : Type} (l : List α) : l = [] ∨ ∃ a x, l = a ++ [x] := by
 rcases List.eq_nil_or_concat l with h | ⟨a, x, h⟩
 ·exact .inl h
 ·exact .inr ⟨a, x, by rw [h]; simp⟩
theorem Good.mono {g : Lg} {c d : Nat} (h : Good g c) (hd : c ≤ d) : Good g d := ⟨h.size, h.few, fun f hf => by obtain ⟨a, b, e, k⟩ := h.file f hf; exact ⟨a, b, e, Nat.le_trans k hd⟩, h.ch, Nat.le_trans h.sure hd⟩
theorem Good.next {g : Lg} {c : Nat} (h : Good g c) : nextOf g.fs ≤ c := by
 rcases last_cases g.fs with e | ⟨a, x, e⟩
 ·rw [e]; simp [nextOf]
 ·rw [e, nextOf_snoc]; exact (h.file x (by rw [e]; simp)).2.2.2
theorem Good.sync {g : Lg} {c : Nat} (h : Good g c) : Good (syncL g) c := by
 have hn := h.next
 rcases last_cases g.fs with e | ⟨a, x, e⟩
 ·have : (syncL g).fs = [] := by simp [syncL, e, onLast]
  refine ⟨h.size, by rw [this]; simp, by rw [this]; simp, by rw [this]; trivial, by simp [syncL, e]; exact h.sure⟩
 ·have e2 : (syncL g).fs = a ++ [syncF x] := by simp only [syncL]; rw [e, onLast_snoc]
  refine ⟨h.size, by rw [e2]; have := h.few; rw [e] at this; simpa using this, ?_, ?_, ?_⟩
  ·intro f hf
   rw [e2, List.mem_append, List.mem_singleton] at hf
   rcases hf with hf | rfl
   ·exact h.file f (by rw [e]; simp [hf])
   ·obtain ⟨a1, a2, a3, a4⟩ := h.file x (by rw [e]; simp)
    exact ⟨a1, Nat.le_refl _, a3, a4⟩
  ·rw [e2]; exact chain_last a x _ rfl (by rw [← e]; exact h.ch)
  ·simp only [syncL]; rw [if_neg (by rw [e]; simp)]; exact hn
theorem Good.app {g : Lg} {c : Nat} (t : List UInt8) (h : Good g c) : Good (appL g t).1 (c + 1) := by
 have hn := h.next
 unfold appL
 split
 ·exact h.mono (by omega)
 split
 ·exact h.mono (by omega)
 rename_i h1 h2
 split
 ·rename_i h3
  rcases last_cases g.fs with e | ⟨a, x, e⟩
  ·simp [roomB, e] at h3
  ·simp only [roomB, e, List.getLast?_append, List.getLast?_singleton, Option.some_or, decide_eq_true_eq] at h3
   have hs := h.size
   obtain ⟨a1, a2, a3, a4⟩ := h.file x (by rw [e]; simp)
   refine ⟨h.size, ?_, ?_, ?_, by simp only; have := h.sure; omega⟩
   ·simp only; rw [e, onLast_snoc]; have := h.few; rw [e] at this; simpa using this
   ·simp only; rw [e, onLast_snoc]
    intro f hf
    rw [List.mem_append, List.mem_singleton] at hf
    rcases hf with hf | rfl
    ·obtain ⟨b1, b2, b3, b4⟩ := h.file f (by rw [e]; simp [hf])
     exact ⟨b1, b2, b3, by omega⟩
    ·simp only [putF, text_snoc, List.length_append, frame_len, Fl.next, List.length_singleton] at *
     refine ⟨by omega, by omega, ?_, by omega⟩
     intro t' ht'
     rw [List.mem_append, List.mem_singleton] at ht'
     rcases ht' with ht' | rfl
     ·exact a3 t' ht'
     ·omega
   ·simp only; rw [e, onLast_snoc]; exact chain_last a x _ rfl (by rw [← e]; exact h.ch)
 ·split
  ·exact h.mono (by omega)
  ·rename_i h4
   have hg := h.sync
   have hs := h.size
   have hl : (syncL g).fs.length = g.fs.length := by
    rcases last_cases g.fs with e | ⟨a, x, e⟩
    ·simp [syncL, e, onLast]
    ·simp only [syncL]; rw [e, onLast_snoc]; simp
   refine ⟨h.size, by simp only [List.length_append, List.length_singleton]; omega, ?_, ?_, by simp only; have := hg.sure; omega⟩
   ·intro f hf
    simp only [List.mem_append, List.mem_singleton] at hf
    rcases hf with hf | rfl
    ·obtain ⟨b1, b2, b3, b4⟩ := hg.file f hf
     exact ⟨b1, b2, b3, by omega⟩
    ·have e1 : (text [t]).length = 8 + t.length := by simp [text, frame_len]
     refine ⟨by rw [e1]; omega, by simp, ?_, by simp only [Fl.next, List.length_singleton]; omega⟩
     intro t' ht'
     rw [List.mem_singleton.1 ht']; omega
   ·simp only
    rcases last_cases g.fs with e | ⟨a, x, e⟩
    ·simp [syncL, e, onLast, chain]
    ·have e2 : (syncL g).fs = a ++ [syncF x] := by simp only [syncL]; rw [e, onLast_snoc]
     have hc := hg.ch
     rw [e2] at hc ⊢
     rw [List.append_assoc]
     refine (chain_append a _ _).2 ⟨hc, ?_⟩
     rw [e, nextOf_snoc]
     exact ⟨rfl, trivial⟩
theorem Good.crash {g : Lg} {c keep : Nat} (h : Good g c) : Good (crashL g keep) (c + 8192) := by
 rcases last_cases g.fs with e | ⟨a, x, e⟩
 ·have : (crashL g keep).fs = [] := by simp [crashL, e, onLast]
  refine ⟨h.size, by rw [this]; simp, by rw [this]; simp, by rw [this]; trivial, by simp [crashL, e]; have := h.sure; omega⟩
 ·have e2 : (crashL g keep).fs = a ++ [crashF x keep] := by simp only [crashL]; rw [e, onLast_snoc]
  obtain ⟨a1, a2, a3, a4⟩ := h.file x (by rw [e]; simp)
  obtain ⟨p1, p2, p3⟩ := prefixR_text _ (tear x.d keep) (Nat.le_refl _)
  obtain ⟨t1, t2⟩ := tear_length x.d keep a2
  have t3 : (tear x.d keep).length ≤ (text x.l).length := t2
  have p4 : (text (prefixR (tear x.d keep)).1).length = (prefixR (tear x.d keep)).2 := by rw [p1, List.length_take]; omega
  have p5 := text_len (prefixR (tear x.d keep)).1
  have hk : (crashF x keep).next ≤ c + 8192 := by simp only [crashF, Fl.next] at *; omega
  refine ⟨h.size, by rw [e2]; have := h.few; rw [e] at this; simpa using this, ?_, ?_, ?_⟩
  ·intro f hf
   rw [e2, List.mem_append, List.mem_singleton] at hf
   rcases hf with hf | rfl
   ·obtain ⟨b1, b2, b3, b4⟩ := h.file f (by rw [e]; simp [hf])
    exact ⟨b1, b2, b3, by omega⟩
   ·exact ⟨by simp only [crashF]; omega, by simp only [crashF]; omega, p3, hk⟩
  ·rw [e2]; exact chain_last a x _ rfl (by rw [← e]; exact h.ch)
  ·have : (crashL g keep).sure = (crashF x keep).next := by
    simp only [crashL]; rw [if_neg (by rw [e]; simp), e, onLast_snoc, nextOf_snoc]
   rw [this]; exact hk
theorem Good.drop {g : Lg} {c : Nat} (seq : Int) (h : Good g c) : Good (dropL g seq).1 c := by
 refine ⟨h.size, ?_, fun f hf => h.file f (List.mem_of_mem_drop hf), chain_drop _ _ h.ch, h.sure⟩
 simp only [dropL, List.length_drop]; have := h.few; omega
end Go.Proofs
/- How bytes lie in cells. -/
set_option autoImplicit false
namespace Go.Proofs
open Go.SL
def tB : Ty UInt8 := ⟨5, 1, fun b => [.int .u8 (b.toNat : Int)], fun _ => rfl, by decide, fun a v hv => by simp at hv; subst hv; rfl⟩
theorem tB_enc (b : UInt8) : tB.enc b = [.int .u8 (b.toNat : Int)] := rfl
instance : TyU Tryz.prog tB.e (.int .u8) := inferInstanceAs (TyU Tryz.prog 5 (.int .u8))
instance : TyI Tryz.prog tB.e 1 (.int .u8 0) 1 := inferInstanceAs (TyI Tryz.prog 5 1 (.int .u8 0) 1)
instance : TyU Tryz.prog 138 (.slice tB.e) := inferInstanceAs (TyU Tryz.prog 138 (.slice 5))
end Go.Proofs
/- A text's sum, walked. -/
set_option autoImplicit false
namespace Go.Proofs
open Go.SL
attribute [local irreducible] J JL QOp JOp seqQ blockQ loopQ retQ slc cel hex star pur stars Does RV Ent pAt
theorem more_ok (E : World) (c : Nat) (s : List UInt8) (hc : c < 2 ^ 32) (hs : s.length ≤ 1000000) : Does Tryz.prog E 97 [.int .u32 (c : Int), str s] [] fun v L => v = .int .u32 (crcMore c s : Int) ∧ L = [] := by
 refine Does.of Tryz.func97 rfl Tryz.ntmps97 rfl rfl fun F => ?_
 refine J.norm ?_
 refine Sr ?_
 refine Lq (Q_assign rfl) ?_
 refine Ln ?_
 refine J_seq ?_
 refine Sr ?_
 refine Lq (Q_move rfl) ?_
 refine L_o rfl rfl rfl (O_s2b tB_enc rfl rfl (by omega) (fun S => ?_))
 refine JL.norm ?_
 refine Lq (Q_lenAt 0 rfl rfl) ?_
 refine Lq (Q_move rfl) ?_
 refine Ln ?_
 refine J_block ?_
 refine J_loop (fun k => k ≤ s.length) (fun k => [(0, .int .u32 (crcMore c (s.take k) : Int)), (8, S.v), (9, .int .i64 (s.length : Int)), (10, .int .i64 (k : Int))])
  (fun _ => [slc tB true S s, F]) (fun k => s.length - k) 0 (by omega) ⟨rfl, rfl, rfl, rfl, trivial⟩ (Ent.refl _) ?_
 intro k hk
 refine Sr ?_
 refine Lq (Q_lss rfl rfl) ?_
 refine Ln ?_
 refine J_seq ?_
 refine J_condD rfl (fun h => ?_) (fun h => ?_)
 ·have hlt : k < s.length := by omega
  have hm := crcMore_lt (s.take k) c hc
  have hsucc := crcMore_take c s k hlt
  generalize crcMore c (s.take k) = m at hm hsucc ⊢
  have hb : s[k].toNat < 2 ^ 32 := by have := s[k].toNat_lt; omega
  refine J_skip ?_
  refine seqQ_normal ?_
  refine J_seq ?_
  refine J_block ?_
  refine Sr ?_
  refine Lq (Q_ixAt 0 k rfl rfl rfl rfl hlt rfl) ?_
  refine Lq (Q_ldEAt 0 k 0 (v := .int .u8 (s[k].toNat : Int)) rfl rfl rfl rfl hlt (by decide) rfl) ?_
  refine Lq (Q_assign rfl) ?_
  refine Ln ?_
  refine Sr ?_
  refine Lq (Q_move rfl) ?_
  refine Lq (Q_move rfl) ?_
  refine Lq (Q_cvt rfl (by first | exact IntWalk.i64_in _ (by omega) | exact IntWalk.u8_in _ (by omega) | exact IntWalk.u32_in _ (by omega) | exact IntWalk.u64_in _ (by omega) | rfl)) ?_
  refine Lq (Q_xorN m s[k].toNat rfl rfl rfl rfl hm hb) ?_
  refine Lq (Q_assign rfl) ?_
  refine Ln ?_
  refine Sr ?_
  refine Lq (Q_move rfl) ?_
  refine Ln ?_
  refine J_block ?_
  have hm1 : m ^^^ s[k].toNat < 2 ^ 32 := Nat.xor_lt_two_pow hm hb
  refine J_loop (fun i => i ≤ 8) (fun i => [(0, .int .u32 (crcN i (m ^^^ s[k].toNat) : Int)), (8, S.v), (9, .int .i64 (s.length : Int)), (10, .int .i64 (k : Int)), (18, .int .i64 (i : Int))])
   (fun _ => [slc tB true S s, F]) (fun i => 8 - i) 0 (by omega) ⟨rfl, rfl, rfl, rfl, rfl, trivial⟩ (Ent.refl _) ?_
  intro i hi
  refine Sr ?_
  refine Lq (Q_lss rfl rfl) ?_
  refine Ln ?_
  refine J_seq ?_
  refine J_condD rfl (fun h2 => ?_) (fun h2 => ?_)
  ·have hlt2 : i < 8 := by omega
   have hn := crcN_lt i _ hm1
   have hstep : crcN (i + 1) (m ^^^ s[k].toNat) = crcStep (crcN i (m ^^^ s[k].toNat)) := rfl
   generalize crcN i (m ^^^ s[k].toNat) = d at hn hstep ⊢
   by_cases ho : d % 2 = 1
   ·have e1 : (d &&& 1) = 1 := by rw [Nat.and_one_is_mod]; exact ho
    refine J_skip ?_
    refine seqQ_normal ?_
    refine J_seq ?_
    refine J_block ?_
    refine J_region ?_
    refine Lq (Q_move rfl) ?_
    refine Lq (Q_shrN d 1 rfl rfl rfl rfl (by decide)) ?_
    refine Lq (Q_move rfl) ?_
    refine Lq (Q_andN d 1 rfl rfl rfl rfl hn (by decide)) ?_
    refine Lq (Q_neg (r := 4294967295) rfl (by rw [e1]; rfl)) ?_
    refine Lq (Q_andN 2197175160 4294967295 rfl rfl rfl rfl (by decide) (by decide)) ?_
    refine Lq (Q_xorN (d / 2) 2197175160 rfl rfl rfl rfl (by show d / 2 < 2 ^ 32; omega) (by decide)) ?_
    refine Lq (Q_assign rfl) ?_
    refine JL_nil ?_
    refine blockQ_normal ?_
    refine seqQ_normal ?_
    refine J_region ?_
    refine Lq (Q_add rfl rfl (by first | exact IntWalk.i64_in _ (by omega) | exact IntWalk.u8_in _ (by omega) | exact IntWalk.u32_in _ (by omega) | exact IntWalk.u64_in _ (by omega) | rfl)) ?_
    refine Lq (Q_move rfl) ?_
    refine JL_nil ?_
    refine loopQ_normal (i + 1) (by omega) (by omega) ⟨?_, rfl, rfl, rfl, rfl, trivial⟩ (Ent.refl _)
    rw [hstep]; simp only [crcStep, if_pos ho]; rfl
   ·have ho : d % 2 = 0 := by omega
    have e1 : (d &&& 1) = 0 := by rw [Nat.and_one_is_mod]; exact ho
    refine J_skip ?_
    refine seqQ_normal ?_
    refine J_seq ?_
    refine J_block ?_
    refine J_region ?_
    refine Lq (Q_move rfl) ?_
    refine Lq (Q_shrN d 1 rfl rfl rfl rfl (by decide)) ?_
    refine Lq (Q_move rfl) ?_
    refine Lq (Q_andN d 1 rfl rfl rfl rfl hn (by decide)) ?_
    refine Lq (Q_neg (r := 0) rfl (by rw [e1]; rfl)) ?_
    refine Lq (Q_andN 2197175160 0 rfl rfl rfl rfl (by decide) (by decide)) ?_
    refine Lq (Q_xorN (d / 2) 0 rfl rfl rfl rfl (by show d / 2 < 2 ^ 32; omega) (by decide)) ?_
    refine Lq (Q_assign rfl) ?_
    refine JL_nil ?_
    refine blockQ_normal ?_
    refine seqQ_normal ?_
    refine J_region ?_
    refine Lq (Q_add rfl rfl (by first | exact IntWalk.i64_in _ (by omega) | exact IntWalk.u8_in _ (by omega) | exact IntWalk.u32_in _ (by omega) | exact IntWalk.u64_in _ (by omega) | rfl)) ?_
    refine Lq (Q_move rfl) ?_
    refine JL_nil ?_
    refine loopQ_normal (i + 1) (by omega) (by omega) ⟨?_, rfl, rfl, rfl, rfl, trivial⟩ (Ent.refl _)
    rw [hstep]; simp only [crcStep, if_neg (show ¬ d % 2 = 1 by omega)]; rfl
  ·obtain rfl : i = 8 := by omega
   refine J_exit ?_
   refine seqQ_exit ?_
   refine loopQ_exit ?_
   refine blockQ_hit ?_
   refine blockQ_normal ?_
   refine seqQ_normal ?_
   refine J_region ?_
   refine Lq (Q_add rfl rfl (by first | exact IntWalk.i64_in _ (by omega) | exact IntWalk.u8_in _ (by omega) | exact IntWalk.u32_in _ (by omega) | exact IntWalk.u64_in _ (by omega) | rfl)) ?_
   refine Lq (Q_move rfl) ?_
   refine JL_nil ?_
   refine loopQ_normal (k + 1) hlt (by omega) ⟨?_, rfl, rfl, rfl, trivial⟩ (Ent.refl _)
   rw [hsucc]; rfl
 ·obtain rfl : k = s.length := by omega
  refine J_exit ?_
  refine seqQ_exit ?_
  refine loopQ_exit ?_
  refine blockQ_hit ?_
  refine seqQ_normal ?_
  refine Sr ?_
  refine Lq (Q_move rfl) ?_
  refine Lq (Q_assign rfl) ?_
  refine Ln ?_
  refine J_ret ?_
  exact retQ_ret _ [] (.cons (RV_tmp rfl) .nil) ⟨by rw [List.take_length]; rfl, rfl⟩ (Ent.re [1] rfl)
theorem sum_ok (E : World) (s : List UInt8) (hs : s.length ≤ 1000000) : Does Tryz.prog E 71 [str s] [] fun v L => v = .int .u32 (crc s : Int) ∧ L = [] := by
 have hm := crcMore_lt s 4294967295 (by decide)
 refine Does.of Tryz.func71 rfl Tryz.ntmps71 rfl rfl fun F => ?_
 refine J.norm ?_
 refine Sr ?_
 refine Lq (Q_assign rfl) ?_
 refine Ln ?_
 refine Sr ?_
 refine Lq (Q_move rfl) ?_
 refine L_o rfl rfl rfl (O_call [] [0] (more_ok E 4294967295 s (by decide) hs) rfl rfl ?_)
 rintro _ _ ⟨rfl, rfl⟩
 refine JL.norm ?_
 refine Lq (Q_compl (crcMore 4294967295 s) rfl rfl hm rfl) ?_
 refine Lq (Q_assign rfl) ?_
 refine Ln ?_
 refine J_ret ?_
 exact retQ_ret _ [] (.cons (RV_tmp rfl) .nil) ⟨rfl, rfl⟩ (Ent.refl _)
end Go.Proofs
/- Shifts of whole numbers that are not below zero. -/
set_option autoImplicit false
namespace Go.SL
section
variable {P : Program} {E : World} {n : Nat} {ρ : Env} {L : List HProp} {dst : Option Tmp} {ty : TypeId} {pos : String} {after : Array Edge} {g : Option (Nat × Bool)} {t t' : Nat} {x y : Operand} {k k' : IntKind} {za zb : Int}
theorem Q_shrZ (a j : Nat) (hx : ρ.ev x = some (.int k za)) (hy : ρ.ev y = some (.int k' zb)) (ha : za = (a : Int)) (hb : zb = (j : Int)) (hj : j ≤ k.bits) :
 QOp P E n ⟨dst, .binOp .shr t x y t', ty, pos, after, g⟩ ρ L (.int k ((a / 2 ^ j : Nat) : Int)) := by
 subst ha hb
 refine Q_shr hx hy (by omega) ?_
 rw [Int.toNat_natCast, Nat.min_eq_left hj, Int.fdiv_eq_ediv_of_nonneg _ (by exact_mod_cast Nat.zero_le _)]
 simp
theorem Q_shlZ (a j : Nat) (hx : ρ.ev x = some (.int .i64 za)) (hy : ρ.ev y = some (.int k' zb)) (ha : za = (a : Int)) (hb : zb = (j : Int)) (hj : j ≤ 64) (h : a * 2 ^ j < 9223372036854775808) :
 QOp P E n ⟨dst, .binOp .shl t x y t', ty, pos, after, g⟩ ρ L (.int .i64 ((a * 2 ^ j : Nat) : Int)) := by
 subst ha hb
 refine Q_shl hx hy (by omega) ?_
 rw [Int.toNat_natCast, Nat.min_eq_left (show j ≤ IntKind.i64.bits from hj)]
 have e : ((a : Int) * 2 ^ j) = ((a * 2 ^ j : Nat) : Int) := by simp
 rw [e]
 exact IntWalk.i64_in _ (by omega)
theorem Q_orZ (a b : Nat) (hx : ρ.ev x = some (.int .i64 za)) (hy : ρ.ev y = some (.int .i64 zb)) (ha : za = (a : Int)) (hb : zb = (b : Int)) (h1 : a < 2 ^ 63) (h2 : b < 2 ^ 63) :
 QOp P E n ⟨dst, .binOp .or t x y t', ty, pos, after, g⟩ ρ L (.int .i64 ((a ||| b : Nat) : Int)) := by
 subst ha hb
 refine Q_or hx hy ?_
 have h3 : a ||| b < 2 ^ 63 := Nat.or_lt_two_pow h1 h2
 show IntKind.i64.wrap ((BitVec.ofInt 64 _ ||| BitVec.ofInt 64 _).toNat : Int) = _
 rw [BitVec.ofInt_natCast, BitVec.ofInt_natCast, BitVec.toNat_or, BitVec.toNat_ofNat, BitVec.toNat_ofNat, Nat.mod_eq_of_lt (by omega), Nat.mod_eq_of_lt (by omega)]
 exact IntWalk.i64_in _ (by omega)
end
end Go.SL
/- Texts one behind the other, walked. -/
set_option autoImplicit false
namespace Go.Proofs
open Go.SL
attribute [local irreducible] J JL QOp JOp seqQ blockQ loopQ retQ slc cel hex star pur stars Does RV Ent pAt
def tS : Ty (List UInt8) := ⟨9, 1, fun s => [str s], fun _ => rfl, by decide, fun a v hv => by simp at hv; subst hv; rfl⟩
instance : TyU Tryz.prog tS.e .string := inferInstanceAs (TyU Tryz.prog 9 .string)
instance : TyI Tryz.prog tS.e 1 (.string ⟨#[]⟩) 16 := inferInstanceAs (TyI Tryz.prog 9 1 (.string ⟨#[]⟩) 16)
instance : TyU Tryz.prog 26 (.slice tS.e) := inferInstanceAs (TyU Tryz.prog 26 (.slice 9))
theorem wtext_ok (E : World) (s : List UInt8) (hs : s.length ≤ 100000000) : Does Tryz.prog E 98 [str s] [] fun v L => v = str (four s.length ++ s) ∧ L = [] := by
 refine Does.of Tryz.func98 rfl Tryz.ntmps98 rfl rfl fun F => ?_
 refine J.norm ?_
 refine Sr ?_
 refine Lq (Q_assign rfl) ?_
 refine Ln ?_
 refine Sr ?_
 refine Lq (Q_move rfl) ?_
 refine Lq (Q_slen rfl) ?_
 refine Lq (Q_assign rfl) ?_
 refine Ln ?_
 refine Sr ?_
 refine Lq (Q_move rfl) ?_
 refine Lq (Q_shrZ s.length 24 rfl rfl rfl rfl (by decide)) ?_
 refine Lq (Q_cvtN (s.length / 2 ^ 24) rfl rfl) ?_
 refine Lq (Q_move rfl) ?_
 refine Lq (Q_shrZ s.length 16 rfl rfl rfl rfl (by decide)) ?_
 refine Lq (Q_cvtN (s.length / 2 ^ 16) rfl rfl) ?_
 refine Lq (Q_move rfl) ?_
 refine Lq (Q_shrZ s.length 8 rfl rfl rfl rfl (by decide)) ?_
 refine Lq (Q_cvtN (s.length / 2 ^ 8) rfl rfl) ?_
 refine Lq (Q_move rfl) ?_
 refine Lq (Q_cvtN s.length rfl rfl) ?_
 refine L_o rfl rfl rfl (O_litP (τ := tB) (m := 4) (sz := 1) (four s.length) rfl rfl rfl rfl rfl rfl (by decide) (fun S => ?_))
 refine JL.norm ?_
 refine Lq (Q_b2s tB_enc (fun w h => h.rd 0 rfl) rfl) ?_
 refine Lq (Q_move rfl) ?_
 refine Lq (Q_sadd rfl rfl (by simp [four]; omega)) ?_
 refine Lq (Q_assign rfl) ?_
 refine Ln ?_
 refine J_ret ?_
 exact retQ_ret _ [] (.cons (RV_tmp rfl) .nil) ⟨rfl, rfl⟩ (Ent.re [1] rfl)
theorem wtexts_ok (E : World) (full : Bool) (S : SV) (l : List (List UInt8)) (hl : l.length ≤ 100000000) (hs : (texts l).length ≤ 100000000) : Does Tryz.prog E 72 [S.v] [slc tS full S l] fun v L => v = str (texts l) ∧ L = [slc tS full S l] := by
 refine Does.of Tryz.func72 rfl Tryz.ntmps72 rfl rfl fun F => ?_
 refine J.norm ?_
 refine Sr ?_
 refine Lq (Q_assign rfl) ?_
 refine Ln ?_
 refine Sr ?_
 refine Lq (Q_assign rfl) ?_
 refine Ln ?_
 refine J_seq ?_
 refine Sr ?_
 refine Lq (Q_move rfl) ?_
 refine Lq (Q_lenAt 0 rfl rfl) ?_
 refine Lq (Q_move rfl) ?_
 refine Ln ?_
 refine J_block ?_
 refine J.ent (Ent.mk fun _ _ h => (h.lay_nil tB true : Sat _ _ (slc tB true SV.nil [] :: _))) ?_
 refine J_loop (fun i : Nat × SV => i.1 ≤ l.length) (fun i => [(3, i.2.v), (6, S.v), (7, .int .i64 (l.length : Int)), (8, .int .i64 (i.1 : Int))])
  (fun i => [slc tB true i.2 (texts (l.take i.1)), slc tS full S l, F]) (fun i => l.length - i.1) (0, SV.nil) (by simp) ⟨rfl, rfl, rfl, rfl, trivial⟩ (Ent.refl _) ?_
 rintro ⟨k, B⟩ hk
 simp only at hk
 refine Sr ?_
 refine Lq (Q_lss rfl rfl) ?_
 refine Ln ?_
 refine J_seq ?_
 refine J_condD rfl (fun h => ?_) (fun h => ?_)
 ·have hlt : k < l.length := by omega
  have h1 := texts_succ l k hlt
  have h2 := texts_le l (k + 1)
  have h3 : (texts (l.take k)).length + (4 + l[k].length) ≤ (texts l).length := by
   rw [h1] at h2; simp [four] at h2; omega
  refine J_skip ?_
  refine seqQ_normal ?_
  refine J_seq ?_
  refine J_block ?_
  refine Sr ?_
  refine Lq (Q_ixAt 1 k rfl rfl rfl rfl hlt rfl) ?_
  refine Lq (Q_ldEAt 1 k 0 (v := str l[k]) rfl rfl rfl rfl hlt (by decide) rfl) ?_
  refine Lq (Q_assign rfl) ?_
  refine Ln ?_
  refine J_region ?_
  refine Lq (Q_move rfl) ?_
  refine Lq (Q_move rfl) ?_
  refine L_o rfl rfl rfl (O_call [] [0,1,2] (wtext_ok E l[k] (by omega)) rfl rfl ?_)
  rintro _ _ ⟨rfl, rfl⟩
  refine JL.norm ?_
  refine L_o rfl rfl rfl (O_appS tB_enc 0 rfl rfl rfl rfl rfl (by simp [four]; omega) (by decide) (fun B' => ?_))
  refine JL.norm ?_
  refine Lq (Q_assign rfl) ?_
  refine JL_nil ?_
  refine blockQ_normal ?_
  refine seqQ_normal ?_
  refine J_region ?_
  refine Lq (Q_add rfl rfl (by first | exact IntWalk.i64_in _ (by omega) | exact IntWalk.u8_in _ (by omega) | exact IntWalk.u32_in _ (by omega) | exact IntWalk.u64_in _ (by omega) | rfl)) ?_
  refine Lq (Q_move rfl) ?_
  refine JL_nil ?_
  exact loopQ_normal (k + 1, B') hlt (by simp; omega) ⟨rfl, rfl, rfl, rfl, trivial⟩ (by simp only; rw [h1]; exact Ent.refl _)
 ·obtain rfl : k = l.length := by omega
  refine J_exit ?_
  refine seqQ_exit ?_
  refine loopQ_exit ?_
  refine blockQ_hit ?_
  refine seqQ_normal ?_
  refine Sr ?_
  refine Lq (Q_move rfl) ?_
  refine Lq (Q_b2s tB_enc (fun w h => h.rd 0 rfl) rfl) ?_
  refine Lq (Q_assign rfl) ?_
  refine Ln ?_
  refine J_ret ?_
  exact retQ_ret _ [slc tS full S l] (.cons (RV_tmp rfl) .nil) ⟨by rw [List.take_length]; rfl, rfl⟩ (Ent.re [1,2] rfl)
end Go.Proofs
/- The document's sum, walked. -/
set_option autoImplicit false
namespace Go.Proofs
open Go.SL
attribute [local irreducible] J JL QOp JOp seqQ blockQ loopQ retQ slc cel hex star pur stars Does RV Ent pAt
end Go.Proofs
/- Records, walked. -/
set_option autoImplicit false
namespace Go.Proofs
open Go.SL
attribute [local irreducible] J JL QOp JOp seqQ blockQ loopQ retQ slc cel hex star pur stars Does RV Ent pAt
theorem fourr_ok (E : World) (n : Nat) : Does Tryz.prog E 110 [.int .u32 (n : Int)] [] fun v L => v = str (four n) ∧ L = [] := by
 refine Does.of Tryz.func110 rfl Tryz.ntmps110 rfl rfl fun F => ?_
 refine J.norm ?_
 refine Sr ?_
 refine Lq (Q_assign rfl) ?_
 refine Ln ?_
 refine Sr ?_
 refine Lq (Q_move rfl) ?_
 refine Lq (Q_shrN n 24 rfl rfl rfl rfl (by decide)) ?_
 refine Lq (Q_cvtN (n / 2 ^ 24) rfl rfl) ?_
 refine Lq (Q_move rfl) ?_
 refine Lq (Q_shrN n 16 rfl rfl rfl rfl (by decide)) ?_
 refine Lq (Q_cvtN (n / 2 ^ 16) rfl rfl) ?_
 refine Lq (Q_move rfl) ?_
 refine Lq (Q_shrN n 8 rfl rfl rfl rfl (by decide)) ?_
 refine Lq (Q_cvtN (n / 2 ^ 8) rfl rfl) ?_
 refine Lq (Q_move rfl) ?_
 refine Lq (Q_cvtN n rfl rfl) ?_
 refine L_o rfl rfl rfl (O_litP (τ := tB) (m := 4) (sz := 1) (four n) rfl rfl rfl rfl rfl rfl (by decide) (fun S => ?_))
 refine JL.norm ?_
 refine Lq (Q_b2s tB_enc (fun w h => h.rd 0 rfl) rfl) ?_
 refine Lq (Q_assign rfl) ?_
 refine Ln ?_
 refine J_ret ?_
 exact retQ_ret _ [] (.cons (RV_tmp rfl) .nil) ⟨rfl, rfl⟩ (Ent.re [1] rfl)
theorem number_ok (E : World) (s : List UInt8) (hl : 4 ≤ s.length) : Does Tryz.prog E 118 [str s] [] fun v L => v = .int .u32 (be (s.take 4) : Int) ∧ L = [] := by
 have g0 := s[0].toNat_lt
 have g1 := s[1].toNat_lt
 have g2 := s[2].toNat_lt
 have g3 := s[3].toNat_lt
 have hor := or4 s[0].toNat s[1].toNat s[2].toNat s[3].toNat g1 g2 g3
 rw [← be4 s hl] at hor
 have k1 : s[0].toNat * 2 ^ 24 < 2 ^ 32 := Nat.lt_of_lt_of_le (Nat.mul_lt_mul_of_pos_right g0 (by decide)) (by decide)
 have k2 : s[1].toNat * 2 ^ 16 < 2 ^ 32 := Nat.lt_of_lt_of_le (Nat.mul_lt_mul_of_pos_right g1 (by decide)) (by decide)
 have k3 : s[2].toNat * 2 ^ 8 < 2 ^ 32 := Nat.lt_of_lt_of_le (Nat.mul_lt_mul_of_pos_right g2 (by decide)) (by decide)
 have k4 : s[0].toNat * 2 ^ 24 ||| s[1].toNat * 2 ^ 16 < 2 ^ 32 := Nat.or_lt_two_pow k1 k2
 have k5 : s[0].toNat * 2 ^ 24 ||| s[1].toNat * 2 ^ 16 ||| s[2].toNat * 2 ^ 8 < 2 ^ 32 := Nat.or_lt_two_pow k4 k3
 have c : ∀ m : Nat, m < 256 → m % 2 ^ 32 = m := fun m h => Nat.mod_eq_of_lt (Nat.lt_of_lt_of_le h (by decide))
 have d : ∀ m : Nat, m < 2 ^ 32 → Value.int .u32 ((m % 2 ^ IntKind.u32.bits : Nat) : Int) = .int .u32 (m : Int) := fun m h => by rw [show IntKind.u32.bits = 32 from rfl, Nat.mod_eq_of_lt h]
 have d2 : ∀ m : Nat, m < 256 → Value.int .u32 ((m % 2 ^ IntKind.u32.bits : Nat) : Int) = .int .u32 (m : Int) := fun m h => d m (Nat.lt_of_lt_of_le h (by decide))
 refine Does.of Tryz.func118 rfl Tryz.ntmps118 rfl rfl fun F => ?_
 refine J.norm ?_
 refine Sr ?_
 refine Lq (Q_assign rfl) ?_
 refine Ln ?_
 refine J_seq ?_
 refine DL [0,1,2,3,4,5,6,7,8,9,10,11,12,13,14,15,16,17,18] (.quiet 0 (.quiet 1 (.quiet 2 (.quiet 3 (.quiet 4 (.quiet 5 (.quiet 6 (.quiet 7 (.quiet 8 (.quiet 9 (.quiet 10 (.quiet 11 (.quiet 12 (.quiet 13 (.quiet 14 (.quiet 15 (.quiet 16 (.quiet 17 (.quiet 18 .done))))))))))))))))))) Tryz.mixed ?_
 refine Sq (Ent.refl _) rfl (Q_move rfl) ?_
 refine Sq (Ent.refl _) rfl (Q_sindex 0 rfl rfl rfl (by omega)) ?_
 refine Sq (Ent.refl _) rfl ((Q_cvtN s[0].toNat rfl rfl).as (d2 _ g0)) ?_
 refine Sq (Ent.refl _) rfl ((Q_shlN s[0].toNat 24 rfl rfl rfl rfl (by decide)).as (d _ k1)) ?_
 refine Sq (Ent.refl _) rfl (Q_move rfl) ?_
 refine Sq (Ent.refl _) rfl (Q_sindex 1 rfl rfl rfl (by omega)) ?_
 refine Sq (Ent.refl _) rfl ((Q_cvtN s[1].toNat rfl rfl).as (d2 _ g1)) ?_
 refine Sq (Ent.refl _) rfl ((Q_shlN s[1].toNat 16 rfl rfl rfl rfl (by decide)).as (d _ k2)) ?_
 refine Sq (Ent.refl _) rfl (Q_orN _ _ rfl rfl rfl rfl k1 k2) ?_
 refine Sq (Ent.refl _) rfl (Q_move rfl) ?_
 refine Sq (Ent.refl _) rfl (Q_sindex 2 rfl rfl rfl (by omega)) ?_
 refine Sq (Ent.refl _) rfl ((Q_cvtN s[2].toNat rfl rfl).as (d2 _ g2)) ?_
 refine Sq (Ent.refl _) rfl ((Q_shlN s[2].toNat 8 rfl rfl rfl rfl (by decide)).as (d _ k3)) ?_
 refine Sq (Ent.refl _) rfl (Q_orN _ _ rfl rfl rfl rfl k4 k3) ?_
 refine Sq (Ent.refl _) rfl (Q_move rfl) ?_
 refine Sq (Ent.refl _) rfl (Q_sindex 3 rfl rfl rfl (by omega)) ?_
 refine Sq (Ent.refl _) rfl ((Q_cvtN s[3].toNat rfl rfl).as (d2 _ g3)) ?_
 refine Sq (Ent.refl _) rfl ((Q_orN _ s[3].toNat rfl rfl rfl rfl k5 (Nat.lt_of_lt_of_le g3 (by decide))).as (v' := .int .u32 (be (s.take 4) : Int)) (by rw [hor])) ?_
 refine Sq (Ent.refl _) rfl (Q_assign rfl) ?_
 refine S_nil ?_
 refine seqQ_normal ?_
 refine J_ret ?_
 exact retQ_ret _ [] (.cons (RV_tmp rfl) .nil) ⟨rfl, rfl⟩ (Ent.refl _)
def frameV (t : List UInt8) : Value := if 4096 < t.length then .tuple #[str [], .int .i64 2] else .tuple #[str (frame t), .int .i64 0]
theorem frame_ok (E : World) (t : List UInt8) : Does Tryz.prog E 88 [str t] [] fun v L => v = frameV t ∧ L = [] := by
 refine Does.of Tryz.func88 rfl Tryz.ntmps88 rfl rfl fun F => ?_
 refine J.norm ?_
 refine Sr ?_
 refine Lq (Q_assign rfl) ?_
 refine Lq (Q_assign rfl) ?_
 refine Ln ?_
 refine J_seq ?_
 refine Sr ?_
 refine Lq (Q_move rfl) ?_
 refine Lq (Q_slen rfl) ?_
 refine Lq (Q_gtr rfl rfl) ?_
 refine Ln ?_
 refine J_condD rfl (fun h => ?_) (fun h => ?_)
 ·rw [show frameV t = .tuple #[str [], .int .i64 2] by unfold frameV; rw [if_pos (by omega)]]
  refine Sr ?_
  refine Lq (Q_assign rfl) ?_
  refine Lq (Q_assign rfl) ?_
  refine Ln ?_
  refine J_ret ?_
  refine seqQ_ret ?_
  exact retQ_ret _ [] (.cons (RV_tmp rfl) (.cons (RV_tmp rfl) .nil)) ⟨rfl, rfl⟩ (Ent.refl _)
 ·rw [show frameV t = .tuple #[str (frame t), .int .i64 0] by unfold frameV; rw [if_neg (by omega)]]
  have ht : t.length ≤ 4096 := by omega
  have f4 : ∀ n, (four n).length = 4 := fun _ => rfl
  have h1 : crcMore (crcMore 4294967295 (four t.length)) t < 2 ^ 32 := crcMore_lt _ _ (crcMore_lt _ _ (by decide))
  have h2 : 4294967295 ^^^ crcMore (crcMore 4294967295 (four t.length)) t = crc (four t.length ++ t) := by unfold crc; rw [crcMore_append]
  refine J_skip ?_
  refine seqQ_normal ?_
  refine Sr ?_
  refine Lq (Q_move rfl) ?_
  refine Lq (Q_slen rfl) ?_
  refine Lq (Q_cvtN t.length rfl rfl) ?_
  refine L_o rfl rfl rfl (O_call [] [0] (fourr_ok E (t.length % 2 ^ 32)) rfl rfl ?_)
  rintro _ _ ⟨rfl, rfl⟩
  refine JL.norm ?_
  refine Lq (Q_assign rfl) ?_
  refine Ln ?_
  refine J_seq ?_
  rw [Nat.mod_eq_of_lt (a := t.length) (by omega)]
  refine J_region ?_
  refine Lq (Q_move rfl) ?_
  refine Lq (Q_move rfl) ?_
  refine L_o rfl rfl rfl (O_call [] [0] (more_ok E 4294967295 (four t.length) (by decide) (by simp [four])) rfl rfl ?_)
  rintro _ _ ⟨rfl, rfl⟩
  refine JL.norm ?_
  refine Lq (Q_move rfl) ?_
  refine L_o rfl rfl rfl (O_call [] [0] (more_ok E (crcMore 4294967295 (four t.length)) t (crcMore_lt _ _ (by decide)) (by omega)) rfl rfl ?_)
  rintro _ _ ⟨rfl, rfl⟩
  refine JL.norm ?_
  refine Lq (Q_compl (crcMore (crcMore 4294967295 (four t.length)) t) rfl rfl h1 rfl) ?_
  refine L_o rfl rfl rfl (O_call [] [0] (fourr_ok E (4294967295 ^^^ crcMore (crcMore 4294967295 (four t.length)) t)) rfl rfl ?_)
  rintro _ _ ⟨rfl, rfl⟩
  refine JL.norm ?_
  refine Lq (Q_sadd rfl rfl (by rw [f4, f4]; decide)) ?_
  refine Lq (Q_move rfl) ?_
  refine Lq (Q_sadd rfl rfl (by rw [List.length_append, f4, f4]; omega)) ?_
  refine Lq (Q_assign rfl) ?_
  refine Lq (Q_assign rfl) ?_
  refine Ln ?_
  refine J_ret ?_
  exact retQ_ret _ [] (.cons (RV_tmp rfl) (.cons (RV_tmp rfl) .nil)) ⟨by rw [h2]; rfl, rfl⟩ (Ent.refl _)
def recV (s : List UInt8) : Value := .tuple #[str (recNext s).1, .int .i64 ((recNext s).2.1 : Int), .int .i64 (recNext s).2.2]
theorem next_ok (E : World) (s : List UInt8) (hs : s.length ≤ 100000000) : Does Tryz.prog E 103 [str s] [] fun v L => v = recV s ∧ L = [] := by
 refine Does.of Tryz.func103 rfl Tryz.ntmps103 rfl rfl fun F => ?_
 refine J.norm ?_
 refine Sr ?_
 refine Lq (Q_assign rfl) ?_
 refine Lq (Q_assign rfl) ?_
 refine Lq (Q_assign rfl) ?_
 refine Ln ?_
 refine J_seq ?_
 refine Sr ?_
 refine Lq (Q_move rfl) ?_
 refine Lq (Q_slen rfl) ?_
 refine Lq (Q_lss rfl rfl) ?_
 refine Ln ?_
 refine J_condD rfl (fun h => ?_) (fun h => ?_)
 ·rw [show recV s = .tuple #[str [], .int .i64 0, .int .i64 2] by unfold recV recNext; rw [if_pos (by omega)]; rfl]
  refine Sr ?_
  refine Lq (Q_assign rfl) ?_
  refine Lq (Q_assign rfl) ?_
  refine Lq (Q_assign rfl) ?_
  refine Ln ?_
  refine J_ret ?_
  refine seqQ_ret ?_
  exact retQ_ret _ [] (.cons (RV_tmp rfl) (.cons (RV_tmp rfl) (.cons (RV_tmp rfl) .nil))) ⟨rfl, rfl⟩ (Ent.refl _)
 have hb := be_lt4 (s.take 4) 4 (by simp; omega)
 refine J_skip ?_
 refine seqQ_normal ?_
 refine Sr ?_
 refine Lq (Q_move rfl) ?_
 refine L_o rfl rfl rfl (O_call [] [0] (number_ok E s (by omega)) rfl rfl ?_)
 rintro _ _ ⟨rfl, rfl⟩
 refine JL.norm ?_
 refine Lq (Q_assign rfl) ?_
 refine Ln ?_
 refine J_seq ?_
 refine Sr ?_
 refine Lq (Q_move rfl) ?_
 refine Lq (Q_gtr rfl rfl) ?_
 refine Ln ?_
 refine J_condD rfl (fun h1 => ?_) (fun h1 => ?_)
 ·rw [show recV s = .tuple #[str [], .int .i64 0, .int .i64 3] by unfold recV recNext; rw [if_neg (by omega), if_pos (by omega)]; rfl]
  refine Sr ?_
  refine Lq (Q_assign rfl) ?_
  refine Lq (Q_assign rfl) ?_
  refine Lq (Q_assign rfl) ?_
  refine Ln ?_
  refine J_ret ?_
  refine seqQ_ret ?_
  exact retQ_ret _ [] (.cons (RV_tmp rfl) (.cons (RV_tmp rfl) (.cons (RV_tmp rfl) .nil))) ⟨rfl, rfl⟩ (Ent.refl _)
 have h1' : be (s.take 4) ≤ 4096 := by omega
 refine J_skip ?_
 refine seqQ_normal ?_
 refine Sr ?_
 refine Lq (Q_move rfl) ?_
 refine Lq (Q_cvt rfl (by first | exact IntWalk.i64_in _ (by omega) | exact IntWalk.u8_in _ (by omega) | exact IntWalk.u32_in _ (by omega) | exact IntWalk.u64_in _ (by omega) | rfl)) ?_
 refine Lq (Q_add rfl rfl (by first | exact IntWalk.i64_in _ (by omega) | exact IntWalk.u8_in _ (by omega) | exact IntWalk.u32_in _ (by omega) | exact IntWalk.u64_in _ (by omega) | rfl)) ?_
 refine Lq (Q_assign rfl) ?_
 refine Ln ?_
 refine J_seq ?_
 refine Sr ?_
 refine Lq (Q_move rfl) ?_
 refine Lq (Q_slen rfl) ?_
 refine Lq (Q_move rfl) ?_
 refine Lq (Q_lss rfl rfl) ?_
 refine Ln ?_
 refine J_condD rfl (fun h2 => ?_) (fun h2 => ?_)
 ·rw [show recV s = .tuple #[str [], .int .i64 0, .int .i64 2] by unfold recV recNext; rw [if_neg (by omega), if_neg (by omega), if_pos (by omega)]; rfl]
  refine Sr ?_
  refine Lq (Q_assign rfl) ?_
  refine Lq (Q_assign rfl) ?_
  refine Lq (Q_assign rfl) ?_
  refine Ln ?_
  refine J_ret ?_
  refine seqQ_ret ?_
  exact retQ_ret _ [] (.cons (RV_tmp rfl) (.cons (RV_tmp rfl) (.cons (RV_tmp rfl) .nil))) ⟨rfl, rfl⟩ (Ent.refl _)
 have h2' : 8 + be (s.take 4) ≤ s.length := by omega
 have c1 : crcMore 4294967295 (s.take 4) < 2 ^ 32 := crcMore_lt _ _ (by decide)
 have c2 : crcMore (crcMore 4294967295 (s.take 4)) ((s.take (8 + be (s.take 4))).drop 8) < 2 ^ 32 := crcMore_lt _ _ c1
 have c3 : 4294967295 ^^^ crcMore (crcMore 4294967295 (s.take 4)) ((s.take (8 + be (s.take 4))).drop 8) = crc (s.take 4 ++ (s.take (8 + be (s.take 4))).drop 8) := by unfold crc; rw [crcMore_append]
 refine J_skip ?_
 refine seqQ_normal ?_
 refine J_seq ?_
 refine Sr ?_
 refine Lq (Q_move rfl) ?_
 refine Lq (Q_move rfl) ?_
 refine Lq (Q_ssLH 8 (8 + be (s.take 4)) rfl rfl rfl rfl (by omega) (by omega) h2') ?_
 refine Lq (Q_assign rfl) ?_
 refine Ln ?_
 refine J_seq ?_
 refine DL [0,1,3,5,6,7,9] (.quiet 0 (.quiet 1 (.quiet 3 (.quiet 6 (.quiet 7 (.loud 2 (.loud 4 (.quiet 5 (.loud 8 (.quiet 9 .done)))))))))) Tryz.mixed ?_
 refine Sq (Ent.refl _) rfl (Q_move rfl) ?_
 refine Sq (Ent.refl _) rfl (Q_ssH 4 rfl rfl rfl (by omega)) ?_
 refine Sq (Ent.refl _) rfl (Q_move rfl) ?_
 refine Sq (Ent.refl _) rfl (Q_move rfl) ?_
 refine Sq (Ent.refl _) rfl (Q_ssL 4 rfl rfl rfl (by omega)) ?_
 refine S_o rfl rfl rfl rfl (O_call [] [0] (more_ok E 4294967295 (s.take 4) (by decide) (by simp; omega)) rfl rfl ?_)
 (rintro _ _ ⟨rfl, rfl⟩; refine ⟨_, fun _ => ⟨Ent.nrm, Ent.refl _⟩, ?_⟩)
 refine JS.norm ?_
 refine S_o rfl rfl rfl rfl (O_call [] [0] (more_ok E _ _ c1 (by simp; omega)) rfl rfl ?_)
 (rintro _ _ ⟨rfl, rfl⟩; refine ⟨_, fun _ => ⟨Ent.nrm, Ent.refl _⟩, ?_⟩)
 refine JS.norm ?_
 refine Sq (Ent.refl _) rfl ((Q_compl (k := .u32) (crcMore (crcMore 4294967295 (s.take 4)) ((s.take (8 + be (s.take 4))).drop 8)) rfl rfl c2 rfl).as (congrArg (fun z : Nat => Value.int .u32 (z : Int)) c3)) ?_
 refine S_o rfl rfl rfl rfl (O_call [] [0] (number_ok E (s.drop 4) (by simp; omega)) rfl rfl ?_)
 (rintro _ _ ⟨rfl, rfl⟩; refine ⟨_, fun _ => ⟨Ent.nrm, Ent.refl _⟩, ?_⟩)
 refine JS.norm ?_
 refine Sq (Ent.refl _) rfl (Q_eql rfl rfl) ?_
 refine S_nil ?_
 refine seqQ_normal ?_
 refine J_condD rfl (fun h3 => ?_) (fun h3 => ?_)
 ·rw [show recV s = .tuple #[str ((s.take (8 + be (s.take 4))).drop 8), .int .i64 ((8 + be (s.take 4) : Nat) : Int), .int .i64 0] by unfold recV recNext; rw [if_neg (by omega), if_neg (by omega), if_neg (by omega), if_pos (by omega)]]
  refine Sr ?_
  refine Lq (Q_move rfl) ?_
  refine Lq (Q_move rfl) ?_
  refine Lq (Q_assign rfl) ?_
  refine Lq (Q_assign rfl) ?_
  refine Lq (Q_assign rfl) ?_
  refine Ln ?_
  refine J_ret ?_
  refine seqQ_ret ?_
  exact retQ_ret _ [] (.cons (RV_tmp rfl) (.cons (RV_tmp rfl) (.cons (RV_tmp rfl) .nil))) ⟨rfl, rfl⟩ (Ent.refl _)
 ·rw [show recV s = .tuple #[str [], .int .i64 0, .int .i64 4] by unfold recV recNext; rw [if_neg (by omega), if_neg (by omega), if_neg (by omega), if_neg (by omega)]; rfl]
  refine J_skip ?_
  refine seqQ_normal ?_
  refine Sr ?_
  refine Lq (Q_assign rfl) ?_
  refine Lq (Q_assign rfl) ?_
  refine Lq (Q_assign rfl) ?_
  refine Ln ?_
  refine J_ret ?_
  exact retQ_ret _ [] (.cons (RV_tmp rfl) (.cons (RV_tmp rfl) (.cons (RV_tmp rfl) .nil))) ⟨rfl, rfl⟩ (Ent.refl _)
theorem prefix_ok (E : World) (s : List UInt8) (hs : s.length ≤ 1000000) : Does Tryz.prog E 99 [str s] [] fun v L => ∃ S : SV, v = .tuple #[S.v, .int .i64 ((prefixR s).2 : Int)] ∧ L = [slc tS true S (prefixR s).1] := by
 refine Does.of Tryz.func99 rfl Tryz.ntmps99 rfl rfl fun F => ?_
 refine J.norm ?_
 refine Sr ?_
 refine Lq (Q_assign rfl) ?_
 refine Lq (Q_assign rfl) ?_
 refine Ln ?_
 refine Sr ?_
 refine Lq (Q_assign rfl) ?_
 refine Ln ?_
 refine Sr ?_
 refine Lq (Q_assign rfl) ?_
 refine Ln ?_
 refine J_block ?_
 refine J.ent (Ent.mk fun _ _ h => (h.lay_nil tS true : Sat _ _ (slc tS true SV.nil [] :: _))) ?_
 refine J_loop (fun i : List (List UInt8) × SV × Nat => i.2.2 ≤ s.length ∧ i.1.length ≤ i.2.2 ∧ prefixR s = (i.1 ++ (prefixR (s.drop i.2.2)).1, i.2.2 + (prefixR (s.drop i.2.2)).2)) (fun i => [(0, str s), (4, i.2.1.v), (5, .int .i64 (i.2.2 : Int))])
  (fun i => [slc tS true i.2.1 i.1, F]) (fun i => s.length - i.2.2) ([], SV.nil, 0) ⟨by simp, by simp, by simp⟩ ⟨rfl, rfl, rfl, trivial⟩ (Ent.refl _) ?_
 rintro ⟨l, S, k⟩ ⟨h1, h2, h3⟩
 dsimp only at h1 h2 h3 ⊢
 have hn := next_ok E (s.drop k) (by simp; omega)
 have hd : (s.drop k).length = s.length - k := by simp
 rcases hx : recNext (s.drop k) with ⟨t, n, e⟩
 have hv : recV (s.drop k) = .tuple #[str t, .int .i64 (n : Int), .int .i64 e] := by unfold recV; rw [hx]
 rw [hv] at hn
 by_cases he : e = 0
 ·subst he
  obtain ⟨q1, q2, q3, q4⟩ := recNext_ok hx
  rw [prefixR_step hx] at h3
  refine J_block ?_
  refine Sr ?_
  refine Lq (Q_move rfl) ?_
  refine Lq (Q_move rfl) ?_
  refine Lq (Q_ssL k rfl rfl rfl h1) ?_
  refine L_o rfl rfl rfl (O_call [] [0,1] hn rfl rfl ?_)
  rintro _ _ ⟨rfl, rfl⟩
  refine JL.norm ?_
  refine Lq (Q_move rfl) ?_
  refine Lq (Q_extract (v := str t) rfl rfl) ?_
  refine Lq (Q_extract (v := .int .i64 (n : Int)) rfl rfl) ?_
  refine Lq (Q_extract (v := .int .i64 0) rfl rfl) ?_
  refine Lq (Q_assign rfl) ?_
  refine Lq (Q_assign rfl) ?_
  refine Lq (Q_assign rfl) ?_
  refine Ln ?_
  refine J_seq ?_
  refine Sr ?_
  refine Lq (Q_move rfl) ?_
  refine Lq ((Q_neq rfl rfl).as (v' := .bool false) rfl) ?_
  refine Ln ?_
  refine J_condF rfl ?_
  refine J_skip ?_
  refine seqQ_normal ?_
  refine J_region ?_
  refine Lq (Q_move rfl) ?_
  refine Lq (Q_move rfl) ?_
  refine L_o rfl rfl rfl (O_litP (τ := tS) (m := 1) (sz := 1) [t] rfl rfl rfl rfl rfl rfl (by decide) (fun S1 => ?_))
  refine JL.norm ?_
  refine L_o rfl rfl rfl (O_app (τ := tS) 1 rfl (fun w h => h.rd 0 rfl) rfl rfl rfl rfl (by simp; omega) (by decide) (fun S2 => ?_))
  refine JL.norm ?_
  refine Lq (Q_move rfl) ?_
  refine Lq (Q_move rfl) ?_
  refine Lq (Q_add rfl rfl (by first | exact IntWalk.i64_in _ (by omega) | exact IntWalk.u8_in _ (by omega) | exact IntWalk.u32_in _ (by omega) | exact IntWalk.u64_in _ (by omega) | rfl)) ?_
  refine Lq (Q_assign rfl) ?_
  refine Lq (Q_assign rfl) ?_
  refine JL_nil ?_
  refine blockQ_normal ?_
  refine loopQ_normal (l ++ [t], S2, k + n) ⟨by simp only; omega, by simp; omega, ?_⟩ (by simp only; omega) ⟨rfl, rfl, rfl, trivial⟩ (Ent.re [1,2] rfl)
  rw [h3, List.drop_drop]
  simp only [List.append_assoc, List.cons_append, List.nil_append, Prod.mk.injEq, true_and]
  omega
 ·rw [prefixR_stop (s := s.drop k) (by rw [hx]; exact he)] at h3
  refine J_block ?_
  refine Sr ?_
  refine Lq (Q_move rfl) ?_
  refine Lq (Q_move rfl) ?_
  refine Lq (Q_ssL k rfl rfl rfl h1) ?_
  refine L_o rfl rfl rfl (O_call [] [0,1] hn rfl rfl ?_)
  rintro _ _ ⟨rfl, rfl⟩
  refine JL.norm ?_
  refine Lq (Q_move rfl) ?_
  refine Lq (Q_extract (v := str t) rfl rfl) ?_
  refine Lq (Q_extract (v := .int .i64 (n : Int)) rfl rfl) ?_
  refine Lq (Q_extract (v := .int .i64 e) rfl rfl) ?_
  refine Lq (Q_assign rfl) ?_
  refine Lq (Q_assign rfl) ?_
  refine Lq (Q_assign rfl) ?_
  refine Ln ?_
  refine J_seq ?_
  refine Sr ?_
  refine Lq (Q_move rfl) ?_
  refine Lq ((Q_neq rfl rfl).as (v' := .bool true) (congrArg Value.bool (decide_eq_true he))) ?_
  refine Ln ?_
  refine J_condT rfl ?_
  refine Sr ?_
  refine Lq (Q_move rfl) ?_
  refine Lq (Q_move rfl) ?_
  refine Lq (Q_assign rfl) ?_
  refine Lq (Q_assign rfl) ?_
  refine Ln ?_
  refine J_ret ?_
  refine seqQ_ret ?_
  refine blockQ_ret ?_
  refine loopQ_ret ?_
  refine blockQ_ret ?_
  exact retQ_ret _ [slc tS true S l] (.cons (RV_tmp rfl) (.cons (RV_tmp rfl) .nil)) ⟨S, by rw [h3]; rfl, by rw [h3]; simp⟩ (Ent.refl _)
end Go.Proofs
