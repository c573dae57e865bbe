/- From the arguments' readings to chunks, and from a specification of a law to its row's contract. -/
import Derived.Deep.Slices
import Derived.Deep.Fields
import Derived.ChangeSame
import Derived.ChangeArms
import Derived.Below
import Derived.SizedLaws
import Derived.Test.YtihlnjafeocbnaaSl8
set_option autoImplicit false
namespace Go.SL
open Go.ChangeShapes Go.WideShapes Go.Deep Go.RowKit

inductive Leaf where
  | int (k : IntKind)
  | str
  | bool
def LeafOk : Leaf → Value → Prop
  | .int k, v => ∃ n, v = .int k n ∧ (Lit.int k n).wf = true
  | .str, v => ∃ l : List UInt8, v = SL.str l ∧ l.length ≤ maxLen
  | .bool, v => ∃ b, v = .bool b
def LeafsOk : List Leaf → List Value → Prop
  | [], [] => True
  | l :: ls, v :: vs => LeafOk l v ∧ LeafsOk ls vs
  | _, _ => False

/-- The leafs of a type: integers, strings, bools, in structs or not. -/
def fieldLeafs (leafs : Nat → Option (List Leaf)) (size : Nat → Nat) : Nat → List Field → Option (List Leaf)
  | _, [] => some []
  | off, f :: fs => if f.offset = off then match leafs f.type, fieldLeafs leafs size (off + size f.type) fs with
    | some l, some ls => if l.length = size f.type then some (l ++ ls) else none
    | _, _ => none
    else none
def leafsOf (P : Program) : Nat → Nat → Option (List Leaf)
  | 0, _ => none
  | d + 1, t => match P.underlying t with
    | some (.int k) => some [.int k]
    | some .string => some [.str]
    | some .bool => some [.bool]
    | some (.struct fs) => match fieldLeafs (leafsOf P d) P.cellsOf 0 fs.toList with
      | some ls => if ls.length = P.cellsOf t then some ls else none
      | none => none
    | _ => none

theorem LeafsOk.length : ∀ {ls : List Leaf} {vs : List Value}, LeafsOk ls vs → vs.length = ls.length
  | [], [], _ => rfl
  | _ :: _, _ :: _, h => by simp [LeafsOk.length h.2]
  | [], _ :: _, h => h.elim
  | _ :: _, [], h => h.elim
theorem LeafsOk.append : ∀ {ls ls' : List Leaf} {vs vs' : List Value}, LeafsOk ls vs → LeafsOk ls' vs' → LeafsOk (ls ++ ls') (vs ++ vs')
  | [], _, [], _, _, h' => h'
  | _ :: _, _, _ :: _, _, h, h' => ⟨h.1, LeafsOk.append h.2 h'⟩
  | [], _, _ :: _, _, h, _ => h.elim
  | _ :: _, _, [], _, h, _ => h.elim

section
variable {H : Type} {enc : TypeId × Value → H} {P : Program} {w : World} {base : Nat} {spare : Nat → Bool} {held : Bool}

theorem leafs_ok : ∀ (d t : Nat) (ls : List Leaf) (fuel : Nat) (cs : List Value) (x : DataW H × List MemPlace), leafsOf P d t = some ls → DataW.trod enc P w base spare held fuel t cs = some x → LeafsOk ls cs
  | 0, _, _, _, _, _, h, _ => by simp [leafsOf] at h
  | d + 1, t, ls, fuel, cs, x, h, hx => by
    simp only [leafsOf] at h
    split at h
    · rename_i k ht
      obtain ⟨n, rfl, _, hw⟩ := DataW.trod_int ht hx
      simp only [Option.some.injEq] at h; subst h
      exact ⟨⟨n, rfl, hw⟩, trivial⟩
    · rename_i ht
      obtain ⟨s, rfl, _, hw⟩ := DataW.trod_string ht hx
      simp only [Option.some.injEq] at h; subst h
      exact ⟨⟨s.data.toList, by cases s; simp [SL.str], by rw [Array.length_toList]; exact hw⟩, trivial⟩
    · rename_i ht
      obtain ⟨b, rfl, _⟩ := DataW.trod_bool ht hx
      simp only [Option.some.injEq] at h; subst h
      exact ⟨⟨b, rfl⟩, trivial⟩
    · rename_i fs ht
      obtain ⟨xs, n, _, _, hlen, hxl, hf⟩ := DataW.trod_struct ht hx
      have key : ∀ (gs : List Field) (k off : Nat) (ls : List Leaf), fieldLeafs (leafsOf P d) P.cellsOf off gs = some ls → (∀ (i : Nat) f, gs[i]? = some f → fs[k + i]? = some f) → ∃ vs, (cs.drop off).take ls.length = vs ∧ LeafsOk ls vs := by
        intro gs
        induction gs with
        | nil =>
          intro k off ls h _
          simp only [fieldLeafs, Option.some.injEq] at h; subst h
          exact ⟨[], by simp, trivial⟩
        | cons f gs ih =>
          intro k off ls h hg
          simp only [fieldLeafs] at h
          split at h
          · rename_i hoff
            split at h
            · rename_i l ls' hl hls
              split at h
              · rename_i hsz
                simp only [Option.some.injEq] at h; subst h
                have hk : fs[k]? = some f := by simpa using hg 0 f rfl
                have h1 := hf k f hk
                have hkl : k < xs.length := by rw [hxl]; exact (Array.getElem?_eq_some_iff.1 hk).1
                rw [List.getElem?_eq_getElem hkl] at h1
                have h2 := leafs_ok d f.type l n _ _ hl h1
                rw [hoff] at h2
                obtain ⟨vs, hvs, hok⟩ := ih (k + 1) (off + P.cellsOf f.type) ls' hls (fun i f' hi => by have := hg (i + 1) f' (by simpa using hi); rw [show k + 1 + i = k + (i + 1) by omega]; exact this)
                refine ⟨_, rfl, ?_⟩
                rw [List.length_append, List.take_add, List.drop_drop]
                refine LeafsOk.append ?_ ?_
                · rw [hsz]; exact h2
                · rw [hsz, hvs]; exact hok
              · cases h
            · cases h
          · cases h
      split at h
      · rename_i ls' hls
        split at h
        · rename_i hcl
          simp only [Option.some.injEq] at h; subst h
          obtain ⟨vs, hvs, hok⟩ := key fs.toList 0 0 ls' hls (fun i f hi => by simpa using hi)
          rw [List.drop_zero, hcl, ← hlen, List.take_length] at hvs
          rw [hvs]; exact hok
        · cases h
      · cases h
    · cases h

/-- A slice that came in: its elements' cells. -/
theorem rows_ok {d t e : Nat} {ls : List Leaf} {S : SV} {dd : DataW H} {ps : List MemPlace} (ht : P.underlying t = some (.slice e)) (hl : leafsOf P d e = some ls) (hc : P.cellsOf e = ls.length)
    (h : DataW.Trod enc P w base spare held t S.v dd ps) :
    ∃ (rows : List (List Value)), S.n = rows.length ∧ S.n ≤ S.c ∧ S.c ≤ maxLen ∧ (∀ r ∈ rows, LeafsOk ls r) ∧
      ((S.a = none ∧ S.c = 0) ∨ ∃ a, S.a = some a ∧ ∀ (j : Nat) u, rows.flatten[j]? = some u → a.block < w.heap.size ∧ w.cell? (a.add j) = some u) ∧
      (dd = .nil ∨ ∃ el sp, dd = .slice el sp ∧ S.n ≤ el.length) := by
  obtain ⟨fuel, hf⟩ := h
  rcases open_slice ht hf with ⟨hcs, hx⟩ | ⟨a, len, cap, m, n, D, Pl, hcs, hb, hle, hm, hmm, hx, hi⟩
  · simp only [SV.v, Value.cells, List.cons.injEq, Value.slice.injEq, and_true] at hcs
    obtain ⟨h1, h2, h3⟩ := hcs
    exact ⟨[], h2, by omega, by omega, by simp, .inl ⟨h1, h3⟩, .inl (Prod.mk.inj hx).1⟩
  · simp only [SV.v, Value.cells, List.cons.injEq, Value.slice.injEq, and_true] at hcs
    obtain ⟨h1, h2, h3⟩ := hcs
    have hlm : len ≤ m := by rw [hmm]; split <;> omega
    have key : ∀ q, q ≤ len → ∃ rows : List (List Value), rows.length = q ∧ rows.flatten.length = q * ls.length ∧ (∀ r ∈ rows, LeafsOk ls r) ∧ ∀ (j : Nat) u, rows.flatten[j]? = some u → w.cell? (a.add j) = some u := by
      intro q
      induction q with
      | zero => intro _; exact ⟨[], rfl, by simp, by simp, by simp⟩
      | succ q ih =>
        intro hq
        obtain ⟨rows, r1, r2, r3, r4⟩ := ih (by omega)
        obtain ⟨cs', hc', ht'⟩ := hi q (by omega)
        obtain ⟨_, c2, c3⟩ := World.cells?_some hc'
        have hok := leafs_ok d e ls n cs' _ hl ht'
        rw [hc] at c2 c3
        refine ⟨rows ++ [cs'], by simp [r1], ?_, ?_, ?_⟩
        · simp only [List.flatten_append, List.length_append, r2, List.flatten_cons, List.flatten_nil, List.append_nil, c2, Nat.add_mul, Nat.one_mul]
        · intro r hr; rcases List.mem_append.1 hr with hr | hr
          · exact r3 r hr
          · rw [List.mem_singleton.1 hr]; exact hok
        · intro j u hu
          simp only [List.flatten_append, List.flatten_cons, List.flatten_nil, List.append_nil] at hu
          by_cases hj : j < rows.flatten.length
          · rw [List.getElem?_append_left hj] at hu; exact r4 j u hu
          · rw [List.getElem?_append_right (by omega), r2] at hu
            have hlt : j - q * ls.length < ls.length := by have := (List.getElem?_eq_some_iff.1 hu).1; omega
            have h5 := c3 (j - q * ls.length) hlt
            rw [hu, addr_add_add, show q * ls.length + (j - q * ls.length) = j by omega] at h5
            exact h5
    obtain ⟨rows, r1, _, r3, r4⟩ := key len (Nat.le_refl _)
    refine ⟨rows, by rw [h2, r1], by omega, by omega, r3, .inr ⟨a, h1, fun j u hu => ?_⟩, .inr ⟨_, _, (Prod.mk.inj hx).1, by simp [h2]⟩⟩
    have := r4 j u hu
    refine ⟨?_, this⟩
    have hbl := World.block_lt_of_cell? w _ this
    have hb2 : (a.add j).block = a.block := by unfold Addr.add; split <;> rfl
    rwa [hb2] at hbl
end

/-- .. as a chunk that owns nothing, of values of a Lean type. -/
theorem slc_of_rows {α : Type} (τ : Ty α) {E : World} {S : SV} {rows : List (List Value)} {ok : α → Prop} (h1 : S.n = rows.length) (h2 : S.n ≤ S.c)
    (h3 : (S.a = none ∧ S.c = 0) ∨ ∃ a, S.a = some a ∧ ∀ (j : Nat) u, rows.flatten[j]? = some u → a.block < E.heap.size ∧ E.cell? (a.add j) = some u)
    (h4 : ∀ r ∈ rows, ∃ a, r = τ.enc a ∧ ok a) : ∃ l : List α, l.length = S.n ∧ (∀ a ∈ l, ok a) ∧ ∀ g, slc τ false S l E g := by
  have key : ∀ rows : List (List Value), (∀ r ∈ rows, ∃ a, r = τ.enc a ∧ ok a) → ∃ l : List α, rows = l.map τ.enc ∧ ∀ a ∈ l, ok a := by
    intro rows
    induction rows with
    | nil => intro _; exact ⟨[], rfl, by simp⟩
    | cons r rows ih =>
      intro h
      obtain ⟨a, ha, hok⟩ := h r (by simp)
      obtain ⟨l, hl, hl2⟩ := ih (fun r hr => h r (by simp [hr]))
      exact ⟨a :: l, by simp [ha, hl], by intro b hb; rcases List.mem_cons.1 hb with rfl | hb; exact hok; exact hl2 b hb⟩
  obtain ⟨l, hl, hok⟩ := key rows h4
  have hlen : l.length = S.n := by rw [h1, hl]; simp
  have hflat : τ.flat l = rows.flatten := by rw [hl]; simp [Ty.flat, List.flatMap]
  refine ⟨l, hlen, hok, fun g => ⟨hlen.symm, h2, ?_⟩⟩
  rcases h3 with h3 | ⟨a, ha, h3⟩
  · exact .inl h3
  · exact .inr (.inl ⟨a, ha, rfl, by rw [hflat]; exact h3⟩)

/-- A law: from its specification to its row's contract. -/
theorem law_calls {P : Program} {f : Nat} {args : List Value} {pre : List HProp} {W : World} {K : Value → List HProp → Prop} (h : Does P W f args pre K) (hK : ∀ v L, K v L → v = .bool true) (hp : ∀ c ∈ pre, ∀ g, c W g) :
    Calls P f args.toArray W fun e w' => e = .returned (.bool true) ∧ Below W.heap.size W w' := by
  have key : ∀ L : List HProp, (∀ c ∈ L, ∀ g, c W g) → Sat W W L := by
    intro L
    induction L with
    | nil => intro _; exact Sat.start W
    | cons c L ih => intro h; exact (ih fun d hd => h d (by simp [hd])).lay (h c (by simp))
  refine (h emp W (key (pre ++ [emp]) ?_)).mono ?_
  · intro c hc g
    rcases List.mem_append.1 hc with hc | hc
    · exact hp c hc g
    · rw [List.mem_singleton.1 hc]; trivial
  · rintro e w' ⟨v, L', rfl, hk, hs⟩
    rw [hK v L' hk]
    exact ⟨rfl, hs.os, hs.tape, hs.output, hs.size, hs.old⟩
end Go.SL
