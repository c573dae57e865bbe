/- The arguments of a row, each opened as what it is. -/
import Derived.WalkKit
import Derived.ProofKit
import Derived.OpenShut
import Derived.ShutString
import Derived.ChangeOld
import Derived.Test.YtihlnjafeocbnaaSl9
set_option autoImplicit false
namespace Go.SL
open Go.ChangeShapes Go.WideShapes Go.Deep Go.RowKit

/-- What came in: a value of leafs. -/
def InStruct (ls : List Leaf) (v : Value) : Prop := ∃ vs : List Value, v = .agg vs.toArray ∧ LeafsOk ls vs
/-- What came in: rows of leafs. -/
def InRows (W : World) (ls : List Leaf) (v : Value) : Prop := ∃ (S : SV) (rows : List (List Value)), v = S.v ∧ S.n = rows.length ∧ S.n ≤ S.c ∧ S.c ≤ maxLen ∧ (∀ r ∈ rows, LeafsOk ls r) ∧
  ((S.a = none ∧ S.c = 0) ∨ ∃ a, S.a = some a ∧ ∀ (j : Nat) u, rows.flatten[j]? = some u → a.block < W.heap.size ∧ W.cell? (a.add j) = some u)

section
variable {H : Type} {enc : TypeId × Value → H} {P : Program} {W : World} {base b0 : Nat} {spare : Nat → Bool} {held : Bool} {r : Reach} {t : TypeId} {v : Value} {d : DataW H} {ps : List MemPlace}
theorem in_int {k : IntKind} (ht : P.underlying t = some (.int k)) (hval : Value.okWide P W r b0 t v) (h : DataW.Trod enc P W base spare held t v d ps) : ∃ n, v = .int k n ∧ (Lit.int k n).wf = true := by
  obtain ⟨n, rfl, _, _, hw⟩ := open_int ht hval h; exact ⟨n, rfl, hw⟩
theorem in_bool (ht : P.underlying t = some .bool) (hval : Value.okWide P W r b0 t v) : ∃ b, v = .bool b := okWide_bool ht hval
theorem in_str (ht : P.underlying t = some .string) (hval : Value.okWide P W r b0 t v) (h : DataW.Trod enc P W base spare held t v d ps) : ∃ l : List UInt8, v = SL.str l ∧ l.length ≤ maxLen := by
  obtain ⟨s, rfl⟩ := okWide_string ht hval
  obtain ⟨fuel, hf⟩ := h
  obtain ⟨s', hs, _, hw⟩ := DataW.trod_string ht hf
  simp only [Value.cells, List.cons.injEq, Value.string.injEq, and_true] at hs
  subst hs
  exact ⟨s.data.toList, by cases s; simp [SL.str], by rw [Array.length_toList]; exact hw⟩
theorem in_struct {fs : Array Field} {dep : Nat} {ls : List Leaf} (ht : P.underlying t = some (.struct fs)) (hl : leafsOf P dep t = some ls) (hval : Value.okWide P W r b0 t v) (h : DataW.Trod enc P W base spare held t v d ps) : InStruct ls v := by
  obtain ⟨cs, rfl, _⟩ := okWide_struct ht hval
  obtain ⟨fuel, hf⟩ := h
  have := leafs_ok dep t ls fuel _ _ hl hf
  exact ⟨cs.toList, by simp, by simpa [Value.cells] using this⟩
theorem in_rows {e dep : Nat} {ls : List Leaf} (ht : P.underlying t = some (.slice e)) (hl : leafsOf P dep e = some ls) (hc : P.cellsOf e = ls.length) (hval : Value.okWide P W r b0 t v) (h : DataW.Trod enc P W base spare held t v d ps) : InRows W ls v := by
  obtain ⟨a, n, c, rfl⟩ := okWide_slice ht hval
  obtain ⟨rows, h1, h2, h3, h4, h5, _⟩ := rows_ok (S := ⟨a, n, c⟩) ht hl hc h
  exact ⟨⟨a, n, c⟩, rows, rfl, h1, h2, h3, h4, h5⟩
end

/-- Rows that came in, as a chunk. -/
theorem InRows.slc {α : Type} (τ : Ty α) {W : World} {ls : List Leaf} {v : Value} (h : InRows W ls v) {ok : α → Prop} (h4 : ∀ r, LeafsOk ls r → ∃ a, r = τ.enc a ∧ ok a) :
    ∃ (S : SV) (l : List α), v = S.v ∧ l.length = S.n ∧ l.length ≤ maxLen ∧ (∀ a ∈ l, ok a) ∧ ∀ g, slc τ false S l W g := by
  obtain ⟨S, rows, rfl, h1, h2, h3, h5, h6⟩ := h
  obtain ⟨l, l1, l2, l3⟩ := slc_of_rows τ (ok := ok) h1 h2 h6 (fun r hr => h4 r (h5 r hr))
  exact ⟨S, l, rfl, l1, by omega, l2, l3⟩
theorem leafs_int {k : IntKind} {ls : List Leaf} {vs : List Value} (h : LeafsOk (.int k :: ls) vs) : ∃ n r, vs = .int k n :: r ∧ (Lit.int k n).wf = true ∧ LeafsOk ls r := by
  cases vs with
  | nil => exact h.elim
  | cons v r => obtain ⟨⟨n, rfl, hw⟩, h2⟩ := h; exact ⟨n, r, rfl, hw, h2⟩
theorem leafs_str {ls : List Leaf} {vs : List Value} (h : LeafsOk (.str :: ls) vs) : ∃ (l : List UInt8) (r : List Value), vs = SL.str l :: r ∧ l.length ≤ maxLen ∧ LeafsOk ls r := by
  cases vs with
  | nil => exact h.elim
  | cons v r => obtain ⟨⟨n, rfl, hw⟩, h2⟩ := h; exact ⟨n, r, rfl, hw, h2⟩
theorem leafs_bool {ls : List Leaf} {vs : List Value} (h : LeafsOk (.bool :: ls) vs) : ∃ (b : Bool) (r : List Value), vs = .bool b :: r ∧ LeafsOk ls r := by
  cases vs with
  | nil => exact h.elim
  | cons v r => obtain ⟨⟨n, rfl⟩, h2⟩ := h; exact ⟨n, r, rfl, h2⟩
theorem leafs_nil {vs : List Value} (h : LeafsOk [] vs) : vs = [] := by
  cases vs with
  | nil => rfl
  | cons v r => exact h.elim
theorem wf_i64 {n : Int} (h : (Lit.int .i64 n).wf = true) : -9223372036854775808 ≤ n ∧ n ≤ 9223372036854775807 := by
  simp [Lit.wf, IntKind.min, IntKind.max, IntKind.bits, IntKind.signed] at h
  omega
theorem wf_u64 {n : Int} (h : (Lit.int .u64 n).wf = true) : ∃ k : Nat, n = (k : Int) ∧ k < 2 ^ 64 := by
  have : 0 ≤ n ∧ n < 18446744073709551616 := by
    simp [Lit.wf, IntKind.min, IntKind.max, IntKind.bits, IntKind.signed] at h
    omega
  exact ⟨n.toNat, by omega, by omega⟩
end Go.SL
