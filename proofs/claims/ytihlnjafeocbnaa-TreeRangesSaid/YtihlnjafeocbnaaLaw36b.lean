/- The laws over a tree, from their arguments' readings: the other three. -/
import Derived.Test.YtihlnjafeocbnaaLaw36a
import Derived.Test.YtihlnjafeocbnaaRight36
set_option autoImplicit false
namespace Go.Proofs
open Go.SL Go.RowKit
theorem tranges_calls (W : World) (v0 v1 : Value) (h : InRows W lsDd v0) (h1 : InStruct [.str, .str, .int .i64] v1) : Calls Try.prog 4 #[v0, v1] W fun e w' => e = .returned (.bool true) ∧ Below W.heap.size W w' := by
  obtain ⟨S, l, rfl, h2⟩ := dds_in h
  obtain ⟨vs, rfl, hl⟩ := h1
  obtain ⟨s, r, rfl, _, hl⟩ := leafs_str hl
  obtain ⟨t, r, rfl, _, hl⟩ := leafs_str hl
  obtain ⟨n, r, rfl, _, hl⟩ := leafs_int hl
  obtain rfl := leafs_nil hl
  exact law_calls (tranges_ok W S l ⟨s, t, n⟩) (fun v L h => h.1) (by simpa using h2)
theorem tright_calls (W : World) (v0 : Value) (h : InRows W lsDd v0) : Calls Try.prog 5 #[v0] W fun e w' => e = .returned (.bool true) ∧ Below W.heap.size W w' := by
  obtain ⟨S, l, rfl, h2⟩ := dds_in h
  exact law_calls (tright36_ok W S l) (fun v L h => h.1) (by simpa using h2)
theorem tclone_calls (W : World) (v0 v1 : Value) (h : InRows W lsDd v0) (h1 : InRows W lsDd v1) : Calls Try.prog 6 #[v0, v1] W fun e w' => e = .returned (.bool true) ∧ Below W.heap.size W w' := by
  obtain ⟨S, l, rfl, h2⟩ := dds_in h
  obtain ⟨S', l', rfl, h2'⟩ := dds_in h1
  exact law_calls (tclone36_ok W S S' l l') (fun v L h => h.1) (by simpa using ⟨h2, h2'⟩)
end Go.Proofs
