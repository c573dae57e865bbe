/- The laws over a tree, from their arguments' readings: two of them. -/
import Derived.Test.YtihlnjafeocbnaaSl10
import Derived.Test.YtihlnjafeocbnaaPlays36
set_option autoImplicit false
namespace Go.Proofs
open Go.SL Go.RowKit
def lsDd : List Leaf := [.bool, .str, .str]
theorem dd_in {vs : List Value} (h : LeafsOk lsDd vs) : ∃ d : Dd, vs = tDd.enc d := by
  obtain ⟨a, r, rfl, h1⟩ := leafs_bool h
  obtain ⟨s, r, rfl, _, h⟩ := leafs_str h1
  obtain ⟨t, r, rfl, _, h⟩ := leafs_str h
  obtain rfl := leafs_nil h
  exact ⟨⟨a, s, t⟩, rfl⟩
theorem dds_in {W : World} {v : Value} (h : InRows W lsDd v) : ∃ (S : SV) (l : List Dd), v = S.v ∧ ∀ g, slc tDd false S l W g := by
  obtain ⟨S, l, h1, _, _, h2, h3⟩ := h.slc tDd (ok := fun _ => True) (fun r hr => by obtain ⟨d, h1⟩ := dd_in hr; exact ⟨d, h1, trivial⟩)
  exact ⟨S, l, h1, h3⟩
theorem tplays_calls (W : World) (v0 : Value) (h : InRows W lsDd v0) : Calls Try.prog 3 #[v0] W fun e w' => e = .returned (.bool true) ∧ Below W.heap.size W w' := by
  obtain ⟨S, l, rfl, h2⟩ := dds_in h
  exact law_calls (tplays_ok W S l) (fun v L h => h.1) (by simpa using h2)
theorem tnone_calls (W : World) (v0 : Value) (h : InStruct lsDd v0) : Calls Try.prog 7 #[v0] W fun e w' => e = .returned (.bool true) ∧ Below W.heap.size W w' := by
  obtain ⟨vs, rfl, hl⟩ := h
  obtain ⟨d, rfl⟩ := dd_in hl
  exact law_calls (tnone_ok W d) (fun v L h => h.1) (by simp)
end Go.Proofs
