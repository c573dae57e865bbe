/- The laws over pipes, from their arguments' readings. -/
import Derived.Test.YtmmkepghmmbppaaSl10
import Derived.Test.YtmmkepghmmbppaaOrder40
set_option autoImplicit false
namespace Go.Proofs
open Go.SL Go.RowKit
def lsBr : List Leaf := [.int .i64, .int .i64, .bool, .str]
theorem brs_in {W : World} {v : Value} (h : InRows W lsBr v) : ∃ (S : SV) (l : List Br), v = S.v ∧ ∀ g, slc tBr false S l W g := by
  obtain ⟨S, l, h1, _, _, h2, h3⟩ := h.slc tBr (ok := fun _ => True) (fun r hr => by
    obtain ⟨a, r, rfl, _, hr⟩ := leafs_int hr
    obtain ⟨b, r, rfl, _, hr⟩ := leafs_int hr
    obtain ⟨c, r, rfl, hr2⟩ := leafs_bool hr
    clear hr
    obtain ⟨d, r, rfl, _, hr⟩ := leafs_str hr2
    clear hr2
    obtain rfl := leafs_nil hr
    exact ⟨⟨a, b, c, d⟩, rfl, trivial⟩)
  exact ⟨S, l, h1, h3⟩
theorem strs_in {W : World} {v : Value} (h : InRows W [.str] v) : ∃ (S : SV) (l : List By), v = S.v ∧ ∀ g, slc tS false S l W g := by
  obtain ⟨S, l, h1, _, _, h2, h3⟩ := h.slc tS (ok := fun _ => True) (fun r hr => by
    obtain ⟨a, r, rfl, _, h⟩ := leafs_str hr
    obtain rfl := leafs_nil h
    exact ⟨a, rfl, trivial⟩)
  exact ⟨S, l, h1, h3⟩
theorem porder_calls (W : World) (v0 v1 : Value) (h0 : ∃ n, v0 = .int .i64 n ∧ (Lit.int .i64 n).wf = true) (h : InRows W lsBr v1) : Calls Try.prog 3 #[v0, v1] W fun e w' => e = .returned (.bool true) ∧ Below W.heap.size W w' := by
  obtain ⟨n, rfl, _⟩ := h0
  obtain ⟨S, l, rfl, h2⟩ := brs_in h
  exact law_calls (order_calls W n S l) (fun v L h => h.1) (by simpa using h2)
theorem pcalm_calls (W : World) (v0 v1 : Value) (h0 : ∃ n, v0 = .int .i64 n ∧ (Lit.int .i64 n).wf = true) (h : InRows W [.str] v1) : Calls Try.prog 4 #[v0, v1] W fun e w' => e = .returned (.bool true) ∧ Below W.heap.size W w' := by
  obtain ⟨n, rfl, _⟩ := h0
  obtain ⟨S, l, rfl, h2⟩ := strs_in h
  exact law_calls (calm_calls W n S l) (fun v L h => h.1) (by simpa using h2)
theorem pforged_calls (W : World) (v0 : Value) (h : InRows W [.str] v0) : Calls Try.prog 5 #[v0] W fun e w' => e = .returned (.bool true) ∧ Below W.heap.size W w' := by
  obtain ⟨S, l, rfl, h2⟩ := strs_in h
  exact law_calls (forged_calls W S l) (fun v L h => h.1) (by simpa using h2)
theorem pipenone_calls (W : World) (v0 : Value) (h : InStruct [.int .i64, .int .i64, .str] v0) : Calls Try.prog 6 #[v0] W fun e w' => e = .returned (.bool true) ∧ Below W.heap.size W w' := by
  obtain ⟨vs, rfl, hr⟩ := h
  obtain ⟨a, r, rfl, _, hr⟩ := leafs_int hr
  obtain ⟨b, r, rfl, _, hr⟩ := leafs_int hr
  obtain ⟨d, r, rfl, _, hr⟩ := leafs_str hr
  obtain rfl := leafs_nil hr
  exact law_calls (pipenone_ok W a b d) (fun v L h => h.1) (by simp)
end Go.Proofs
