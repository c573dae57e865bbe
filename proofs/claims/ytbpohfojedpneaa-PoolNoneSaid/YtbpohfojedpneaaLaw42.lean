/- The laws over requests that wait, from their arguments' readings. -/
import Derived.Test.YtbpohfojedpneaaSl10
import Derived.Test.YtbpohfojedpneaaFair42
set_option autoImplicit false
namespace Go.Proofs
open Go.SL Go.RowKit
def lsDp : List Leaf := [.int .i64, .int .i64, .int .i64, .int .i64, .int .i64, .int .i64, .str, .str]
theorem dp_in {vs : List Value} (h : LeafsOk lsDp vs) : ∃ d : Dp, vs = tDp.enc d := by
  obtain ⟨a, r, rfl, _, h⟩ := leafs_int h
  obtain ⟨b, r, rfl, _, h⟩ := leafs_int h
  obtain ⟨c, r, rfl, _, h⟩ := leafs_int h
  obtain ⟨d, r, rfl, _, h⟩ := leafs_int h
  obtain ⟨e, r, rfl, _, h⟩ := leafs_int h
  obtain ⟨f, r, rfl, _, h⟩ := leafs_int h
  obtain ⟨s, r, rfl, _, h⟩ := leafs_str h
  obtain ⟨t, r, rfl, _, h⟩ := leafs_str h
  obtain rfl := leafs_nil h
  exact ⟨⟨a, b, ⟨c, d, e, f, s, t⟩⟩, rfl⟩
theorem dps_in {W : World} {v : Value} (h : InRows W lsDp v) : ∃ (S : SV) (l : List Dp), v = S.v ∧ ∀ g, slc tDp false S l W g := by
  obtain ⟨S, l, h1, _, _, h2, h3⟩ := h.slc tDp (ok := fun _ => True) (fun r hr => by obtain ⟨d, h1⟩ := dp_in hr; exact ⟨d, h1, trivial⟩)
  exact ⟨S, l, h1, h3⟩
theorem pplays_calls (W : World) (v0 : Value) (h : InRows W lsDp v0) : Calls Try.prog 3 #[v0] W fun e w' => e = .returned (.bool true) ∧ Below W.heap.size W w' := by
  obtain ⟨S, l, rfl, h2⟩ := dps_in h
  exact law_calls (plays42_calls W S l) (fun v L h => h.1) (by simpa using h2)
theorem ponce_calls (W : World) (v0 : Value) (h : InRows W lsDp v0) : Calls Try.prog 4 #[v0] W fun e w' => e = .returned (.bool true) ∧ Below W.heap.size W w' := by
  obtain ⟨S, l, rfl, h2⟩ := dps_in h
  exact law_calls (once42_calls W S l) (fun v L h => h.1) (by simpa using h2)
theorem pfair_calls (W : World) (v0 v1 : Value) (h : InRows W lsDp v0) (h1 : ∃ n, v1 = .int .i64 n ∧ (Lit.int .i64 n).wf = true) : Calls Try.prog 5 #[v0, v1] W fun e w' => e = .returned (.bool true) ∧ Below W.heap.size W w' := by
  obtain ⟨S, l, rfl, h2⟩ := dps_in h
  obtain ⟨n, rfl, _⟩ := h1
  exact law_calls (fair42_calls W S l n) (fun v L h => h.1) (by simpa using h2)
theorem pnone_calls (W : World) (v0 : Value) (h : InStruct lsDp v0) : Calls Try.prog 6 #[v0] W fun e w' => e = .returned (.bool true) ∧ Below W.heap.size W w' := by
  obtain ⟨vs, rfl, hl⟩ := h
  obtain ⟨d, rfl⟩ := dp_in hl
  exact law_calls (pnone_ok W d) (fun v L h => h.1) (by simp)
end Go.Proofs
