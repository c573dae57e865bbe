/- The laws over a log, from their arguments' readings. -/
import Derived.Test.YtogjhcelmbhooaaSl10
import Derived.Test.YtogjhcelmbhooaaSure35
import Derived.Test.YtogjhcelmbhooaaBack35
set_option autoImplicit false
namespace Go.Proofs
open Go.SL Go.RowKit
def lsDs : List Leaf := [.int .i64, .int .i64, .str, .int .u64]
theorem ds_in {vs : List Value} (h : LeafsOk lsDs vs) : ∃ d : Ds, vs = tDs.enc d ∧ d.keep < 2 ^ 64 := by
  obtain ⟨a, r, rfl, _, h⟩ := leafs_int h
  obtain ⟨b, r, rfl, _, h⟩ := leafs_int h
  obtain ⟨t, r, rfl, _, h⟩ := leafs_str h
  obtain ⟨c, r, rfl, hc, h⟩ := leafs_int h
  obtain rfl := leafs_nil h
  obtain ⟨m, rfl, hm⟩ := wf_u64 hc
  exact ⟨⟨a, b, t, m⟩, rfl, hm⟩
theorem dss_in {W : World} {v : Value} (h : InRows W lsDs v) : ∃ (S : SV) (l : List Ds), v = S.v ∧ (∀ d ∈ l, d.keep < 2 ^ 64) ∧ ∀ g, slc tDs false S l W g := by
  obtain ⟨S, l, h1, _, _, h2, h3⟩ := h.slc tDs (ok := fun d => d.keep < 2 ^ 64) (fun r hr => by obtain ⟨d, h1, h2⟩ := ds_in hr; exact ⟨d, h1, h2⟩)
  exact ⟨S, l, h1, h2, h3⟩
theorem strs_in {W : World} {v : Value} (h : InRows W [.str] v) : ∃ (S : SV) (l : List (List UInt8)), v = S.v ∧ ∀ g, slc tS false S l W g := by
  obtain ⟨S, l, h1, _, _, h2, h3⟩ := h.slc tS (ok := fun _ => True) (fun r hr => by
    obtain ⟨a, r, rfl, _, h⟩ := leafs_str hr
    obtain rfl := leafs_nil h
    exact ⟨a, rfl, trivial⟩)
  exact ⟨S, l, h1, h3⟩
theorem nones_calls (W : World) (v0 v1 : Value) (h0 : ∃ l : List UInt8, v0 = SL.str l ∧ l.length ≤ maxLen) (h1 : ∃ n, v1 = .int .i64 n ∧ (Lit.int .i64 n).wf = true) : Calls Try.prog 7 #[v0, v1] W fun e w' => e = .returned (.bool true) ∧ Below W.heap.size W w' := by
  obtain ⟨t, rfl, _⟩ := h0
  obtain ⟨n, rfl, _⟩ := h1
  exact law_calls (none_ok W t n) (fun v L h => h.1) (by simp)
theorem drops_calls (W : World) (v0 v1 v2 : Value) (h0 : ∃ n, v0 = .int .i64 n ∧ (Lit.int .i64 n).wf = true) (h : InRows W [.str] v1) (h1 : ∃ n, v2 = .int .i64 n ∧ (Lit.int .i64 n).wf = true) : Calls Try.prog 6 #[v0, v1, v2] W fun e w' => e = .returned (.bool true) ∧ Below W.heap.size W w' := by
  obtain ⟨z, rfl, _⟩ := h0
  obtain ⟨S, l, rfl, h2⟩ := strs_in h
  obtain ⟨n, rfl, _⟩ := h1
  exact law_calls (dropl_calls W z S l n) (fun v L h => h.1) (by simpa using h2)
theorem sures_calls (W : World) (v0 v1 v2 : Value) (h0 : ∃ n, v0 = .int .i64 n ∧ (Lit.int .i64 n).wf = true) (h : InRows W lsDs v1) (h1 : ∃ n, v2 = .int .u64 n ∧ (Lit.int .u64 n).wf = true) : Calls Try.prog 5 #[v0, v1, v2] W fun e w' => e = .returned (.bool true) ∧ Below W.heap.size W w' := by
  obtain ⟨z, rfl, _⟩ := h0
  obtain ⟨S, l, rfl, _, h2⟩ := dss_in h
  obtain ⟨n, rfl, hn⟩ := h1
  obtain ⟨m, rfl, hm⟩ := wf_u64 hn
  exact law_calls (sure35_calls W z S l m hm) (fun v L h => h.1) (by simpa using h2)
theorem backs_calls (W : World) (v0 v1 : Value) (h0 : ∃ n, v0 = .int .i64 n ∧ (Lit.int .i64 n).wf = true) (h : InRows W lsDs v1) : Calls Try.prog 4 #[v0, v1] W fun e w' => e = .returned (.bool true) ∧ Below W.heap.size W w' := by
  obtain ⟨z, rfl, _⟩ := h0
  obtain ⟨S, l, rfl, hk, h2⟩ := dss_in h
  exact law_calls (back35_calls W z S l hk) (fun v L h => h.1) (by simpa using h2)
end Go.Proofs
