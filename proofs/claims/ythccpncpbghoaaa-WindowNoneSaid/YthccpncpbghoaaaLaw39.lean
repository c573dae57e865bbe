/- The laws over windows, from their arguments' readings. -/
import Derived.Test.YthccpncpbghoaaaSl10
import Derived.Test.YthccpncpbghoaaaPlays39
import Derived.Test.YthccpncpbghoaaaTimes39
set_option autoImplicit false
namespace Go.Proofs
open Go.SL Go.RowKit
theorem zs_in {W : World} {v : Value} (h : InRows W [.int .i64] v) : ∃ (S : SV) (l : List Int), v = S.v ∧ (∀ a ∈ l, a ≤ 9223372036854775807) ∧ ∀ g, slc tZ false S l W g := by
  obtain ⟨S, l, h1, _, _, h2, h3⟩ := h.slc tZ (ok := fun a => a ≤ 9223372036854775807) (fun r hr => by
    obtain ⟨a, r, rfl, ha, hr⟩ := leafs_int hr
    obtain rfl := leafs_nil hr
    exact ⟨a, rfl, (wf_i64 ha).2⟩)
  exact ⟨S, l, h1, h2, h3⟩
def lsTl : List Leaf := [.int .i64, .int .i64, .int .i64]
theorem tls_in {W : World} {v : Value} (h : InRows W lsTl v) : ∃ (S : SV) (l : List Tl), v = S.v ∧ (∀ a ∈ l, a.seq ≤ 9223372036854775807) ∧ ∀ g, slc tTl false S l W g := by
  obtain ⟨S, l, h1, _, _, h2, h3⟩ := h.slc tTl (ok := fun a => a.seq ≤ 9223372036854775807) (fun r hr => by
    obtain ⟨a, r, rfl, _, hr⟩ := leafs_int hr
    obtain ⟨b, r, rfl, hb, hr⟩ := leafs_int hr
    obtain ⟨c, r, rfl, _, hr⟩ := leafs_int hr
    obtain rfl := leafs_nil hr
    exact ⟨⟨a, b, c⟩, rfl, (wf_i64 hb).2⟩)
  exact ⟨S, l, h1, h2, h3⟩
theorem wplay_calls (W : World) (v0 v1 : Value) (h0 : ∃ n, v0 = .int .i64 n ∧ (Lit.int .i64 n).wf = true) (h : InRows W [.int .i64] v1) : Calls Try.prog 3 #[v0, v1] W fun e w' => e = .returned (.bool true) ∧ Below W.heap.size W w' := by
  obtain ⟨n, rfl, _⟩ := h0
  obtain ⟨S, l, rfl, h1, h2⟩ := zs_in h
  exact law_calls (plays_calls W n S l h1) (fun v L h => h.1) (by simpa using h2)
theorem wonce_calls (W : World) (v0 v1 : Value) (h0 : ∃ n, v0 = .int .i64 n ∧ (Lit.int .i64 n).wf = true) (h : InRows W [.int .i64] v1) : Calls Try.prog 4 #[v0, v1] W fun e w' => e = .returned (.bool true) ∧ Below W.heap.size W w' := by
  obtain ⟨n, rfl, _⟩ := h0
  obtain ⟨S, l, rfl, h1, h2⟩ := zs_in h
  exact law_calls (once_calls W n S l h1) (fun v L h => h.1) (by simpa using h2)
theorem wtimes_calls (W : World) (v0 v1 : Value) (h0 : ∃ n, v0 = .int .i64 n ∧ (Lit.int .i64 n).wf = true) (h : InRows W lsTl v1) : Calls Try.prog 5 #[v0, v1] W fun e w' => e = .returned (.bool true) ∧ Below W.heap.size W w' := by
  obtain ⟨n, rfl, _⟩ := h0
  obtain ⟨S, l, rfl, h1, h2⟩ := tls_in h
  exact law_calls (times_calls W n S l h1) (fun v L h => h.1) (by simpa using h2)
theorem wwaits_calls (W : World) (v0 v1 : Value) (h0 : ∃ n, v0 = .int .i64 n ∧ (Lit.int .i64 n).wf = true) (h1 : ∃ n, v1 = .int .i64 n ∧ (Lit.int .i64 n).wf = true) : Calls Try.prog 6 #[v0, v1] W fun e w' => e = .returned (.bool true) ∧ Below W.heap.size W w' := by
  obtain ⟨n, rfl, hn⟩ := h0
  obtain ⟨m, rfl, _⟩ := h1
  exact law_calls (waits_calls W n m (wf_i64 hn).2) (fun v L h => h.1) (by simp)
theorem wnone_calls (W : World) (v0 : Value) (h0 : ∃ n, v0 = .int .i64 n ∧ (Lit.int .i64 n).wf = true) : Calls Try.prog 7 #[v0] W fun e w' => e = .returned (.bool true) ∧ Below W.heap.size W w' := by
  obtain ⟨n, rfl, hn⟩ := h0
  exact law_calls (wnone_ok W n) (fun v L h => h.1) (by simp)
end Go.Proofs
