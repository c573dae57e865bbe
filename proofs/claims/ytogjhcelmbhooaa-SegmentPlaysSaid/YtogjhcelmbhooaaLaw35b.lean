/- The law SegmentPlays, from its arguments' readings. -/
import Derived.Test.YtogjhcelmbhooaaSl10
import Derived.Test.YtogjhcelmbhooaaPlays35
set_option autoImplicit false
namespace Go.Proofs
open Go.SL Go.RowKit
def lsDs2 : List Leaf := [.int .i64, .int .i64, .str, .int .u64]
theorem ds_in2 {vs : List Value} (h : LeafsOk lsDs2 vs) : ∃ d : Ds, vs = tDs.enc d ∧ d.keep < 2 ^ 64 := by
  obtain ⟨a, r, rfl, _, h⟩ := leafs_int h
  obtain ⟨b, r, rfl, _, h⟩ := leafs_int h
  obtain ⟨t, r, rfl, _, h⟩ := leafs_str h
  obtain ⟨c, r, rfl, hc, h⟩ := leafs_int h
  obtain rfl := leafs_nil h
  obtain ⟨m, rfl, hm⟩ := wf_u64 hc
  exact ⟨⟨a, b, t, m⟩, rfl, hm⟩
theorem play_calls (W : World) (v0 v1 : Value) (h0 : ∃ n, v0 = .int .i64 n ∧ (Lit.int .i64 n).wf = true) (h : InRows W lsDs2 v1) : Calls Try.prog 3 #[v0, v1] W fun e w' => e = .returned (.bool true) ∧ Below W.heap.size W w' := by
  obtain ⟨z, rfl, _⟩ := h0
  obtain ⟨S, l, h1, _, _, hk, h2⟩ := h.slc tDs (ok := fun d => d.keep < 2 ^ 64) (fun r hr => by obtain ⟨d, h1, h2⟩ := ds_in2 hr; exact ⟨d, h1, h2⟩)
  subst h1
  exact law_calls (plays35_calls W z S l hk) (fun v L h => h.1) (by simpa using h2)
end Go.Proofs
