/- The laws over acts, from their arguments' readings. -/
import Derived.Test.YtlaemkgdffgmhaaLawNone18
import Derived.Test.YtlaemkgdffgmhaaPlay18
import Derived.Test.YtlaemkgdffgmhaaSure18
import Derived.Test.YtlaemkgdffgmhaaKept18
import Derived.Test.YtlaemkgdffgmhaaBegin18
set_option autoImplicit false
namespace Go.Proofs
open Go.SL Go.RowKit
theorem acts_in {W : World} {v : Value} (h : InRows W lsAct v) : ∃ (S : SV) (l : List Ac), v = S.v ∧ (∀ a ∈ l, a.keep < 2 ^ 64) ∧ ∀ g, slc tAct false S l W g := by
  obtain ⟨S, l, h1, _, _, h2, h3⟩ := h.slc tAct (ok := fun a => a.keep < 2 ^ 64) (fun r hr => by obtain ⟨a, h1, h2⟩ := act_in hr; exact ⟨a, h1, h2⟩)
  exact ⟨S, l, h1, h2, h3⟩
theorem play_calls (W : World) (v : Value) (h : InRows W lsAct v) : Calls Try.prog 3 #[v] W fun e w' => e = .returned (.bool true) ∧ Below W.heap.size W w' := by
  obtain ⟨S, l, rfl, h1, h2⟩ := acts_in h
  exact law_calls (plays_calls W S l h1) (fun v L h => h.1) (by simpa using h2)
theorem surely_calls (W : World) (v0 v1 v2 : Value) (h : InRows W lsAct v0) (ht : ∃ l : List UInt8, v1 = SL.str l ∧ l.length ≤ maxLen) (hk : ∃ n, v2 = .int .u64 n ∧ (Lit.int .u64 n).wf = true) : Calls Try.prog 4 #[v0, v1, v2] W fun e w' => e = .returned (.bool true) ∧ Below W.heap.size W w' := by
  obtain ⟨S, l, rfl, h1, h2⟩ := acts_in h
  obtain ⟨t, rfl, _⟩ := ht
  obtain ⟨z, rfl, hz⟩ := hk
  obtain ⟨k, rfl, hk⟩ := wf_u64 hz
  exact law_calls (sure_calls W S l t k h1 hk) (fun v L h => h.1) (by simpa using h2)
theorem keeps_calls (W : World) (v0 v1 : Value) (h : InRows W lsAct v0) (ht : ∃ l : List UInt8, v1 = SL.str l ∧ l.length ≤ maxLen) : Calls Try.prog 5 #[v0, v1] W fun e w' => e = .returned (.bool true) ∧ Below W.heap.size W w' := by
  obtain ⟨S, l, rfl, h1, h2⟩ := acts_in h
  obtain ⟨t, rfl, _⟩ := ht
  exact law_calls (kept_calls W S l t h1) (fun v L h => h.1) (by simpa using h2)
theorem begin_calls (W : World) (v0 v1 : Value) (h : InRows W lsAct v0) (hk : ∃ n, v1 = .int .i64 n ∧ (Lit.int .i64 n).wf = true) : Calls Try.prog 6 #[v0, v1] W fun e w' => e = .returned (.bool true) ∧ Below W.heap.size W w' := by
  obtain ⟨S, l, rfl, h1, h2⟩ := acts_in h
  obtain ⟨z, rfl, _⟩ := hk
  exact law_calls (begins_calls W S l z h1) (fun v L h => h.1) (by simpa using h2)
end Go.Proofs
