/- The law of a disk that is none, from its argument's reading. -/
import Derived.Test.YtlaemkgdffgmhaaNil18
import Derived.Test.YtlaemkgdffgmhaaSl10
set_option autoImplicit false
namespace Go.Proofs
open Go.SL Go.RowKit
def lsAct : List Leaf := [.int .i64, .str, .int .u64]
theorem act_in {vs : List Value} (h : LeafsOk lsAct vs) : ∃ a : Ac, vs = tAct.enc a ∧ a.keep < 2 ^ 64 := by
  obtain ⟨k, r, rfl, _, h⟩ := leafs_int h
  obtain ⟨t, r, rfl, ht, h⟩ := leafs_str h
  obtain ⟨z, r, rfl, hz, h⟩ := leafs_int h
  obtain rfl := leafs_nil h
  obtain ⟨m, rfl, hm⟩ := wf_u64 hz
  exact ⟨⟨k, t, m⟩, rfl, hm⟩
theorem none_calls (W : World) (v : Value) (h : InStruct lsAct v) : Calls Try.prog 7 #[v] W fun e w' => e = .returned (.bool true) ∧ Below W.heap.size W w' := by
  obtain ⟨vs, rfl, h⟩ := h
  obtain ⟨a, rfl, _⟩ := act_in h
  exact law_calls (none_ok W a) (fun v L h => h.1) (by simp)
end Go.Proofs
