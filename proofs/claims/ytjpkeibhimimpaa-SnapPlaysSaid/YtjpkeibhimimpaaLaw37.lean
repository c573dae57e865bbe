/- The laws over slots, from their arguments' readings. -/
import Derived.Test.YtjpkeibhimimpaaSl10
import Derived.Test.YtjpkeibhimimpaaNil37
import Derived.Test.YtjpkeibhimimpaaPacks37
import Derived.Test.YtjpkeibhimimpaaLast37
import Derived.Test.YtjpkeibhimimpaaTurned37
import Derived.Test.YtjpkeibhimimpaaPlays37
set_option autoImplicit false
namespace Go.Proofs
open Go.SL Go.RowKit
def lsDe : List Leaf := [.int .i64, .int .i64, .int .i64, .str]
theorem de_in {vs : List Value} (h : LeafsOk lsDe vs) : ∃ d : De, vs = tDe.enc d ∧ d.n ≤ 9223372036854775807 := by
  obtain ⟨a, r, rfl, _, h⟩ := leafs_int h
  obtain ⟨b, r, rfl, hb, h⟩ := leafs_int h
  obtain ⟨c, r, rfl, _, h⟩ := leafs_int h
  obtain ⟨t, r, rfl, ht, h⟩ := leafs_str h
  obtain rfl := leafs_nil h
  exact ⟨⟨a, b, c, t⟩, rfl, (wf_i64 hb).2⟩
theorem des_in {W : World} {v : Value} (h : InRows W lsDe v) : ∃ (S : SV) (l : List De), v = S.v ∧ (∀ a ∈ l, a.n ≤ 9223372036854775807) ∧ ∀ g, slc tDe false S l W g := by
  obtain ⟨S, l, h1, _, _, h2, h3⟩ := h.slc tDe (ok := fun a => a.n ≤ 9223372036854775807) (fun r hr => by obtain ⟨a, h1, h2⟩ := de_in hr; exact ⟨a, h1, h2⟩)
  exact ⟨S, l, h1, h2, h3⟩
def lsPr : List Leaf := [.str, .str]
theorem prs_in {W : World} {v : Value} (h : InRows W lsPr v) : ∃ (S : SV) (l : List Pr), v = S.v ∧ ∀ g, slc tP false S l W g := by
  obtain ⟨S, l, h1, _, _, h2, h3⟩ := h.slc tP (ok := fun _ => True) (fun r hr => by
    obtain ⟨a, r, rfl, _, h⟩ := leafs_str hr
    obtain ⟨b, r, rfl, _, h⟩ := leafs_str h
    obtain rfl := leafs_nil h
    exact ⟨(a, b), rfl, trivial⟩)
  exact ⟨S, l, h1, h3⟩
theorem play_calls (W : World) (v : Value) (h : InRows W lsDe v) : Calls Try.prog 5 #[v] W fun e w' => e = .returned (.bool true) ∧ Below W.heap.size W w' := by
  obtain ⟨S, l, rfl, h1, h2⟩ := des_in h
  exact law_calls (plays_calls W S l) (fun v L h => h.1) (by simpa using h2)
theorem lasts_calls (W : World) (v : Value) (h : InRows W lsDe v) : Calls Try.prog 3 #[v] W fun e w' => e = .returned (.bool true) ∧ Below W.heap.size W w' := by
  obtain ⟨S, l, rfl, h1, h2⟩ := des_in h
  exact law_calls (last_calls W S l h1) (fun v L h => h.1) (by simpa using h2)
theorem packing_calls (W : World) (v0 v1 : Value) (h : InRows W lsPr v0) (ht : ∃ l : List UInt8, v1 = SL.str l ∧ l.length ≤ maxLen) : Calls Try.prog 4 #[v0, v1] W fun e w' => e = .returned (.bool true) ∧ Below W.heap.size W w' := by
  obtain ⟨S, l, rfl, h2⟩ := prs_in h
  obtain ⟨t, rfl, _⟩ := ht
  exact law_calls (packs_calls W S l t) (fun v L h => h.1) (by simpa using h2)
theorem turning_calls (W : World) (v0 v1 v2 : Value) (h0 : ∃ l : List UInt8, v0 = SL.str l ∧ l.length ≤ maxLen) (h1 : ∃ l : List UInt8, v1 = SL.str l ∧ l.length ≤ maxLen) (h : InStruct lsDe v2) : Calls Try.prog 6 #[v0, v1, v2] W fun e w' => e = .returned (.bool true) ∧ Below W.heap.size W w' := by
  obtain ⟨a, rfl, _⟩ := h0
  obtain ⟨b, rfl, _⟩ := h1
  obtain ⟨vs, rfl, h⟩ := h
  obtain ⟨d, rfl, _⟩ := de_in h
  exact law_calls (turned_calls W a b d) (fun v L h => h.1) (by simp)
theorem none_calls (W : World) (v : Value) (h : InStruct lsDe v) : Calls Try.prog 7 #[v] W fun e w' => e = .returned (.bool true) ∧ Below W.heap.size W w' := by
  obtain ⟨vs, rfl, h⟩ := h
  obtain ⟨a, rfl, _⟩ := de_in h
  exact law_calls (none_ok W a) (fun v L h => h.1) (by simp)
end Go.Proofs
