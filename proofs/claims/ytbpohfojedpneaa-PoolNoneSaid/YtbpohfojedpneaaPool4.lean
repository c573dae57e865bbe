/- Numbers sorted, by the kit's contract. -/
import Derived.Test.YtbpohfojedpneaaPool3
import Derived.Test.YtbpohfojedpneaaKeys42
set_option autoImplicit false
namespace Go.Proofs
open Go.SL Go.Sort
def tZ : Ty Int := ⟨3, 1, fun n => [.int .i64 n], fun _ => rfl, by decide, fun a v hv => by simp at hv; subst hv; rfl⟩
instance : TyU Try.prog tZ.e (.int .i64) := inferInstanceAs (TyU Try.prog 3 (.int .i64))
instance : TyI Try.prog tZ.e 1 (.int .i64 0) 8 := inferInstanceAs (TyI Try.prog 3 1 (.int .i64 0) 8)
instance : TyU Try.prog 62 (.slice tZ.e) := inferInstanceAs (TyU Try.prog 62 (.slice 3))
theorem tZ_flat (l : List Int) : tZ.flat l = l.map (Value.int .i64) := by
  induction l with
  | nil => rfl
  | cons x l ih => rw [tZ.flat_cons, ih]; rfl
abbrev sortZ (l : List Int) : List Int := l.mergeSort fun x y => decide (x ≤ y)
theorem putCells_window (cs : List Value) (o : Nat) (d : List Int) (h : o + d.length ≤ cs.length) : (((putCells (Value.int .i64) o d.toArray cs.toArray).toList).drop o).take d.length = d.map (Value.int .i64) := by
  apply List.ext_getElem?
  intro j
  rw [List.getElem?_take, List.getElem?_map]
  by_cases hj : j < d.length
  · rw [if_pos hj, List.getElem?_drop, Array.getElem?_toList, putCells, Array.getElem?_mapIdx]
    rw [List.getElem?_toArray, List.getElem?_eq_getElem (by omega), List.getElem?_eq_getElem hj]
    simp [hj]
  · rw [if_neg hj, List.getElem?_eq_none (by omega)]; rfl
theorem sortz_ok (E : World) (S : SV) (l : List Int) (hl : l.length ≤ 100000) : Does Try.prog E 32 [S.v] [slc tZ true S l] fun v L => v = .tuple #[] ∧ L = [slc tZ true S (sortZ l)] := by
  intro F w hs
  have hR := hs.rd 0 rfl
  obtain ⟨p, ⟨hn, hcap, hp⟩, hpw⟩ := hs.at (i := 0) rfl
  rcases hp with ⟨ha, h0⟩ | ⟨_, _, hf0, _⟩ | ⟨g, o, ha, _, cs, fr, hb, hfr, hlen, hcs, hmx⟩
  · have hl0 : l = [] := List.eq_nil_of_length_eq_zero (by omega)
    have hc := AnyM.slices_Sort_int_none Try.sortA S.a S.c w
    have e : S.v = .slice S.a 0 S.c := by rw [SV.v, show S.n = 0 by omega]
    rw [← e] at hc
    refine hc.mono ?_
    rintro e w' ⟨rfl, rfl⟩
    refine ⟨_, _, rfl, ⟨rfl, rfl⟩, ?_⟩
    rw [hl0] at hs ⊢
    rw [show sortZ [] = [] by simp [sortZ]]
    exact hs
  · cases hf0
  · obtain ⟨hE, hbw⟩ := hpw g _ hb
    have hgl : g < w.heap.size := (Array.getElem?_eq_some_iff.1 hbw).1
    simp only [tZ, Nat.mul_one] at hlen
    have hH : Holds (Value.int .i64) w g o l.toArray := by
      intro j hj
      have hj : j < l.length := by simpa using hj
      refine ⟨?_, ?_⟩
      · rcases hR.2.2 with ⟨h1, _⟩ | ⟨a, h1, h2⟩
        · rw [h1] at ha; cases ha
        · rw [ha] at h1
          obtain rfl := Option.some.inj h1
          have := h2 j (.int .i64 l[j]) (by rw [tZ_flat, List.getElem?_map, List.getElem?_eq_getElem hj]; rfl)
          rw [addr_add] at this
          rw [this]
          simp [hj]
      · simp only [World.frozen?, hbw]
        rcases hfr with h | h <;> simp <;> omega
    have hc := AnyM.slices_Sort_int Try.sortA g o S.c l w hH hgl (by omega)
    have e : S.v = .slice (some ⟨g, o, none⟩) l.length S.c := by rw [SV.v, ha, hn]
    rw [← e] at hc
    refine hc.mono ?_
    rintro e w' ⟨rfl, n, os, rfl⟩
    have hsl : (sortZ l).length = l.length := List.length_mergeSort _
    refine ⟨_, _, rfl, ⟨rfl, rfl⟩, ?_⟩
    have ht : Turned w (grow (putRow (Value.int .i64) (Sort.ahead w n) g o (sortZ l).toArray) os) g (.cells (putCells (Value.int .i64) o (sortZ l).toArray cs.toArray) tZ.e fr) := by
      refine ⟨rfl, rfl, rfl, ?_, fun k hk hk2 => ?_, ?_⟩
      · simp [grow, Sort.ahead]
      · simp [grow, putRow, mapBlock, Sort.ahead, Array.getElem?_append, hk2]
        rw [Array.getElem_modify, if_neg (Ne.symm hk)]
      · simp [grow, putRow, mapBlock, Sort.ahead, Array.getElem?_append, hgl]
        rw [Array.getElem_modify, if_pos rfl, (Array.getElem?_eq_some_iff.1 hbw).2]
        rfl
    refine hs.turn_at (i := 0) rfl (fun p' ⟨_, _, hp2⟩ _ => ?_) ht
    have hp' : ∃ o', p' g = some o' := by
      rcases hp2 with ⟨hno, _⟩ | ⟨_, _, hf0, _⟩ | ⟨b2, o2, hS2, _, cs2, fr2, hb2, _⟩
      · rw [hno] at ha; cases ha
      · cases hf0
      · rw [hS2] at ha; simp only [Option.some.injEq, Addr.mk.injEq] at ha; obtain ⟨rfl, _⟩ := ha; exact ⟨_, hb2⟩
    have hsz : (putCells (Value.int .i64) o (sortZ l).toArray cs.toArray).toList.length = cs.length := by simp [putCells]
    refine ⟨hp', by rw [hsl]; exact hn, hcap, .inr (.inr ⟨g, o, ha, rfl, (putCells (Value.int .i64) o (sortZ l).toArray cs.toArray).toList, fr, by simp, by rw [hsz]; exact hfr, by rw [hsz]; simp only [tZ, Nat.mul_one]; exact hlen, ?_, hmx⟩)⟩
    rw [tZ_flat, show S.n * tZ.sz = (sortZ l).length by rw [hsl, hn]; simp [tZ]]
    exact putCells_window cs o (sortZ l) (by omega)
end Go.Proofs
