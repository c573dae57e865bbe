/- The document's log in files: what each function does to the whole. -/
import Derived.Test.YtogjhcelmbhooaaRef35c
set_option autoImplicit false
namespace Go.Proofs
open Go.SL
section
variable (E : World) (g : Lg) (X : SV) (rs : List Fr) (c : Nat)
theorem rg_len {g : Lg} {rs : List Fr} {c : Nat} (h : Good g c) (hf : rs.map (·.1) = g.fs) : rs.length ≤ 16 := by have := h.few; rw [← hf] at this; simpa using this
theorem rg_file {g : Lg} {rs : List Fr} {c : Nat} (h : Good g c) (hf : rs.map (·.1) = g.fs) (r : Fr) (hr : r ∈ rs) : (text r.1.l).length ≤ 8192 ∧ r.1.s ≤ (text r.1.l).length ∧ (∀ t ∈ r.1.l, t.length ≤ 4096) ∧ r.1.next ≤ c := h.file r.1 (by rw [← hf]; exact List.mem_map_of_mem hr)
theorem rappend_g (t : List UInt8) (h : Good g c) (hc : c ≤ 1000000) (hf : rs.map (·.1) = g.fs) (hn : ∀ r ∈ rs, r.2.n = r.1.l.length) : Does Try.prog E 12 [refV g.size g.sure X, str t] [slc tF true X rs, rowsC rs] fun v L => ∃ (X' : SV) (rs' : List Fr), v = .tuple #[refV (appL g t).1.size (appL g t).1.sure X', .int .i64 ((appL g t).2.1 : Int), .int .i64 (appL g t).2.2] ∧
      rs'.map (·.1) = (appL g t).1.fs ∧ (∀ r ∈ rs', r.2.n = r.1.l.length) ∧ L = [slc tF true X' rs', rowsC rs'] := by
  have h1 := rappend_ok E g.size g.sure X rs t h.size.1 h.size.2 (rg_len h hf) (by rw [hf]; exact Nat.le_trans h.next hc) (fun r hr => ⟨hn r hr, Nat.le_trans (rg_file h hf r hr).2.2.2 hc⟩) (fun r hr => ⟨(rg_file h hf r hr).1, (rg_file h hf r hr).2.1⟩)
  rw [hf] at h1
  rw [appL_size]
  exact h1
theorem rsync_g (h : Good g c) (hc : c ≤ 1000000) (hf : rs.map (·.1) = g.fs) (hn : ∀ r ∈ rs, r.2.n = r.1.l.length) : Does Try.prog E 15 [refV g.size g.sure X] [slc tF true X rs, rowsC rs] fun v L => ∃ (X' : SV) (rs' : List Fr), v = refV (syncL g).size (syncL g).sure X' ∧
      rs'.map (·.1) = (syncL g).fs ∧ (∀ r ∈ rs', r.2.n = r.1.l.length) ∧ L = [slc tF true X' rs', rowsC rs'] := by
  have hrl := rg_len h hf
  have h1 := rsync35_ok E g.size g.sure X rs (by omega) (fun r hr => ⟨hn r hr, by have := (rg_file h hf r hr).2.2.2; omega⟩) (fun r hr => ⟨(rg_file h hf r hr).1, (rg_file h hf r hr).2.1⟩)
  intro F w hs
  refine (h1 (star (rowsC rs) F) w ?_).mono ?_
  · have h2 := Sat.two (A := [slc tF true X rs]) hs
    have h3 : Sat E w (rowsC rs :: F :: [slc tF true X rs]) := Sat.rot (A := [slc tF true X rs]) hs
    exact Sat.rot (A := [_]) (B := [_]) (Sat.mkstar h3)
  · rintro e w' ⟨v, L', he, ⟨X', rfl, rfl⟩, hs'⟩
    refine ⟨_, _, he, ⟨X', onR rs syncF, ?_, by rw [onR_fst, hf]; rfl, onR_n rs hn, rfl⟩, ?_⟩
    · rw [hf]
      have e : (rs = []) = (g.fs = []) := by rw [← hf]; simp
      simp only [syncL, e]
    · rw [rows_onR]
      have h4 : Sat E w' (star (rowsC rs) F :: [slc tF true X' (onR rs syncF)]) := Sat.rot (A := [_]) hs'
      exact Sat.rot (A := [rowsC rs, F]) (B := [_]) (Sat.star h4)
theorem rdrop_g (seq : Int) (h : Good g c) (hf : rs.map (·.1) = g.fs) (hn : ∀ r ∈ rs, r.2.n = r.1.l.length) : Does Try.prog E 16 [refV g.size g.sure X, .int .i64 seq] [slc tF true X rs, rowsC rs] fun v L => ∃ (X' : SV) (rs' : List Fr), v = .tuple #[refV (dropL g seq).1.size (dropL g seq).1.sure X', .int .i64 ((dropL g seq).2 : Int)] ∧
      rs'.map (·.1) = (dropL g seq).1.fs ∧ (∀ r ∈ rs', r.2.n = r.1.l.length) ∧ L = [slc tF true X' rs', rowsC rs'] := by
  have h1 := rdrop35_ok E g.size g.sure X rs seq (rg_len h hf) (by rw [hf]; exact h.ch)
  rw [hf] at h1
  exact h1.mono fun v L ⟨X', hv, hL⟩ => ⟨X', _, hv, by rw [List.map_drop, hf]; rfl, fun r hr => hn r (List.mem_of_mem_drop hr), hL⟩
theorem rcrash_g (keep : Nat) (hk : keep < 2 ^ 64) (h : Good g c) (hc : c ≤ 1000000) (hf : rs.map (·.1) = g.fs) (hn : ∀ r ∈ rs, r.2.n = r.1.l.length) : Does Try.prog E 19 [refV g.size g.sure X, .int .u64 (keep : Int)] [slc tF true X rs, rowsC rs] fun v L => ∃ (X' : SV) (rs' : List Fr), v = refV (crashL g keep).size (crashL g keep).sure X' ∧
      rs'.map (·.1) = (crashL g keep).fs ∧ (∀ r ∈ rs', r.2.n = r.1.l.length) ∧ L = [slc tF true X' rs', rowsC rs'] := by
  have h1 := rcrash35_ok E g.size g.sure keep X rs hk (rg_len h hf) (fun r hr => ⟨hn r hr, Nat.le_trans (rg_file h hf r hr).2.2.2 hc⟩) (fun r hr => ⟨(rg_file h hf r hr).1, (rg_file h hf r hr).2.1⟩)
  rw [hf] at h1
  have e : (rs = []) = (g.fs = []) := by rw [← hf]; simp
  simp only [e] at h1
  exact h1
theorem rnext_g (h : Good g c) (hc : c ≤ 1000000) (hf : rs.map (·.1) = g.fs) (hn : ∀ r ∈ rs, r.2.n = r.1.l.length) : Does Try.prog E 23 [refV g.size g.sure X] [slc tF true X rs] fun v L => v = .int .i64 (nextOf g.fs : Int) ∧ L = [slc tF true X rs] := by
  have hrl := rg_len h hf
  have h1 := rnext35_ok E g.size g.sure X rs (by omega) (fun r hr => ⟨hn r hr, by have := (rg_file h hf r hr).2.2.2; omega⟩)
  rw [hf] at h1
  exact h1
theorem rfirst_g (hf : rs.map (·.1) = g.fs) : Does Try.prog E 21 [refV g.size g.sure X] [slc tF true X rs] fun v L => v = .int .i64 (firstOf g.fs : Int) ∧ L = [slc tF true X rs] := by
  have h1 := rfirst35_ok E g.size g.sure X rs
  rw [hf] at h1
  exact h1
theorem rget_g (i : Int) (h : Good g c) (hc : c ≤ 1000000) (hf : rs.map (·.1) = g.fs) (hn : ∀ r ∈ rs, r.2.n = r.1.l.length) (hi : i ≤ 9000000000000000000) : Does Try.prog E 27 [refV g.size g.sure X, .int .i64 i] [slc tF true X rs, rowsC rs] fun v L => v = getV g.fs i ∧ L = [slc tF true X rs, rowsC rs] := by
  have h1 := rget35_ok E g.size g.sure X rs i (rg_len h hf) (fun r hr => ⟨hn r hr, by have := (rg_file h hf r hr).2.2.2; omega⟩) hi
  rw [hf] at h1
  exact h1
end
end Go.Proofs
