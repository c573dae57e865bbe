/- What stands in a log is what was appended, in plain Lean. -/
import Derived.Test.YtogjhcelmbhooaaSegQ
set_option autoImplicit false
namespace Go.Proofs
structure Back (g : Lg) (all : List (List UInt8)) : Prop where
  at' : ∀ f ∈ g.fs, ∀ (j : Nat) t, f.l[j]? = some t → all[f.first + j]? = some t
  le : nextOf g.fs ≤ all.length
theorem chain_le : ∀ (a : List Fl) (f : Fl), chain (a ++ [f]) → ∀ x ∈ a, x.next ≤ f.first
  | [], _, _, x, hx => by simp at hx
  | [y], f, h, x, hx => by
    simp only [List.mem_singleton] at hx
    subst hx
    have : f.first = x.next := h.1
    omega
  | y :: z :: r, f, h, x, hx => by
    have ih := chain_le (z :: r) f h.2
    rcases List.mem_cons.1 hx with rfl | hx
    · have h1 : z.first = x.next := h.1
      have h2 := ih z (by simp)
      have h3 : z.next = z.first + z.l.length := rfl
      omega
    · exact ih x hx
theorem back_new (z : Nat) : Back ⟨z, 0, []⟩ [] := ⟨by simp, by simp [nextOf]⟩
theorem next_le (g : Lg) (h : chain g.fs) : ∀ f ∈ g.fs, f.next ≤ nextOf g.fs := by
  intro f hf
  rcases last_cases g.fs with e | ⟨a, x, e⟩
  · rw [e] at hf; simp at hf
  · rw [e] at hf h ⊢
    rw [nextOf_snoc]
    rw [List.mem_append, List.mem_singleton] at hf
    rcases hf with hf | rfl
    · have := chain_le a x h f hf
      have h3 : x.next = x.first + x.l.length := rfl
      omega
    · exact Nat.le_refl _
theorem Back.sync {g : Lg} {all : List (List UInt8)} (h : Back g all) : Back (syncL g) all := by
  rcases last_cases g.fs with e | ⟨a, x, e⟩
  · have : (syncL g).fs = [] := by simp [syncL, e, onLast]
    exact ⟨by rw [this]; simp, by rw [this]; simp [nextOf]⟩
  · have e2 : (syncL g).fs = a ++ [syncF x] := by simp only [syncL]; rw [e, onLast_snoc]
    refine ⟨?_, ?_⟩
    · intro f hf
      rw [e2, List.mem_append, List.mem_singleton] at hf
      rcases hf with hf | rfl
      · exact h.at' f (by rw [e]; simp [hf])
      · exact h.at' x (by rw [e]; simp)
    · have := h.le; rw [e, nextOf_snoc] at this; rw [e2, nextOf_snoc]; exact this
theorem Back.drop {g : Lg} {all : List (List UInt8)} (seq : Int) (h : Back g all) : Back (dropL g seq).1 all :=
  ⟨fun f hf => h.at' f (List.mem_of_mem_drop hf), by have := h.le; rwa [← drop_next g.fs seq] at this⟩
/-- .. behind a crash without gaps. -/
theorem Back.crash {g : Lg} {c k : Nat} {all : List (List UInt8)} (hg : Good g c) (h : Back g all) : Back (crashL g (2 ^ k - 1)) all := by
  rcases last_cases g.fs with e | ⟨a, x, e⟩
  · have : (crashL g (2 ^ k - 1)).fs = [] := by simp [crashL, e, onLast]
    exact ⟨by rw [this]; simp, by rw [this]; simp [nextOf]⟩
  · have e2 : (crashL g (2 ^ k - 1)).fs = a ++ [crashF x (2 ^ k - 1)] := by simp only [crashL]; rw [e, onLast_snoc]
    obtain ⟨a1, a2, a3, a4⟩ := hg.file x (by rw [e]; simp)
    have htb := tear_begin x.d (2 ^ k - 1) (kb_mono k x.d.s)
    obtain ⟨j, hj, hc⟩ := prefixR_cut x.l a3 (endTo (2 ^ k - 1) x.d.s (x.d.b.length - x.d.s))
    have hl : (crashF x (2 ^ k - 1)).l = x.l.take j := by
      simp only [crashF]; rw [htb]; exact hc
    have hf1 : (crashF x (2 ^ k - 1)).first = x.first := rfl
    refine ⟨?_, ?_⟩
    · intro f hf
      rw [e2, List.mem_append, List.mem_singleton] at hf
      rcases hf with hf | rfl
      · exact h.at' f (by rw [e]; simp [hf])
      · intro i t ht
        rw [hl, List.getElem?_take] at ht
        split at ht
        · exact h.at' x (by rw [e]; simp) i t ht
        · cases ht
    · have := h.le; rw [e, nextOf_snoc] at this; rw [e2, nextOf_snoc]
      simp only [Fl.next, hl, hf1, List.length_take] at this ⊢; omega
/-- .. behind an append. -/
theorem Back.app {g : Lg} {all : List (List UInt8)} (t : List UInt8) (hc : chain g.fs) (h : Back g all) :
    ((appL g t).2.2 ≠ 0 → Back (appL g t).1 all) ∧ ((appL g t).2.2 = 0 → (appL g t).2.1 = nextOf g.fs ∧ Back (appL g t).1 (all.take (nextOf g.fs) ++ [t])) := by
  have hle := h.le
  have hlen : (all.take (nextOf g.fs)).length = nextOf g.fs := by rw [List.length_take]; omega
  have hold : ∀ f ∈ g.fs, ∀ (j : Nat) u, f.l[j]? = some u → (all.take (nextOf g.fs) ++ [t])[f.first + j]? = some u := by
    intro f hf j u hu
    have h1 := next_le g hc f hf
    have h2 := (List.getElem?_eq_some_iff.1 hu).1
    have h3 : f.next = f.first + f.l.length := rfl
    rw [List.getElem?_append_left (by omega), List.getElem?_take, if_pos (by omega)]
    exact h.at' f hf j u hu
  have hnew : (all.take (nextOf g.fs) ++ [t])[nextOf g.fs]? = some t := by
    rw [List.getElem?_append_right (by omega), hlen]; simp
  unfold appL
  split
  · exact ⟨fun _ => h, fun h => by simp at h⟩
  split
  · exact ⟨fun _ => h, fun h => by simp at h⟩
  split
  · rename_i h3
    refine ⟨fun h => absurd rfl h, fun _ => ⟨rfl, ?_⟩⟩
    rcases last_cases g.fs with e | ⟨a, x, e⟩
    · simp [roomB, e] at h3
    · have hx : nextOf g.fs = x.next := by rw [e, nextOf_snoc]
      refine ⟨?_, ?_⟩
      · intro f hf
        simp only [e, onLast_snoc, List.mem_append, List.mem_singleton] at hf
        rcases hf with hf | rfl
        · exact hold f (by rw [e]; simp [hf])
        · intro j u hu
          simp only [putF] at hu ⊢
          by_cases hj : j < x.l.length
          · rw [List.getElem?_append_left hj] at hu
            exact hold x (by rw [e]; simp) j u hu
          · rw [List.getElem?_append_right (by omega)] at hu
            by_cases hj2 : j = x.l.length
            · subst hj2
              simp at hu
              subst hu
              rw [← hnew, hx]; rfl
            · rw [List.getElem?_eq_none (by simp; omega)] at hu; cases hu
      · simp only [List.length_append, hlen, List.length_singleton]
        rw [e, onLast_snoc, nextOf_snoc, nextOf_snoc]
        simp only [Fl.next, putF, List.length_append, List.length_singleton]; omega
  · split
    · exact ⟨fun _ => h, fun h => by simp at h⟩
    · refine ⟨fun h => absurd rfl h, fun _ => ⟨rfl, ?_⟩⟩
      have hsf : ∀ f ∈ (syncL g).fs, ∃ f' ∈ g.fs, f.first = f'.first ∧ f.l = f'.l := by
        intro f hf
        rcases last_cases g.fs with e | ⟨a, x, e⟩
        · simp [syncL, e, onLast] at hf
        · simp only [syncL, e, onLast_snoc, List.mem_append, List.mem_singleton] at hf
          rcases hf with hf | rfl
          · exact ⟨f, by rw [e]; simp [hf], rfl, rfl⟩
          · exact ⟨x, by rw [e]; simp, rfl, rfl⟩
      refine ⟨?_, ?_⟩
      · intro f hf j u hu
        simp only [List.mem_append, List.mem_singleton] at hf
        rcases hf with hf | rfl
        · obtain ⟨f', hf', h1, h2⟩ := hsf f hf
          rw [h1]; rw [h2] at hu
          exact hold f' hf' j u hu
        · cases j with
          | zero => simp at hu; subst hu; exact hnew
          | succ j => simp at hu
      · simp only [nextOf_snoc, Fl.next, List.length_append, hlen, List.length_singleton]
        omega
/-- What is told is what was appended. -/
theorem back_get (all : List (List UInt8)) (x : Nat) : ∀ (fs : List Fl), chain fs → (∀ f ∈ fs, ∀ (j : Nat) t, f.l[j]? = some t → all[f.first + j]? = some t) → firstOf fs ≤ x → x < nextOf fs → ∃ t, all[x]? = some t ∧ getL fs (x : Int) = (t, 0)
  | [], _, _, _, h => by simp [nextOf] at h
  | [f], _, hb, h1, h2 => by
    have e0 : firstOf [f] = f.first := rfl
    have e1 : nextOf [f] = f.first + f.l.length := rfl
    have e2 : f.next = f.first + f.l.length := rfl
    have hj : x - f.first < f.l.length := by omega
    refine ⟨f.l[x - f.first], ?_, ?_⟩
    · have := hb f (by simp) (x - f.first) _ (List.getElem?_eq_getElem hj)
      rwa [show f.first + (x - f.first) = x by omega] at this
    · simp only [getL]
      rw [if_pos (by omega), show ((x : Int) - (f.first : Int)).toNat = x - f.first by omega]
      simp [List.getD_eq_getElem?_getD, List.getElem?_eq_getElem hj]
  | f :: f2 :: r, h, hb, h1, h2 => by
    have e : firstOf (f2 :: r) = f.next := h.1
    have e1 : nextOf (f :: f2 :: r) = nextOf (f2 :: r) := by simp [nextOf]
    have e0 : firstOf (f :: f2 :: r) = f.first := rfl
    have e2 : f.next = f.first + f.l.length := rfl
    by_cases hx : x < f.next
    · have hj : x - f.first < f.l.length := by omega
      refine ⟨f.l[x - f.first], ?_, ?_⟩
      · have := hb f (by simp) (x - f.first) _ (List.getElem?_eq_getElem hj)
        rwa [show f.first + (x - f.first) = x by omega] at this
      · rw [getL, if_pos (by omega), show ((x : Int) - (f.first : Int)).toNat = x - f.first by omega]
        simp [List.getD_eq_getElem?_getD, List.getElem?_eq_getElem hj]
    · rw [getL, if_neg (by omega)]
      exact back_get all x (f2 :: r) h.2 (fun f hf => hb f (by simp [hf])) (by omega) (by omega)
end Go.Proofs
