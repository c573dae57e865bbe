/- Part 19 of the texts below the row: DiskQ, SegQ, BackQ, Snap1, Snap2, Snap3. -/
import Derived.Test.YtgifbeecmidciaaGreatM18
/- What is played on a disk, and what a crash leaves: plain laws. -/
set_option autoImplicit false
namespace Go.Proofs
theorem torn_get (keep s : Nat) (b : List UInt8) (k i : Nat) (h : i < s ∨ kb keep s i = true) : (torn keep s b k)[i]? = b[i]? := by
 simp only [torn, List.getElem?_mapIdx]
 cases b[i]? with
 | none => rfl
 | some x =>
  simp only [Option.map_some, Option.some.injEq]
  rcases h with h | h
  ·rw [if_neg (by omega)]
  ·rw [if_neg (by rw [h]; simp)]
/-- What was synced stays. -/
theorem tear_sure (d : Dk) (keep : Nat) : (tear d keep).take d.s = d.b.take d.s := by
 have he := endTo_le keep d.s (d.b.length - d.s)
 unfold tear
 rw [List.take_take, Nat.min_eq_left he.1]
 apply List.ext_getElem?
 intro i
 rw [List.getElem?_take, List.getElem?_take]
 split
 ·rename_i hi; exact torn_get _ _ _ _ _ (.inl hi)
 ·rfl
theorem endTo_kept (keep s : Nat) (hm : ∀ i j, i ≤ j → kb keep s (s + j) = true → kb keep s (s + i) = true) : ∀ k i, s ≤ i → i < endTo keep s k → kb keep s i = true
 | 0, i, h1, h2 => by simp only [endTo] at h2; omega
 | k + 1, i, h1, h2 => by
  simp only [endTo] at h2
  split at h2
  ·rename_i hk
   have := hm (i - s) k (by omega) hk
   rwa [show s + (i - s) = i by omega] at this
  ·exact endTo_kept keep s hm k i h1 h2
/-- A crash without gaps leaves a beginning. -/
theorem tear_begin (d : Dk) (keep : Nat) (hm : ∀ i j, i ≤ j → kb keep d.s (d.s + j) = true → kb keep d.s (d.s + i) = true) : tear d keep = d.b.take (endTo keep d.s (d.b.length - d.s)) := by
 unfold tear
 apply List.ext_getElem?
 intro i
 rw [List.getElem?_take, List.getElem?_take]
 split
 ·rename_i hi
  apply torn_get
  by_cases h : i < d.s
  ·exact .inl h
  ·exact .inr (endTo_kept keep d.s hm _ i (by omega) hi)
 ·rfl
theorem bits_full (k i : Nat) : ((2 ^ k - 1) >>> i % 2 == 1) = decide (i < k) := by
 have h := Nat.testBit_two_pow_sub_one k i
 rw [Nat.testBit_eq_decide_div_mod_eq] at h
 rw [Nat.shiftRight_eq_div_pow]
 by_cases hi : i < k
 ·simp only [hi, decide_true, decide_eq_true_eq] at h
  simp [h, hi]
 ·simp only [hi, decide_false, decide_eq_false_iff_not] at h
  simp [h, hi]
theorem kb_full (k s i : Nat) : kb (2 ^ k - 1) s i = (decide (i / 64 - s / 64 < 64) && decide (i / 64 - s / 64 < k)) := by
 unfold kb; rw [bits_full]
theorem kb_mono (k s : Nat) : ∀ i j, i ≤ j → kb (2 ^ k - 1) s (s + j) = true → kb (2 ^ k - 1) s (s + i) = true := by
 intro i j hij h
 rw [kb_full] at h ⊢
 simp only [Bool.and_eq_true, decide_eq_true_eq] at h ⊢
 omega
end Go.Proofs
/- What is there behind a drop, a crash, in plain Lean. -/
set_option autoImplicit false
namespace Go.Proofs
theorem drop_next (fs : List Fl) (seq : Int) : nextOf (fs.drop (dropN fs seq)) = nextOf fs := by
 rcases dropN_lt fs seq with rfl | h
 ·simp [dropN]
 ·unfold nextOf
  rw [List.getLast?_drop, if_neg (by omega)]
theorem drop_first : ∀ (fs : List Fl) (seq : Int), chain fs → firstOf fs ≤ firstOf (fs.drop (dropN fs seq)) ∧ (firstOf (fs.drop (dropN fs seq)) = firstOf fs ∨ (firstOf (fs.drop (dropN fs seq)) : Int) ≤ seq)
 | [], seq, _ => by simp [dropN]
 | [f], seq, _ => by simp [dropN]
 | f :: f2 :: r, seq, h => by
  obtain ⟨i1, i2⟩ := drop_first (f2 :: r) seq h.2
  have e : firstOf (f2 :: r) = f.next := h.1
  have e0 : firstOf (f :: f2 :: r) = f.first := rfl
  have hn : f.next = f.first + f.l.length := rfl
  simp only [dropN]
  split
  ·rename_i h1
   rw [List.drop_succ_cons, e0]
   refine ⟨by omega, .inr ?_⟩
   rcases i2 with i2 | i2 <;> omega
  ·exact ⟨Nat.le_refl _, .inl rfl⟩
/-- Another last file, which has the same first ones. -/
theorem getL_last (f f' : Fl) (x : Nat) (h : f.first = f'.first) (j : Nat) (hx : x < f.first + j) (h1 : j ≤ f.l.length) (h2 : j ≤ f'.l.length) (h3 : f.l.take j = f'.l.take j) : ∀ a : List Fl, getL (a ++ [f]) (x : Int) = getL (a ++ [f']) (x : Int)
 | [] => by
  have hn : f.next = f.first + f.l.length := rfl
  have hn' : f'.next = f'.first + f'.l.length := rfl
  simp only [List.nil_append, getL]
  by_cases hc : (f.first : Int) ≤ x
  ·rw [if_pos (by omega), if_pos (by omega)]
   have e : ((x : Int) - (f.first : Int)).toNat = x - f.first := by omega
   rw [← h, e]
   congr 1
   have e2 : x - f.first < j := by omega
   have e3 : (f.l.take j)[x - f.first]? = (f'.l.take j)[x - f.first]? := by rw [h3]
   rw [List.getElem?_take, List.getElem?_take, if_pos e2, if_pos e2] at e3
   rw [List.getD_eq_getElem?_getD, List.getD_eq_getElem?_getD, e3]
  ·rw [if_neg (by omega), if_neg (by omega)]
 | b :: a => by
  simp only [List.cons_append, getL]
  rw [getL_last f f' x h j hx h1 h2 h3 a]
/-- The least that is not synced stands at a record's end. -/
def SureAt (g : Lg) : Prop := (g.fs = [] ∧ g.sure = 0) ∨ ∃ (a : List Fl) (f : Fl) (j : Nat), g.fs = a ++ [f] ∧ j ≤ f.l.length ∧ f.s = (text (f.l.take j)).length ∧ g.sure = f.first + j
theorem sureAt_new (z : Nat) : SureAt ⟨z, 0, []⟩ := .inl ⟨rfl, rfl⟩
theorem SureAt.sync {g : Lg} (_ : SureAt g) (h : SureAt g) : SureAt (syncL g) := by
 rcases last_cases g.fs with e | ⟨a, f, e⟩
 ·left
  rcases h with ⟨_, h⟩ | ⟨a, f, j, h, _⟩
  ·exact ⟨by simp [syncL, e, onLast], by simp [syncL, e, h]⟩
  ·rw [e] at h; simp at h
 ·right
  refine ⟨a, syncF f, f.l.length, ?_, Nat.le_refl _, by simp [syncF], ?_⟩
  ·simp only [syncL]; rw [e, onLast_snoc]
  ·simp only [syncL]; rw [if_neg (by rw [e]; simp), e, nextOf_snoc]; rfl
theorem SureAt.app {g : Lg} (t : List UInt8) (h : SureAt g) : SureAt (appL g t).1 := by
 unfold appL
 split
 ·exact h
 split
 ·exact h
 split
 ·rename_i h3
  rcases h with ⟨e, _⟩ | ⟨a, f, j, e, h1, h2, h4⟩
  ·simp [roomB, e] at h3
  ·right
   refine ⟨a, putF f t, j, by simp only; rw [e, onLast_snoc], by simp [putF]; omega, ?_, h4⟩
   simp only [putF]
   rw [List.take_append_of_le_length h1]; exact h2
 ·split
  ·exact h
  ·right
   have hs := h.sync h
   refine ⟨(syncL g).fs, ⟨nextOf g.fs, [t], 0⟩, 0, rfl, Nat.zero_le _, by simp [text], ?_⟩
   simp only [Nat.add_zero]
   rcases last_cases g.fs with e | ⟨a, f, e⟩
   ·rcases h with ⟨_, h⟩ | ⟨a, f, j, h, _⟩
    ·simp [syncL, e, h, nextOf]
    ·rw [e] at h; simp at h
   ·simp only [syncL]; rw [if_neg (by rw [e]; simp)]
theorem SureAt.drop {g : Lg} (seq : Int) (h : SureAt g) : SureAt (dropL g seq).1 := by
 rcases h with ⟨e, h⟩ | ⟨a, f, j, e, h1, h2, h3⟩
 ·left; exact ⟨by simp [dropL, e], h⟩
 ·right
  have hl := (dropN_lt g.fs seq).resolve_left (by rw [e]; simp)
  refine ⟨a.drop (dropN g.fs seq), f, j, ?_, h1, h2, h3⟩
  simp only [dropL]
  rw [e] at hl ⊢
  rw [List.drop_append_of_le_length (by simp at hl; omega)]
/-- What was sure is there behind a crash. -/
theorem crash_sure {g : Lg} {c keep : Nat} (hg : Good g c) (h : SureAt g) : firstOf (crashL g keep).fs = firstOf g.fs ∧ g.sure ≤ nextOf (crashL g keep).fs ∧ (crashL g keep).sure = nextOf (crashL g keep).fs ∧ ∀ x : Nat, x < g.sure → getL (crashL g keep).fs (x : Int) = getL g.fs (x : Int) := by
 rcases h with ⟨e, h⟩ | ⟨a, f, j, e, h1, h2, h3⟩
 ·have : (crashL g keep).fs = [] := by simp [crashL, e, onLast]
  rw [this, e, h]
  refine ⟨rfl, Nat.zero_le _, by simp [crashL, e, h, nextOf], fun x hx => rfl⟩
 ·obtain ⟨a1, a2, a3, a4⟩ := hg.file f (by rw [e]; simp)
  have e2 : (crashL g keep).fs = a ++ [crashF f keep] := by simp only [crashL]; rw [e, onLast_snoc]
  have hsu := tear_sure f.d keep
  have htk : (tear f.d keep).take (text (f.l.take j)).length = text (f.l.take j) := by
   rw [← h2]
   refine hsu.trans ?_
   show (text f.l).take f.s = _
   rw [h2]
   have e1 : text f.l = text (f.l.take j) ++ text (f.l.drop j) := by rw [← text_append, List.take_append_drop]
   rw [e1, List.take_left]
  have hsp : tear f.d keep = text (f.l.take j) ++ (tear f.d keep).drop (text (f.l.take j)).length := by
   conv => lhs; rw [← List.take_append_drop (text (f.l.take j)).length (tear f.d keep), htk]
  have hpa := prefixR_app (f.l.take j) ((tear f.d keep).drop (text (f.l.take j)).length) (fun t ht => a3 t (List.mem_of_mem_take ht))
  rw [← hsp] at hpa
  have hcl : (crashF f keep).l = f.l.take j ++ (prefixR ((tear f.d keep).drop (text (f.l.take j)).length)).1 := by simp only [crashF]; rw [hpa]
  have hj : (f.l.take j).length = j := by rw [List.length_take]; omega
  have hj2 : j ≤ (crashF f keep).l.length := by rw [hcl, List.length_append, hj]; omega
  have hf : (crashF f keep).first = f.first := rfl
  refine ⟨?_, ?_, ?_, ?_⟩
  ·rw [e2, e]
   cases a <;> rfl
  ·rw [e2, nextOf_snoc, h3]; simp only [Fl.next, hf]; omega
  ·simp only [crashL]; rw [if_neg (by rw [e]; simp)]
  ·intro x hx
   rw [h3] at hx
   rw [e2, e]
   refine (getL_last f (crashF f keep) x hf.symm j (by omega) h1 hj2 ?_ a).symm
   rw [hcl, List.take_append_of_le_length (by omega), List.take_take, Nat.min_self]
end Go.Proofs
/- What stands in a log is what was appended, in plain Lean. -/
set_option autoImplicit false
namespace Go.Proofs
structure Back (g : Lg) (all : List (List UInt8)) : Prop where
 at' : ∀ f ∈ g.fs, ∀ (j : Nat) t, f.l[j]? = some t → all[f.first + j]? = some t
 le : nextOf g.fs ≤ all.length
theorem chain_le : ∀ (a : List Fl) (f : Fl), chain (a ++ [f]) → ∀ x ∈ a, x.next ≤ f.first
 | [], _, _, x, hx => by simp at hx
 | [y], f, h, x, hx => by
  simp only [List.mem_singleton] at hx
  subst hx
  have : f.first = x.next := h.1
  omega
 | y :: z :: r, f, h, x, hx => by
  have ih := chain_le (z :: r) f h.2
  rcases List.mem_cons.1 hx with rfl | hx
  ·have h1 : z.first = x.next := h.1
   have h2 := ih z (by simp)
   have h3 : z.next = z.first + z.l.length := rfl
   omega
  ·exact ih x hx
theorem next_le (g : Lg) (h : chain g.fs) : ∀ f ∈ g.fs, f.next ≤ nextOf g.fs := by
 intro f hf
 rcases last_cases g.fs with e | ⟨a, x, e⟩
 ·rw [e] at hf; simp at hf
 ·rw [e] at hf h ⊢
  rw [nextOf_snoc]
  rw [List.mem_append, List.mem_singleton] at hf
  rcases hf with hf | rfl
  ·have := chain_le a x h f hf
   have h3 : x.next = x.first + x.l.length := rfl
   omega
  ·exact Nat.le_refl _
theorem Back.sync {g : Lg} {all : List (List UInt8)} (h : Back g all) : Back (syncL g) all := by
 rcases last_cases g.fs with e | ⟨a, x, e⟩
 ·have : (syncL g).fs = [] := by simp [syncL, e, onLast]
  exact ⟨by rw [this]; simp, by rw [this]; simp [nextOf]⟩
 ·have e2 : (syncL g).fs = a ++ [syncF x] := by simp only [syncL]; rw [e, onLast_snoc]
  refine ⟨?_, ?_⟩
  ·intro f hf
   rw [e2, List.mem_append, List.mem_singleton] at hf
   rcases hf with hf | rfl
   ·exact h.at' f (by rw [e]; simp [hf])
   ·exact h.at' x (by rw [e]; simp)
  ·have := h.le; rw [e, nextOf_snoc] at this; rw [e2, nextOf_snoc]; exact this
theorem Back.drop {g : Lg} {all : List (List UInt8)} (seq : Int) (h : Back g all) : Back (dropL g seq).1 all :=
 ⟨fun f hf => h.at' f (List.mem_of_mem_drop hf), by have := h.le; rwa [← drop_next g.fs seq] at this⟩
/-- .. behind a crash without gaps. -/
theorem Back.crash {g : Lg} {c k : Nat} {all : List (List UInt8)} (hg : Good g c) (h : Back g all) : Back (crashL g (2 ^ k - 1)) all := by
 rcases last_cases g.fs with e | ⟨a, x, e⟩
 ·have : (crashL g (2 ^ k - 1)).fs = [] := by simp [crashL, e, onLast]
  exact ⟨by rw [this]; simp, by rw [this]; simp [nextOf]⟩
 ·have e2 : (crashL g (2 ^ k - 1)).fs = a ++ [crashF x (2 ^ k - 1)] := by simp only [crashL]; rw [e, onLast_snoc]
  obtain ⟨a1, a2, a3, a4⟩ := hg.file x (by rw [e]; simp)
  have htb := tear_begin x.d (2 ^ k - 1) (kb_mono k x.d.s)
  obtain ⟨j, hj, hc⟩ := prefixR_cut x.l a3 (endTo (2 ^ k - 1) x.d.s (x.d.b.length - x.d.s))
  have hl : (crashF x (2 ^ k - 1)).l = x.l.take j := by
   simp only [crashF]; rw [htb]; exact hc
  have hf1 : (crashF x (2 ^ k - 1)).first = x.first := rfl
  refine ⟨?_, ?_⟩
  ·intro f hf
   rw [e2, List.mem_append, List.mem_singleton] at hf
   rcases hf with hf | rfl
   ·exact h.at' f (by rw [e]; simp [hf])
   ·intro i t ht
    rw [hl, List.getElem?_take] at ht
    split at ht
    ·exact h.at' x (by rw [e]; simp) i t ht
    ·cases ht
  ·have := h.le; rw [e, nextOf_snoc] at this; rw [e2, nextOf_snoc]
   simp only [Fl.next, hl, hf1, List.length_take] at this ⊢; omega
/-- .. behind an append. -/
theorem Back.app {g : Lg} {all : List (List UInt8)} (t : List UInt8) (hc : chain g.fs) (h : Back g all) :
 ((appL g t).2.2 ≠ 0 → Back (appL g t).1 all) ∧ ((appL g t).2.2 = 0 → (appL g t).2.1 = nextOf g.fs ∧ Back (appL g t).1 (all.take (nextOf g.fs) ++ [t])) := by
 have hle := h.le
 have hlen : (all.take (nextOf g.fs)).length = nextOf g.fs := by rw [List.length_take]; omega
 have hold : ∀ f ∈ g.fs, ∀ (j : Nat) u, f.l[j]? = some u → (all.take (nextOf g.fs) ++ [t])[f.first + j]? = some u := by
  intro f hf j u hu
  have h1 := next_le g hc f hf
  have h2 := (List.getElem?_eq_some_iff.1 hu).1
  have h3 : f.next = f.first + f.l.length := rfl
  rw [List.getElem?_append_left (by omega), List.getElem?_take, if_pos (by omega)]
  exact h.at' f hf j u hu
 have hnew : (all.take (nextOf g.fs) ++ [t])[nextOf g.fs]? = some t := by
  rw [List.getElem?_append_right (by omega), hlen]; simp
 unfold appL
 split
 ·exact ⟨fun _ => h, fun h => by simp at h⟩
 split
 ·exact ⟨fun _ => h, fun h => by simp at h⟩
 split
 ·rename_i h3
  refine ⟨fun h => absurd rfl h, fun _ => ⟨rfl, ?_⟩⟩
  rcases last_cases g.fs with e | ⟨a, x, e⟩
  ·simp [roomB, e] at h3
  ·have hx : nextOf g.fs = x.next := by rw [e, nextOf_snoc]
   refine ⟨?_, ?_⟩
   ·intro f hf
    simp only [e, onLast_snoc, List.mem_append, List.mem_singleton] at hf
    rcases hf with hf | rfl
    ·exact hold f (by rw [e]; simp [hf])
    ·intro j u hu
     simp only [putF] at hu ⊢
     by_cases hj : j < x.l.length
     ·rw [List.getElem?_append_left hj] at hu
      exact hold x (by rw [e]; simp) j u hu
     ·rw [List.getElem?_append_right (by omega)] at hu
      by_cases hj2 : j = x.l.length
      ·subst hj2
       simp at hu
       subst hu
       rw [← hnew, hx]; rfl
      ·rw [List.getElem?_eq_none (by simp; omega)] at hu; cases hu
   ·simp only [List.length_append, hlen, List.length_singleton]
    rw [e, onLast_snoc, nextOf_snoc, nextOf_snoc]
    simp only [Fl.next, putF, List.length_append, List.length_singleton]; omega
 ·split
  ·exact ⟨fun _ => h, fun h => by simp at h⟩
  ·refine ⟨fun h => absurd rfl h, fun _ => ⟨rfl, ?_⟩⟩
   have hsf : ∀ f ∈ (syncL g).fs, ∃ f' ∈ g.fs, f.first = f'.first ∧ f.l = f'.l := by
    intro f hf
    rcases last_cases g.fs with e | ⟨a, x, e⟩
    ·simp [syncL, e, onLast] at hf
    ·simp only [syncL, e, onLast_snoc, List.mem_append, List.mem_singleton] at hf
     rcases hf with hf | rfl
     ·exact ⟨f, by rw [e]; simp [hf], rfl, rfl⟩
     ·exact ⟨x, by rw [e]; simp, rfl, rfl⟩
   refine ⟨?_, ?_⟩
   ·intro f hf j u hu
    simp only [List.mem_append, List.mem_singleton] at hf
    rcases hf with hf | rfl
    ·obtain ⟨f', hf', h1, h2⟩ := hsf f hf
     rw [h1]; rw [h2] at hu
     exact hold f' hf' j u hu
    ·cases j with
     | zero => simp at hu; subst hu; exact hnew
     | succ j => simp at hu
   ·simp only [nextOf_snoc, Fl.next, List.length_append, hlen, List.length_singleton]
    omega
/-- What is told is what was appended. -/
theorem back_get (all : List (List UInt8)) (x : Nat) : ∀ (fs : List Fl), chain fs → (∀ f ∈ fs, ∀ (j : Nat) t, f.l[j]? = some t → all[f.first + j]? = some t) → firstOf fs ≤ x → x < nextOf fs → ∃ t, all[x]? = some t ∧ getL fs (x : Int) = (t, 0)
 | [], _, _, _, h => by simp [nextOf] at h
 | [f], _, hb, h1, h2 => by
  have e0 : firstOf [f] = f.first := rfl
  have e1 : nextOf [f] = f.first + f.l.length := rfl
  have e2 : f.next = f.first + f.l.length := rfl
  have hj : x - f.first < f.l.length := by omega
  refine ⟨f.l[x - f.first], ?_, ?_⟩
  ·have := hb f (by simp) (x - f.first) _ (List.getElem?_eq_getElem hj)
   rwa [show f.first + (x - f.first) = x by omega] at this
  ·simp only [getL]
   rw [if_pos (by omega), show ((x : Int) - (f.first : Int)).toNat = x - f.first by omega]
   simp [List.getD_eq_getElem?_getD, List.getElem?_eq_getElem hj]
 | f :: f2 :: r, h, hb, h1, h2 => by
  have e : firstOf (f2 :: r) = f.next := h.1
  have e1 : nextOf (f :: f2 :: r) = nextOf (f2 :: r) := by simp [nextOf]
  have e0 : firstOf (f :: f2 :: r) = f.first := rfl
  have e2 : f.next = f.first + f.l.length := rfl
  by_cases hx : x < f.next
  ·have hj : x - f.first < f.l.length := by omega
   refine ⟨f.l[x - f.first], ?_, ?_⟩
   ·have := hb f (by simp) (x - f.first) _ (List.getElem?_eq_getElem hj)
    rwa [show f.first + (x - f.first) = x by omega] at this
   ·rw [getL, if_pos (by omega), show ((x : Int) - (f.first : Int)).toNat = x - f.first by omega]
    simp [List.getD_eq_getElem?_getD, List.getElem?_eq_getElem hj]
  ·rw [getL, if_neg (by omega)]
   exact back_get all x (f2 :: r) h.2 (fun f hf => hb f (by simp [hf])) (by omega) (by omega)
end Go.Proofs
/- A slot: its words, what they are meant to be, is it right. -/
set_option autoImplicit false
namespace Go.Proofs
open Go.SL
attribute [local irreducible] J JL QOp JOp seqQ blockQ loopQ retQ slc cel hex star pur stars Does RV Ent pAt
instance : Places Tryz.prog 159 [(0, 1), (1, 1), (2, 1)] [.int .u32 0, .int .u32 0, .int .u32 0] := Places.arr3 (k := .u32) rfl
theorem eqg3 : EqG Tryz.prog 159 := ⟨by kernel_rfl⟩
def ws (l : List UInt8) (k : Nat) : List Value := (List.range 3).map fun j => Value.int .u32 (wd l k j : Int)
theorem ws_get (l : List UInt8) (k j : Nat) (h : j < 3) : (ws l k)[j]? = some (Value.int .u32 (wd l k j : Int)) := by
 simp [ws, h]
theorem ws_set (l : List UInt8) (k : Nat) (h : k < l.length) (h2 : k < 12) : (ws l k).take (k / 4) ++ [Value.int .u32 (wd l (k + 1) (k / 4) : Int)] ++ (ws l k).drop (k / 4 + 1) = ws l (k + 1) := by
 have hl : k / 4 < (ws l k).length := by simp [ws]; omega
 have e : (ws l k).take (k / 4) ++ [Value.int .u32 (wd l (k + 1) (k / 4) : Int)] ++ (ws l k).drop (k / 4 + 1) = (ws l k).set (k / 4) (Value.int .u32 (wd l (k + 1) (k / 4) : Int)) := by
  rw [List.set_eq_take_append_cons_drop, if_pos hl]; simp
 rw [e]
 apply List.ext_getElem?
 intro j
 rw [List.getElem?_set]
 by_cases hj : k / 4 = j
 ·subst hj
  rw [if_pos rfl, if_pos hl, ws_get _ _ _ (by omega)]
 ·rw [if_neg hj]
  by_cases h3 : j < 3
  ·rw [ws_get _ _ _ h3, ws_get _ _ _ h3, wd_other l k j h (fun h => hj h.symm)]
  ·simp [ws, h3]
abbrev wsV (l : List UInt8) : Value := .agg #[.int .u32 (nw l 0 : Int), .int .u32 (nw l 1 : Int), .int .u32 (nw l 2 : Int)]
theorem ws_12 (l : List UInt8) : ws l 12 = [.int .u32 (nw l 0 : Int), .int .u32 (nw l 1 : Int), .int .u32 (nw l 2 : Int)] := by
 have e : ws l 12 = [.int .u32 (wd l 12 0 : Int), .int .u32 (wd l 12 1 : Int), .int .u32 (wd l 12 2 : Int)] := rfl
 rw [e, wd_12 l 0 (by decide), wd_12 l 1 (by decide), wd_12 l 2 (by decide)]
theorem words_ok (E : World) (S : SV) (l : List UInt8) (hl : 12 ≤ l.length) : Does Tryz.prog E 69 [.agg #[S.v]] [slc tB true S l] fun v L => v = wsV l ∧ L = [slc tB true S l] := by
 refine Does.of Tryz.func69 rfl Tryz.ntmps69 rfl rfl fun F => ?_
 refine J.norm ?_
 refine Sr ?_
 refine L_o rfl rfl rfl (O_box rfl fun b1 => ?_)
 refine L_o rfl rfl rfl (O_alloc fun b2 => ?_)
 refine Ln ?_
 refine Sr ?_
 refine L_o rfl rfl rfl (O_alloc fun b3 => ?_)
 refine Ln ?_
 refine J_seq ?_
 refine Sr ?_
 refine Lq (Q_move rfl) ?_
 refine Ln ?_
 refine J_block ?_
 refine J_loop (fun k : Nat => k ≤ 12) (fun k => [(1, .pointer (some ⟨b1, 0, none⟩)), (2, .pointer (some ⟨b2, 0, none⟩)), (3, .pointer (some ⟨b3, 0, none⟩)), (5, .int .i64 (k : Int))])
  (fun k => [cel b3 (ws l k) 159, cel b2 [.int .u32 0, .int .u32 0, .int .u32 0] 159, cel b1 [S.v] 140, slc tB true S l, F]) (fun k => 12 - k) 0 (by omega) ⟨rfl, rfl, rfl, rfl, trivial⟩ (Ent.refl _) ?_
 intro k hk
 refine Sr ?_
 refine Lq (Q_lss rfl rfl) ?_
 refine Ln ?_
 refine J_seq ?_
 refine J_condD rfl (fun h => ?_) (fun h => ?_)
 ·have hlt : k < 12 := by omega
  have hlt2 : k < l.length := by omega
  have hq : IntKind.i64.wrap (Int.tdiv (k : Int) 4) = ((k / 4 : Nat) : Int) := by
   have : Int.tdiv (k : Int) 4 = ((k / 4 : Nat) : Int) := by rw [Int.tdiv_eq_ediv_of_nonneg (by omega)]; omega
   rw [this]; exact IntWalk.i64_in _ (by omega)
  have hw1 : wd l k (k / 4) * 2 ^ 8 % 2 ^ 32 < 2 ^ 32 := Nat.mod_lt _ (by decide)
  have hw2 : l[k].toNat % 2 ^ 32 < 2 ^ 32 := Nat.mod_lt _ (by decide)
  refine J_skip ?_
  refine seqQ_normal ?_
  refine J_seq ?_
  refine J_block ?_
  refine Sr ?_
  refine Lq (Q_move rfl) ?_
  refine Lq (Q_assign rfl) ?_
  refine Ln ?_
  refine DL [0,1,2,3,4,5,6,7,8,9,10,11,12,13,14] (.quiet 0 (.quiet 1 (.quiet 2 (.quiet 3 (.quiet 4 (.quiet 5 (.quiet 6 (.quiet 7 (.quiet 8 (.quiet 9 (.quiet 10 (.quiet 11 (.quiet 12 (.quiet 13 (.quiet 14 (.loud 15 .done)))))))))))))))) Tryz.mixed ?_
  refine Sq (Ent.refl _) rfl (Q_move rfl) ?_
  refine Sq (Ent.refl _) rfl (Q_quo rfl rfl (by decide) hq) ?_
  refine Sq (Ent.refl _) rfl (Q_move rfl) ?_
  refine Sq (Ent.refl _) rfl (Q_quo rfl rfl (by decide) hq) ?_
  refine Sq (Ent.refl _) rfl (Q_ia (o' := k / 4) (k / 4) rfl rfl rfl (by omega) (by omega)) ?_
  refine Sq (Ent.refl _) rfl (Q_ld 0 (v := .int .u32 (wd l k (k / 4) : Int)) rfl rfl rfl (ws_get l k _ (by omega))) ?_
  refine Sq (Ent.refl _) rfl (Q_shlN (wd l k (k / 4)) 8 rfl rfl rfl rfl (by decide)) ?_
  refine Sq (Ent.refl _) rfl (Q_fa0 rfl) ?_
  refine Sq (Ent.refl _) rfl (Q_ld 2 rfl rfl rfl rfl) ?_
  refine Sq (Ent.refl _) rfl (Q_move rfl) ?_
  refine Sq (Ent.refl _) rfl (Q_ixAt 3 k rfl rfl rfl rfl hlt2 rfl) ?_
  refine Sq (Ent.refl _) rfl (Q_ldEAt 3 k 0 (v := .int .u8 (l[k].toNat : Int)) rfl rfl rfl rfl hlt2 (by decide) rfl) ?_
  refine Sq (Ent.refl _) rfl (Q_cvtN l[k].toNat rfl rfl) ?_
  refine Sq (Ent.refl _) rfl ((Q_orN (wd l k (k / 4) * 2 ^ 8 % 2 ^ 32) (l[k].toNat % 2 ^ 32) rfl rfl rfl rfl hw1 hw2).as (v' := .int .u32 (wd l (k + 1) (k / 4) : Int)) (by rw [wd_or l k hlt2])) ?_
  refine Sq (Ent.refl _) rfl (Q_ia (o' := k / 4) (k / 4) rfl rfl rfl (by omega) (by omega)) ?_
  refine S_s rfl rfl rfl (O_st (sz := 1) 0 rfl rfl rfl rfl rfl (by simp [Value.oneCell', Value.cells]) (by simp [ws]; omega) (ws_set l k hlt2 hlt) ⟨[], free_no (by kernel_rfl), ?_⟩)
  refine JS.norm ?_
  refine S_nil ?_
  refine blockQ_normal ?_
  refine seqQ_normal ?_
  refine J_region ?_
  refine Lq (Q_add rfl rfl (by first | exact IntWalk.i64_in _ (by omega) | exact IntWalk.u8_in _ (by omega) | exact IntWalk.u32_in _ (by omega) | exact IntWalk.u64_in _ (by omega) | rfl)) ?_
  refine Lq (Q_move rfl) ?_
  refine JL_nil ?_
  exact loopQ_normal (k + 1) hlt (by omega) ⟨rfl, rfl, rfl, rfl, trivial⟩ (Ent.refl _)
 ·obtain rfl : k = 12 := by omega
  rw [ws_12]
  refine J_exit ?_
  refine seqQ_exit ?_
  refine loopQ_exit ?_
  refine blockQ_hit ?_
  refine seqQ_normal ?_
  refine Sr ?_
  refine Lq (Q_ldA 0 rfl rfl rfl) ?_
  refine L_s rfl rfl (O_stW 1 rfl rfl rfl rfl ?_)
  refine JL.norm ?_
  refine Ln ?_
  refine J_ret ?_
  exact retQ_ret _ [slc tB true S l] (.cons (RV_cell 1 rfl rfl rfl rfl) .nil) ⟨rfl, rfl⟩ (Ent.re [3,4] rfl)
theorem meant_ok (E : World) (S : SV) (l : List UInt8) (g : Nat) (hl : 12 ≤ l.length) (hl2 : l.length ≤ 100000) : Does Tryz.prog E 113 [.agg #[S.v], .int .u32 (g : Int)] [slc tB true S l] fun v L => v = .agg #[.int .u32 (crc (l.drop 4) : Int), .int .u32 (g : Int), .int .u32 (((l.length - 12) % 2 ^ 32 : Nat) : Int)] ∧ L = [slc tB true S l] := by
 have hq : IntKind.i64.wrap ((l.length : Int) - 12) = ((l.length - 12 : Nat) : Int) := by
  rw [show (l.length : Int) - 12 = ((l.length - 12 : Nat) : Int) by omega]; exact IntWalk.i64_in _ (by omega)
 have e : ((l.take l.length).drop 4) = l.drop 4 := by rw [List.take_length]
 have hs := sum_ok E (l.drop 4) (by rw [List.length_drop]; omega)
 rw [← e] at hs
 refine Does.of Tryz.func113 rfl Tryz.ntmps113 rfl rfl fun F => ?_
 refine J.norm ?_
 refine Sr ?_
 refine L_o rfl rfl rfl (O_box rfl fun b2 => ?_)
 refine L_o rfl rfl rfl (O_alloc fun b4 => ?_)
 refine Ln ?_
 refine J_seq ?_
 refine DH [1,2] [0,1,2,3,5,6,7,8,9,10,11] (.quiet 0 (.quiet 1 (.quiet 2 (.quiet 3 (.quiet 5 (.quiet 6 (.quiet 7 (.quiet 8 (.quiet 9 (.quiet 10 (.loud 4 (.quiet 11 (.loud 12 .done))))))))))))) Tryz.mixed ?_
 refine Sq (Ent.re [1,2] rfl) rfl (Q_fa0 rfl) ?_
 refine Sq (Ent.re [1,2] rfl) rfl (Q_ld 0 rfl rfl rfl rfl) ?_
 refine Sq (Ent.re [1,2] rfl) rfl (Q_slL 4 (fun w h => h.rd 1 rfl) rfl rfl rfl (by omega) rfl) ?_
 refine Sq (Ent.re [1,2] rfl) rfl (Q_b2s tB_enc (fun w h => (h.rd 1 rfl).sub 4 l.length (by omega) (Nat.le_refl _)) rfl) ?_
 refine Sq (Ent.re [1,2] rfl) rfl (Q_move rfl) ?_
 refine Sq (Ent.re [1,2] rfl) rfl (Q_fa0 rfl) ?_
 refine Sq (Ent.re [1,2] rfl) rfl (Q_ld 0 rfl rfl rfl rfl) ?_
 refine Sq (Ent.re [1,2] rfl) rfl (Q_lenAt 1 rfl rfl) ?_
 refine Sq (Ent.re [1,2] rfl) rfl (Q_sub rfl rfl hq) ?_
 refine Sq (Ent.re [1,2] rfl) rfl (Q_cvtN (l.length - 12) rfl rfl) ?_
 refine S_o rfl rfl rfl rfl (O_call [] [0,1,2,3] hs rfl rfl ?_)
 (rintro _ _ ⟨rfl, rfl⟩; refine ⟨_, fun _ => ⟨Ent.reN [1,2] rfl, Ent.refl _⟩, ?_⟩)
 refine JS.norm ?_
 refine Sq (Ent.re [1,2] rfl) rfl (Q_build rfl) ?_
 refine S_s rfl rfl rfl (O_stW 0 rfl rfl rfl rfl ⟨[], free_no (by kernel_rfl), ?_⟩)
 refine JS.norm ?_
 refine S_nil ?_
 refine seqQ_normal ?_
 refine J_ret ?_
 rw [e]
 exact retQ_ret _ [slc tB true S l] (.cons (RV_cell 0 rfl rfl rfl rfl) .nil) ⟨rfl, rfl⟩ (Ent.re [2,3] rfl)
end Go.Proofs
/- Which slot is told. -/
set_option autoImplicit false
namespace Go.Proofs
open Go.SL
attribute [local irreducible] J JL QOp JOp seqQ blockQ loopQ retQ slc cel hex star pur stars Does RV Ent pAt
theorem right_eq (l : List UInt8) (h : 12 ≤ l.length) : decide (((nw l 0 : Int)) = ((crc (l.drop 4) : Nat) : Int) ∧ ((nw l 1 : Nat) : Int) = ((nw l 1 : Nat) : Int) ∧ ((nw l 2 : Nat) : Int) = (((l.length - 12) % 2 ^ 32 : Nat) : Int)) = rightB l := by
 simp only [rightB, h, decide_true, Bool.true_and]
 by_cases h1 : nw l 0 = crc (l.drop 4) <;> by_cases h2 : nw l 2 = (l.length - 12) % 2 ^ 32 <;> simp [h1, h2] <;> omega
theorem right_ok (E : World) (S : SV) (l : List UInt8) (hl2 : l.length ≤ 100000) : Does Tryz.prog E 96 [.agg #[S.v]] [slc tB true S l] fun v L => v = .bool (rightB l) ∧ L = [slc tB true S l] := by
 refine Does.of Tryz.func96 rfl Tryz.ntmps96 rfl rfl fun F => ?_
 refine J.norm ?_
 refine Sr ?_
 refine L_o rfl rfl rfl (O_box rfl fun b1 => ?_)
 refine Lq (Q_assign rfl) ?_
 refine Ln ?_
 refine J_seq ?_
 refine Sr ?_
 refine Lq (Q_fa0 rfl) ?_
 refine Lq (Q_ld 0 rfl rfl rfl rfl) ?_
 refine Lq (Q_lenAt 1 rfl rfl) ?_
 refine Lq (Q_lss rfl rfl) ?_
 refine Ln ?_
 refine J_condD rfl (fun h => ?_) (fun h => ?_)
 ·refine Sr ?_
  refine Lq (Q_assign rfl) ?_
  refine Ln ?_
  refine J_ret ?_
  refine seqQ_ret ?_
  have e : rightB l = false := by simp [rightB]; omega
  exact retQ_ret _ [slc tB true S l] (.cons (RV_tmp rfl) .nil) ⟨by rw [e]; rfl, rfl⟩ (Ent.re [1,2] rfl)
 ·have hl : 12 ≤ l.length := by omega
  refine J_skip ?_
  refine seqQ_normal ?_
  refine Sr ?_
  refine Lq (Q_ldA 0 rfl rfl rfl) ?_
  refine L_o rfl rfl rfl (O_call [1] [0,2] (words_ok E S l hl) rfl rfl ?_)
  rintro _ _ ⟨rfl, rfl⟩
  refine JL.norm ?_
  refine L_o rfl rfl rfl (O_alloc fun b3 => ?_)
  refine L_s rfl rfl (O_stW 0 rfl rfl rfl rfl ?_)
  refine JL.norm ?_
  refine Ln ?_
  refine J_seq ?_
  refine DH [0,2,1] [0,1,2,3,5,6] (.quiet 0 (.quiet 1 (.quiet 2 (.quiet 3 (.loud 4 (.quiet 5 (.quiet 6 .done))))))) Tryz.mixed ?_
  refine Sq (Ent.re [0,2,1] rfl) rfl (Q_ldA 0 rfl rfl rfl) ?_
  refine Sq (Ent.re [0,2,1] rfl) rfl (Q_ldA 1 rfl rfl rfl) ?_
  refine Sq (Ent.re [0,2,1] rfl) rfl (Q_ia (o' := 1) 1 rfl rfl rfl (by decide) (by decide)) ?_
  refine Sq (Ent.re [0,2,1] rfl) rfl (Q_ld 0 rfl rfl rfl rfl) ?_
  refine S_o rfl rfl rfl rfl (O_call [1] [0,2,3] (meant_ok E S l (nw l 1) hl hl2) rfl rfl ?_)
  (rintro _ _ ⟨rfl, rfl⟩; refine ⟨_, fun _ => ⟨Ent.reN [1,2,0] rfl, Ent.refl _⟩, ?_⟩)
  refine JS.norm ?_
  refine Sq (Ent.re [1,2,0] rfl) rfl (Q_geql eqg3 (EqV_arr3 _ _ _ _ _ _ 9998) rfl rfl) ?_
  refine Sq (Ent.re [1,2,0] rfl) rfl (Q_assign rfl) ?_
  refine S_nil ?_
  refine seqQ_normal ?_
  refine J_ret ?_
  exact retQ_ret _ [slc tB true S l] (.cons (RV_tmp rfl) .nil) ⟨by rw [right_eq l hl]; rfl, rfl⟩ (Ent.re [0,3] rfl)
theorem told_ok (E : World) (p : Nat) (S T : SV) (a b : List UInt8) (ha : a.length ≤ 100000) (hb : b.length ≤ 100000) : Does Tryz.prog E 68 [.pointer (some ⟨p, 0, none⟩)] [cel p [S.v, T.v] 143, slc tB true S a, slc tB true T b] fun v L => v = .int .i64 (told a b) ∧ L = [cel p [S.v, T.v] 143, slc tB true S a, slc tB true T b] := by
 have hra := right_ok E S a ha
 have hrb := right_ok E T b hb
 have hwa : 12 ≤ a.length ∨ rightB a = false := by by_cases h : 12 ≤ a.length; exact .inl h; exact .inr (by simp [rightB, h])
 have hwb : 12 ≤ b.length ∨ rightB b = false := by by_cases h : 12 ≤ b.length; exact .inl h; exact .inr (by simp [rightB, h])
 refine Does.of Tryz.func68 rfl Tryz.ntmps68 rfl rfl fun F => ?_
 refine J.norm ?_
 refine Sr ?_
 refine Lq (Q_assign rfl) ?_
 refine Ln ?_
 refine Sr ?_
 refine Lq (Q_assign rfl) ?_
 refine Ln ?_
 refine J_seq ?_
 refine Sr ?_
 refine Lq (Q_move rfl) ?_
 refine Lq (Q_nilCheck rfl) ?_
 refine Lq (Q_fa0 rfl) ?_
 refine Lq (Q_ldA 0 rfl rfl rfl) ?_
 refine Lq (Q_move rfl) ?_
 refine Ln ?_
 refine J_block ?_
 refine J_loop (fun k : Nat => k ≤ 2) (fun k => [(0, .pointer (some ⟨p, 0, none⟩)), (3, .int .i64 (if k = 0 then -1 else if k = 1 then (if rightB a = true then 0 else -1) else told a b)), (9, .agg #[S.v, T.v]), (10, .int .i64 (k : Int))])
  (fun _ => [cel p [S.v, T.v] 143, slc tB true S a, slc tB true T b, F]) (fun k => 2 - k) 0 (by omega) ⟨rfl, rfl, rfl, rfl, trivial⟩ (Ent.refl _) ?_
 intro k hk
 by_cases h2 : k = 2
 ·subst h2
  refine Sr ?_
  refine Lq (Q_lss rfl rfl) ?_
  refine Ln ?_
  refine J_seq ?_
  refine J_condF rfl ?_
  refine J_exit ?_
  refine seqQ_exit ?_
  refine loopQ_exit ?_
  refine blockQ_hit ?_
  refine seqQ_normal ?_
  refine Sr ?_
  refine Lq (Q_move rfl) ?_
  refine Lq (Q_assign rfl) ?_
  refine Ln ?_
  refine J_ret ?_
  exact retQ_ret _ [cel p [S.v, T.v] 143, slc tB true S a, slc tB true T b] (.cons (RV_tmp rfl) .nil) ⟨rfl, rfl⟩ (Ent.refl _)
 by_cases h1 : k = 1
 ·subst h1
  cases eb : rightB b with
  | false =>
   rw [eb] at hrb
   have et : told a b = if rightB a = true then 0 else -1 := by simp [told, eb]
   refine Sr ?_
   refine Lq (Q_lss rfl rfl) ?_
   refine Ln ?_
   refine J_seq ?_
   refine J_condT rfl ?_
   refine J_skip ?_
   refine seqQ_normal ?_
   refine J_seq ?_
   refine J_block ?_
   refine Sr ?_
   refine Lq (Q_move rfl) ?_
   refine Lq (Q_aiA 1 (vs := #[T.v]) rfl rfl rfl (by decide) rfl rfl) ?_
   refine L_o rfl rfl rfl (O_alloc fun b5 => ?_)
   refine Lq (Q_assign rfl) ?_
   refine L_s rfl rfl (O_stW 0 rfl rfl rfl rfl ?_)
   refine JL.norm ?_
   refine Ln ?_
   refine J_seq ?_
   refine DH [0,1] [0,2,3,4,5,6,8,9,10,11,12,13,14,16,17,18,19] (.quiet 0 (.loud 1 (.quiet 2 (.quiet 3 (.quiet 4 (.quiet 5 (.quiet 6 (.quiet 9 (.quiet 10 (.quiet 11 (.quiet 12 (.quiet 13 (.quiet 14 (.loud 7 (.quiet 8 (.loud 15 (.quiet 16 (.quiet 17 (.quiet 18 (.quiet 19 .done)))))))))))))))))))) Tryz.mixed ?_
   refine Sq (Ent.re [0,1] rfl) rfl (Q_ldA 0 rfl rfl rfl) ?_
   refine S_o rfl rfl rfl rfl (O_call [3] [0,1,2,4] hrb rfl rfl ?_)
   (rintro _ _ ⟨rfl, rfl⟩; refine ⟨_, fun _ => ⟨Ent.reN [1,2] rfl, Ent.refl _⟩, ?_⟩)
   refine JS.norm ?_
   refine Sq (Ent.re [1,2] rfl) rfl (Q_move rfl) ?_
   refine S_n (Ent.re [1,2] rfl) rfl rfl rfl rfl ?_
   refine S_n (Ent.re [1,2] rfl) rfl rfl rfl rfl ?_
   refine S_n (Ent.re [1,2] rfl) rfl rfl rfl rfl ?_
   refine S_n (Ent.re [1,2] rfl) rfl rfl rfl rfl ?_
   refine S_n (Ent.re [1,2] rfl) rfl rfl rfl rfl ?_
   refine S_n (Ent.re [1,2] rfl) rfl rfl rfl rfl ?_
   refine S_n (Ent.re [1,2] rfl) rfl rfl rfl rfl ?_
   refine S_n (Ent.re [1,2] rfl) rfl rfl rfl rfl ?_
   refine S_n (Ent.re [1,2] rfl) rfl rfl rfl rfl ?_
   refine S_n (Ent.re [1,2] rfl) rfl rfl rfl rfl ?_
   refine S_no rfl rfl rfl rfl (fun _ => (Ent.re [1,2] rfl)) ?_
   refine S_n (Ent.re [1,2] rfl) rfl rfl rfl rfl ?_
   refine S_no rfl rfl rfl rfl (fun _ => (Ent.re [1,2] rfl)) ?_
   refine S_n (Ent.re [1,2] rfl) rfl rfl rfl rfl ?_
   refine S_n (Ent.re [1,2] rfl) rfl rfl rfl rfl ?_
   refine S_n (Ent.re [1,2] rfl) rfl rfl rfl rfl ?_
   refine Sq (Ent.re [1,2] rfl) rfl (Q_pickF rfl rfl) ?_
   refine S_nil ?_
   refine seqQ_normal ?_
   refine J_condF rfl ?_
   refine J_skip ?_
   refine blockQ_normal ?_
   refine seqQ_normal ?_
   refine J_region ?_
   refine Lq (Q_add rfl rfl (by first | exact IntWalk.i64_in _ (by omega) | exact IntWalk.u8_in _ (by omega) | exact IntWalk.u32_in _ (by omega) | exact IntWalk.u64_in _ (by omega) | rfl)) ?_
   refine Lq (Q_move rfl) ?_
   refine JL_nil ?_
   exact loopQ_normal 2 (by omega) (by omega) ⟨rfl, by rw [et]; rfl, rfl, rfl, trivial⟩ (Ent.re [2,3,0,4] rfl)
  | true =>
   rw [eb] at hrb
   have hb12 : 12 ≤ b.length := by rcases hwb with h | h; exact h; rw [eb] at h; cases h
   cases ea : rightB a with
   | false =>
    have et : told a b = 1 := by simp [told, eb, ea]
    refine Sr ?_
    refine Lq (Q_lss rfl rfl) ?_
    refine Ln ?_
    refine J_seq ?_
    refine J_condT rfl ?_
    refine J_skip ?_
    refine seqQ_normal ?_
    refine J_seq ?_
    refine J_block ?_
    refine Sr ?_
    refine Lq (Q_move rfl) ?_
    refine Lq (Q_aiA 1 (vs := #[T.v]) rfl rfl rfl (by decide) rfl rfl) ?_
    refine L_o rfl rfl rfl (O_alloc fun b5 => ?_)
    refine Lq (Q_assign rfl) ?_
    refine L_s rfl rfl (O_stW 0 rfl rfl rfl rfl ?_)
    refine JL.norm ?_
    refine Ln ?_
    refine J_seq ?_
    refine DH [0,1] [0,2,3,4,5,6,8,9,10,11,12,13,14,16,17,18,19] (.quiet 0 (.loud 1 (.quiet 2 (.quiet 3 (.quiet 4 (.quiet 5 (.quiet 6 (.quiet 9 (.quiet 10 (.quiet 11 (.quiet 12 (.quiet 13 (.quiet 14 (.loud 7 (.quiet 8 (.loud 15 (.quiet 16 (.quiet 17 (.quiet 18 (.quiet 19 .done)))))))))))))))))))) Tryz.mixed ?_
    refine Sq (Ent.re [0,1] rfl) rfl (Q_ldA 0 rfl rfl rfl) ?_
    refine S_o rfl rfl rfl rfl (O_call [3] [0,1,2,4] hrb rfl rfl ?_)
    (rintro _ _ ⟨rfl, rfl⟩; refine ⟨_, fun _ => ⟨Ent.reN [1,2] rfl, Ent.refl _⟩, ?_⟩)
    refine JS.norm ?_
    refine Sq (Ent.re [1,2] rfl) rfl (Q_move rfl) ?_
    refine Sq (Ent.re [1,2] rfl) rfl (Q_move rfl) ?_
    refine Sq (Ent.re [1,2] rfl) rfl ((Q_lss rfl rfl).as (v' := .bool true) (congrArg Value.bool (decide_eq_true (by simp)))) ?_
    refine Sq (Ent.re [1,2] rfl) rfl (Q_move rfl) ?_
    refine S_n (Ent.re [1,2] rfl) rfl rfl rfl rfl ?_
    refine S_n (Ent.re [1,2] rfl) rfl rfl rfl rfl ?_
    refine S_n (Ent.re [1,2] rfl) rfl rfl rfl rfl ?_
    refine S_n (Ent.re [1,2] rfl) rfl rfl rfl rfl ?_
    refine S_n (Ent.re [1,2] rfl) rfl rfl rfl rfl ?_
    refine S_n (Ent.re [1,2] rfl) rfl rfl rfl rfl ?_
    refine S_n (Ent.re [1,2] rfl) rfl rfl rfl rfl ?_
    refine S_no rfl rfl rfl rfl (fun _ => (Ent.re [1,2] rfl)) ?_
    refine S_n (Ent.re [1,2] rfl) rfl rfl rfl rfl ?_
    refine S_no rfl rfl rfl rfl (fun _ => (Ent.re [1,2] rfl)) ?_
    refine S_n (Ent.re [1,2] rfl) rfl rfl rfl rfl ?_
    refine S_n (Ent.re [1,2] rfl) rfl rfl rfl rfl ?_
    refine Sq (Ent.re [1,2] rfl) rfl (Q_pickT rfl rfl) ?_
    refine Sq (Ent.re [1,2] rfl) rfl (Q_pickT rfl rfl) ?_
    refine S_nil ?_
    refine seqQ_normal ?_
    refine J_condT rfl ?_
    refine J_region ?_
    refine Lq (Q_move rfl) ?_
    refine Lq (Q_assign rfl) ?_
    refine JL_nil ?_
    refine blockQ_normal ?_
    refine seqQ_normal ?_
    refine J_region ?_
    refine Lq (Q_add rfl rfl (by first | exact IntWalk.i64_in _ (by omega) | exact IntWalk.u8_in _ (by omega) | exact IntWalk.u32_in _ (by omega) | exact IntWalk.u64_in _ (by omega) | rfl)) ?_
    refine Lq (Q_move rfl) ?_
    refine JL_nil ?_
    exact loopQ_normal 2 (by omega) (by omega) ⟨rfl, by rw [et]; rfl, rfl, rfl, trivial⟩ (Ent.re [2,3,0,4] rfl)
   | true =>
    have ha12 : 12 ≤ a.length := by rcases hwa with h | h; exact h; rw [ea] at h; cases h
    refine Sr ?_
    refine Lq (Q_lss rfl rfl) ?_
    refine Ln ?_
    refine J_seq ?_
    refine J_condT rfl ?_
    refine J_skip ?_
    refine seqQ_normal ?_
    refine J_seq ?_
    refine J_block ?_
    refine Sr ?_
    refine Lq (Q_move rfl) ?_
    refine Lq (Q_aiA 1 (vs := #[T.v]) rfl rfl rfl (by decide) rfl rfl) ?_
    refine L_o rfl rfl rfl (O_alloc fun b5 => ?_)
    refine Lq (Q_assign rfl) ?_
    refine L_s rfl rfl (O_stW 0 rfl rfl rfl rfl ?_)
    refine JL.norm ?_
    refine Ln ?_
    refine J_seq ?_
    refine DH [0,1] [0,2,3,4,5,6,8,9,10,11,12,13,14,16,17,18,19] (.quiet 0 (.loud 1 (.quiet 2 (.quiet 3 (.quiet 4 (.quiet 5 (.quiet 6 (.quiet 9 (.quiet 10 (.quiet 11 (.quiet 12 (.quiet 13 (.quiet 14 (.loud 7 (.quiet 8 (.loud 15 (.quiet 16 (.quiet 17 (.quiet 18 (.quiet 19 .done)))))))))))))))))))) Tryz.mixed ?_
    refine Sq (Ent.re [0,1] rfl) rfl (Q_ldA 0 rfl rfl rfl) ?_
    refine S_o rfl rfl rfl rfl (O_call [3] [0,1,2,4] hrb rfl rfl ?_)
    (rintro _ _ ⟨rfl, rfl⟩; refine ⟨_, fun _ => ⟨Ent.reN [1,2] rfl, Ent.refl _⟩, ?_⟩)
    refine JS.norm ?_
    refine Sq (Ent.re [1,2] rfl) rfl (Q_move rfl) ?_
    refine Sq (Ent.re [1,2] rfl) rfl (Q_move rfl) ?_
    refine Sq (Ent.re [1,2] rfl) rfl ((Q_lss rfl rfl).as (v' := .bool false) (congrArg Value.bool (decide_eq_false (by simp)))) ?_
    refine Sq (Ent.re [1,2] rfl) rfl (Q_move rfl) ?_
    refine Sq (Ent.re [1,2] rfl) rfl (Q_ldA 0 rfl rfl rfl) ?_
    refine Sq (Ent.re [1,2] rfl) rfl (Q_move rfl) ?_
    refine Sq (Ent.re [1,2] rfl) rfl (Q_move rfl) ?_
    refine Sq (Ent.re [1,2] rfl) rfl (Q_nilCheck rfl) ?_
    refine Sq (Ent.re [1,2] rfl) rfl (Q_fa0 rfl) ?_
    refine Sq (Ent.re [1,2] rfl) rfl (Q_ia (o' := 0) 0 rfl rfl rfl (by decide) (by decide)) ?_
    refine Sq (Ent.re [1,2] rfl) rfl (Q_ldA 1 rfl rfl rfl) ?_
    refine S_o rfl rfl rfl rfl (O_call [0] [1,2,3,4] (words_ok E T b hb12) rfl rfl ?_)
    (rintro _ _ ⟨rfl, rfl⟩; refine ⟨_, fun _ => ⟨Ent.reN [1,2] rfl, Ent.refl _⟩, ?_⟩)
    refine JS.norm ?_
    refine Sq (Ent.re [1,2] rfl) rfl (Q_aiS 1 rfl rfl rfl (by decide) rfl rfl) ?_
    refine S_o rfl rfl rfl rfl (O_call [3] [0,1,2,4] (words_ok E S a ha12) rfl rfl ?_)
    (rintro _ _ ⟨rfl, rfl⟩; refine ⟨_, fun _ => ⟨Ent.reN [2,3] rfl, Ent.refl _⟩, ?_⟩)
    refine JS.norm ?_
    refine Sq (Ent.re [2,3] rfl) rfl (Q_aiS 1 rfl rfl rfl (by decide) rfl rfl) ?_
    refine Sq (Ent.re [2,3] rfl) rfl (Q_gtr rfl rfl) ?_
    refine Sq (Ent.re [2,3] rfl) rfl (Q_pickF rfl rfl) ?_
    refine Sq (Ent.re [2,3] rfl) rfl (Q_pickT rfl rfl) ?_
    refine S_nil ?_
    refine seqQ_normal ?_
    refine J_condD rfl (fun h3 => ?_) (fun h3 => ?_)
    ·have et : told a b = 1 := by simp [told, eb, ea]; omega
     refine J_region ?_
     refine Lq (Q_move rfl) ?_
     refine Lq (Q_assign rfl) ?_
     refine JL_nil ?_
     refine blockQ_normal ?_
     refine seqQ_normal ?_
     refine J_region ?_
     refine Lq (Q_add rfl rfl (by first | exact IntWalk.i64_in _ (by omega) | exact IntWalk.u8_in _ (by omega) | exact IntWalk.u32_in _ (by omega) | exact IntWalk.u64_in _ (by omega) | rfl)) ?_
     refine Lq (Q_move rfl) ?_
     refine JL_nil ?_
     exact loopQ_normal 2 (by omega) (by omega) ⟨rfl, by rw [et]; rfl, rfl, rfl, trivial⟩ (Ent.re [3,0,1,4] rfl)
    ·have et : told a b = 0 := by simp [told, eb, ea]; omega
     refine J_skip ?_
     refine blockQ_normal ?_
     refine seqQ_normal ?_
     refine J_region ?_
     refine Lq (Q_add rfl rfl (by first | exact IntWalk.i64_in _ (by omega) | exact IntWalk.u8_in _ (by omega) | exact IntWalk.u32_in _ (by omega) | exact IntWalk.u64_in _ (by omega) | rfl)) ?_
     refine Lq (Q_move rfl) ?_
     refine JL_nil ?_
     exact loopQ_normal 2 (by omega) (by omega) ⟨rfl, by rw [et]; rfl, rfl, rfl, trivial⟩ (Ent.re [3,0,1,4] rfl)
 ·obtain rfl : k = 0 := by omega
  cases ea : rightB a with
  | false =>
   rw [ea] at hra
   refine Sr ?_
   refine Lq (Q_lss rfl rfl) ?_
   refine Ln ?_
   refine J_seq ?_
   refine J_condT rfl ?_
   refine J_skip ?_
   refine seqQ_normal ?_
   refine J_seq ?_
   refine J_block ?_
   refine Sr ?_
   refine Lq (Q_move rfl) ?_
   refine Lq (Q_aiA 0 (vs := #[S.v]) rfl rfl rfl (by decide) rfl rfl) ?_
   refine L_o rfl rfl rfl (O_alloc fun b5 => ?_)
   refine Lq (Q_assign rfl) ?_
   refine L_s rfl rfl (O_stW 0 rfl rfl rfl rfl ?_)
   refine JL.norm ?_
   refine Ln ?_
   refine J_seq ?_
   refine DH [0,1] [0,2,3,4,5,6,8,9,10,11,12,13,14,16,17,18,19] (.quiet 0 (.loud 1 (.quiet 2 (.quiet 3 (.quiet 4 (.quiet 5 (.quiet 6 (.quiet 9 (.quiet 10 (.quiet 11 (.quiet 12 (.quiet 13 (.quiet 14 (.loud 7 (.quiet 8 (.loud 15 (.quiet 16 (.quiet 17 (.quiet 18 (.quiet 19 .done)))))))))))))))))))) Tryz.mixed ?_
   refine Sq (Ent.re [0,1] rfl) rfl (Q_ldA 0 rfl rfl rfl) ?_
   refine S_o rfl rfl rfl rfl (O_call [2] [0,1,3,4] hra rfl rfl ?_)
   (rintro _ _ ⟨rfl, rfl⟩; refine ⟨_, fun _ => ⟨Ent.reN [1,2] rfl, Ent.refl _⟩, ?_⟩)
   refine JS.norm ?_
   refine Sq (Ent.re [1,2] rfl) rfl (Q_move rfl) ?_
   refine S_n (Ent.re [1,2] rfl) rfl rfl rfl rfl ?_
   refine S_n (Ent.re [1,2] rfl) rfl rfl rfl rfl ?_
   refine S_n (Ent.re [1,2] rfl) rfl rfl rfl rfl ?_
   refine S_n (Ent.re [1,2] rfl) rfl rfl rfl rfl ?_
   refine S_n (Ent.re [1,2] rfl) rfl rfl rfl rfl ?_
   refine S_n (Ent.re [1,2] rfl) rfl rfl rfl rfl ?_
   refine S_n (Ent.re [1,2] rfl) rfl rfl rfl rfl ?_
   refine S_n (Ent.re [1,2] rfl) rfl rfl rfl rfl ?_
   refine S_n (Ent.re [1,2] rfl) rfl rfl rfl rfl ?_
   refine S_n (Ent.re [1,2] rfl) rfl rfl rfl rfl ?_
   refine S_no rfl rfl rfl rfl (fun _ => (Ent.re [1,2] rfl)) ?_
   refine S_n (Ent.re [1,2] rfl) rfl rfl rfl rfl ?_
   refine S_no rfl rfl rfl rfl (fun _ => (Ent.re [1,2] rfl)) ?_
   refine S_n (Ent.re [1,2] rfl) rfl rfl rfl rfl ?_
   refine S_n (Ent.re [1,2] rfl) rfl rfl rfl rfl ?_
   refine S_n (Ent.re [1,2] rfl) rfl rfl rfl rfl ?_
   refine Sq (Ent.re [1,2] rfl) rfl (Q_pickF rfl rfl) ?_
   refine S_nil ?_
   refine seqQ_normal ?_
   refine J_condF rfl ?_
   refine J_skip ?_
   refine blockQ_normal ?_
   refine seqQ_normal ?_
   refine J_region ?_
   refine Lq (Q_add rfl rfl (by first | exact IntWalk.i64_in _ (by omega) | exact IntWalk.u8_in _ (by omega) | exact IntWalk.u32_in _ (by omega) | exact IntWalk.u64_in _ (by omega) | rfl)) ?_
   refine Lq (Q_move rfl) ?_
   refine JL_nil ?_
   exact loopQ_normal 1 (by omega) (by omega) ⟨rfl, by rfl, rfl, rfl, trivial⟩ (Ent.re [2,0,3,4] rfl)
  | true =>
   rw [ea] at hra
   refine Sr ?_
   refine Lq (Q_lss rfl rfl) ?_
   refine Ln ?_
   refine J_seq ?_
   refine J_condT rfl ?_
   refine J_skip ?_
   refine seqQ_normal ?_
   refine J_seq ?_
   refine J_block ?_
   refine Sr ?_
   refine Lq (Q_move rfl) ?_
   refine Lq (Q_aiA 0 (vs := #[S.v]) rfl rfl rfl (by decide) rfl rfl) ?_
   refine L_o rfl rfl rfl (O_alloc fun b5 => ?_)
   refine Lq (Q_assign rfl) ?_
   refine L_s rfl rfl (O_stW 0 rfl rfl rfl rfl ?_)
   refine JL.norm ?_
   refine Ln ?_
   refine J_seq ?_
   refine DH [0,1] [0,2,3,4,5,6,8,9,10,11,12,13,14,16,17,18,19] (.quiet 0 (.loud 1 (.quiet 2 (.quiet 3 (.quiet 4 (.quiet 5 (.quiet 6 (.quiet 9 (.quiet 10 (.quiet 11 (.quiet 12 (.quiet 13 (.quiet 14 (.loud 7 (.quiet 8 (.loud 15 (.quiet 16 (.quiet 17 (.quiet 18 (.quiet 19 .done)))))))))))))))))))) Tryz.mixed ?_
   refine Sq (Ent.re [0,1] rfl) rfl (Q_ldA 0 rfl rfl rfl) ?_
   refine S_o rfl rfl rfl rfl (O_call [2] [0,1,3,4] hra rfl rfl ?_)
   (rintro _ _ ⟨rfl, rfl⟩; refine ⟨_, fun _ => ⟨Ent.reN [1,2] rfl, Ent.refl _⟩, ?_⟩)
   refine JS.norm ?_
   refine Sq (Ent.re [1,2] rfl) rfl (Q_move rfl) ?_
   refine Sq (Ent.re [1,2] rfl) rfl (Q_move rfl) ?_
   refine Sq (Ent.re [1,2] rfl) rfl ((Q_lss rfl rfl).as (v' := .bool true) (congrArg Value.bool (decide_eq_true (by simp)))) ?_
   refine Sq (Ent.re [1,2] rfl) rfl (Q_move rfl) ?_
   refine S_n (Ent.re [1,2] rfl) rfl rfl rfl rfl ?_
   refine S_n (Ent.re [1,2] rfl) rfl rfl rfl rfl ?_
   refine S_n (Ent.re [1,2] rfl) rfl rfl rfl rfl ?_
   refine S_n (Ent.re [1,2] rfl) rfl rfl rfl rfl ?_
   refine S_n (Ent.re [1,2] rfl) rfl rfl rfl rfl ?_
   refine S_n (Ent.re [1,2] rfl) rfl rfl rfl rfl ?_
   refine S_n (Ent.re [1,2] rfl) rfl rfl rfl rfl ?_
   refine S_no rfl rfl rfl rfl (fun _ => (Ent.re [1,2] rfl)) ?_
   refine S_n (Ent.re [1,2] rfl) rfl rfl rfl rfl ?_
   refine S_no rfl rfl rfl rfl (fun _ => (Ent.re [1,2] rfl)) ?_
   refine S_n (Ent.re [1,2] rfl) rfl rfl rfl rfl ?_
   refine S_n (Ent.re [1,2] rfl) rfl rfl rfl rfl ?_
   refine Sq (Ent.re [1,2] rfl) rfl (Q_pickT rfl rfl) ?_
   refine Sq (Ent.re [1,2] rfl) rfl (Q_pickT rfl rfl) ?_
   refine S_nil ?_
   refine seqQ_normal ?_
   refine J_condT rfl ?_
   refine J_region ?_
   refine Lq (Q_move rfl) ?_
   refine Lq (Q_assign rfl) ?_
   refine JL_nil ?_
   refine blockQ_normal ?_
   refine seqQ_normal ?_
   refine J_region ?_
   refine Lq (Q_add rfl rfl (by first | exact IntWalk.i64_in _ (by omega) | exact IntWalk.u8_in _ (by omega) | exact IntWalk.u32_in _ (by omega) | exact IntWalk.u64_in _ (by omega) | rfl)) ?_
   refine Lq (Q_move rfl) ?_
   refine JL_nil ?_
   exact loopQ_normal 1 (by omega) (by omega) ⟨rfl, by rfl, rfl, rfl, trivial⟩ (Ent.re [2,0,3,4] rfl)
end Go.Proofs
/- What is written into slots, and told of them. -/
set_option autoImplicit false
namespace Go.Proofs
open Go.SL
attribute [local irreducible] J JL QOp JOp seqQ blockQ loopQ retQ slc cel hex star pur stars Does RV Ent pAt
theorem four_ok (E : World) (n : Nat) : Does Tryz.prog E 70 [.int .u32 (n : Int)] [] fun v L => ∃ S : SV, v = S.v ∧ L = [slc tB true S (four n)] := by
 refine Does.of Tryz.func70 rfl Tryz.ntmps70 rfl rfl fun F => ?_
 refine J.norm ?_
 refine Sr ?_
 refine Lq (Q_assign rfl) ?_
 refine Ln ?_
 refine Sr ?_
 refine Lq (Q_move rfl) ?_
 refine Lq (Q_shrN n 24 rfl rfl rfl rfl (by decide)) ?_
 refine Lq (Q_cvtN (n / 2 ^ 24) rfl rfl) ?_
 refine Lq (Q_move rfl) ?_
 refine Lq (Q_shrN n 16 rfl rfl rfl rfl (by decide)) ?_
 refine Lq (Q_cvtN (n / 2 ^ 16) rfl rfl) ?_
 refine Lq (Q_move rfl) ?_
 refine Lq (Q_shrN n 8 rfl rfl rfl rfl (by decide)) ?_
 refine Lq (Q_cvtN (n / 2 ^ 8) rfl rfl) ?_
 refine Lq (Q_move rfl) ?_
 refine Lq (Q_cvtN n rfl rfl) ?_
 refine L_o rfl rfl rfl (O_litP (τ := tB) (m := 4) (sz := 1) (four n) rfl rfl rfl rfl rfl rfl (by decide) (fun S => ?_))
 refine JL.norm ?_
 refine Lq (Q_assign rfl) ?_
 refine Ln ?_
 refine J_ret ?_
 exact retQ_ret _ [slc tB true S (four n)] (.cons (RV_tmp rfl) .nil) ⟨S, rfl, rfl⟩ (Ent.refl _)
theorem snew_ok (E : World) : Does Tryz.prog E 38 [] [] fun v L => ∃ p, v = .pointer (some ⟨p, 0, none⟩) ∧ L = [cel p [SV.nil.v, SV.nil.v] 143, slc tB true SV.nil [], slc tB true SV.nil []] := by
 refine Does.of Tryz.func38 rfl Tryz.ntmps38 rfl rfl fun F => ?_
 refine J.norm ?_
 refine Sr ?_
 refine Lq (Q_assign rfl) ?_
 refine Ln ?_
 refine Sr ?_
 refine Lq (Q_build rfl) ?_
 refine L_o rfl rfl rfl (O_box rfl fun b2 => ?_)
 refine Lq (Q_assign rfl) ?_
 refine Ln ?_
 refine J_ret ?_
 refine retQ_ret _ [cel b2 [SV.nil.v, SV.nil.v] 143, slc tB true SV.nil [], slc tB true SV.nil []] (.cons (RV_tmp rfl) .nil) ⟨b2, rfl, rfl⟩ ?_
 exact (Ent.mk fun _ _ h => ((h.lay_nil tB true).lay_nil tB true : Sat _ _ (slc tB true SV.nil [] :: slc tB true SV.nil [] :: _))).trans (Ent.re [2,0,1,3] rfl)
/-- What is written. -/
def wrote (a b body : List UInt8) (upto : Int) : List UInt8 :=
 let g := if told a b = 1 then nw b 1 else if told a b = 0 then nw a 1 else 0
 let t := four ((g + 1) % 2 ^ 32) ++ four (body.length % 2 ^ 32) ++ body
 let u := four (crc t) ++ t
 if 0 ≤ upto ∧ upto < (u.length : Int) then u.take upto.toNat else u
theorem told_cases (a b : List UInt8) : (told a b = 1 ∧ rightB b = true) ∨ (told a b = 0 ∧ rightB a = true) ∨ told a b = -1 := by
 unfold told
 split
 ·rename_i h; exact .inl ⟨rfl, h.1⟩
 ·split
  ·rename_i h; exact .inr (.inl ⟨rfl, h⟩)
  ·exact .inr (.inr rfl)
theorem right_long {l : List UInt8} (h : rightB l = true) : 12 ≤ l.length := by
 simp only [rightB, Bool.and_eq_true, decide_eq_true_eq] at h; exact h.1
/-- What the slots are behind a write; the error. -/
def doW (a b body : List UInt8) (upto : Int) : List UInt8 × List UInt8 × Int :=
 if 32768 < body.length then (a, b, 2) else if told a b = 0 then (a, wrote a b body upto, 0) else (wrote a b body upto, b, 0)
end Go.Proofs
