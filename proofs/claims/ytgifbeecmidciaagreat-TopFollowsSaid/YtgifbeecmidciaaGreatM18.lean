/- Part 18 of the texts below the row: SegQ, BackQ, Snap1, Snap2, Snap3, Snap4, Snap5, Kv3, Kv4, Kv5, Ch4. -/
import Derived.Test.YtgifbeecmidciaaGreatM17
/- What is there behind a drop, a crash, in plain Lean. -/
set_option autoImplicit false
namespace Go.Proofs
theorem drop_next (fs : List Fl) (seq : Int) : nextOf (fs.drop (dropN fs seq)) = nextOf fs := by
 rcases dropN_lt fs seq with rfl | h
 ·simp [dropN]
 ·unfold nextOf
  rw [List.getLast?_drop, if_neg (by omega)]
/-- Another last file, which has the same first ones. -/
theorem getL_last (f f' : Fl) (x : Nat) (h : f.first = f'.first) (j : Nat) (hx : x < f.first + j) (h1 : j ≤ f.l.length) (h2 : j ≤ f'.l.length) (h3 : f.l.take j = f'.l.take j) : ∀ a : List Fl, getL (a ++ [f]) (x : Int) = getL (a ++ [f']) (x : Int)
 | [] => by
  have hn : f.next = f.first + f.l.length := rfl
  have hn' : f'.next = f'.first + f'.l.length := rfl
  simp only [List.nil_append, getL]
  by_cases hc : (f.first : Int) ≤ x
  ·rw [if_pos (by omega), if_pos (by omega)]
   have e : ((x : Int) - (f.first : Int)).toNat = x - f.first := by omega
   rw [← h, e]
   congr 1
   have e2 : x - f.first < j := by omega
   have e3 : (f.l.take j)[x - f.first]? = (f'.l.take j)[x - f.first]? := by rw [h3]
   rw [List.getElem?_take, List.getElem?_take, if_pos e2, if_pos e2] at e3
   rw [List.getD_eq_getElem?_getD, List.getD_eq_getElem?_getD, e3]
  ·rw [if_neg (by omega), if_neg (by omega)]
 | b :: a => by
  simp only [List.cons_append, getL]
  rw [getL_last f f' x h j hx h1 h2 h3 a]
/-- The least that is not synced stands at a record's end. -/
def SureAt (g : Lg) : Prop := (g.fs = [] ∧ g.sure = 0) ∨ ∃ (a : List Fl) (f : Fl) (j : Nat), g.fs = a ++ [f] ∧ j ≤ f.l.length ∧ f.s = (text (f.l.take j)).length ∧ g.sure = f.first + j
theorem sureAt_new (z : Nat) : SureAt ⟨z, 0, []⟩ := .inl ⟨rfl, rfl⟩
theorem SureAt.sync {g : Lg} (_ : SureAt g) (h : SureAt g) : SureAt (syncL g) := by
 rcases last_cases g.fs with e | ⟨a, f, e⟩
 ·left
  rcases h with ⟨_, h⟩ | ⟨a, f, j, h, _⟩
  ·exact ⟨by simp [syncL, e, onLast], by simp [syncL, e, h]⟩
  ·rw [e] at h; simp at h
 ·right
  refine ⟨a, syncF f, f.l.length, ?_, Nat.le_refl _, by simp [syncF], ?_⟩
  ·simp only [syncL]; rw [e, onLast_snoc]
  ·simp only [syncL]; rw [if_neg (by rw [e]; simp), e, nextOf_snoc]; rfl
theorem SureAt.app {g : Lg} (t : List UInt8) (h : SureAt g) : SureAt (appL g t).1 := by
 unfold appL
 split
 ·exact h
 split
 ·exact h
 split
 ·rename_i h3
  rcases h with ⟨e, _⟩ | ⟨a, f, j, e, h1, h2, h4⟩
  ·simp [roomB, e] at h3
  ·right
   refine ⟨a, putF f t, j, by simp only; rw [e, onLast_snoc], by simp [putF]; omega, ?_, h4⟩
   simp only [putF]
   rw [List.take_append_of_le_length h1]; exact h2
 ·split
  ·exact h
  ·right
   have hs := h.sync h
   refine ⟨(syncL g).fs, ⟨nextOf g.fs, [t], 0⟩, 0, rfl, Nat.zero_le _, by simp [text], ?_⟩
   simp only [Nat.add_zero]
   rcases last_cases g.fs with e | ⟨a, f, e⟩
   ·rcases h with ⟨_, h⟩ | ⟨a, f, j, h, _⟩
    ·simp [syncL, e, h, nextOf]
    ·rw [e] at h; simp at h
   ·simp only [syncL]; rw [if_neg (by rw [e]; simp)]
theorem SureAt.drop {g : Lg} (seq : Int) (h : SureAt g) : SureAt (dropL g seq).1 := by
 rcases h with ⟨e, h⟩ | ⟨a, f, j, e, h1, h2, h3⟩
 ·left; exact ⟨by simp [dropL, e], h⟩
 ·right
  have hl := (dropN_lt g.fs seq).resolve_left (by rw [e]; simp)
  refine ⟨a.drop (dropN g.fs seq), f, j, ?_, h1, h2, h3⟩
  simp only [dropL]
  rw [e] at hl ⊢
  rw [List.drop_append_of_le_length (by simp at hl; omega)]
/-- What was sure is there behind a crash. -/
theorem crash_sure {g : Lg} {c keep : Nat} (hg : Good g c) (h : SureAt g) : firstOf (crashL g keep).fs = firstOf g.fs ∧ g.sure ≤ nextOf (crashL g keep).fs ∧ (crashL g keep).sure = nextOf (crashL g keep).fs ∧ ∀ x : Nat, x < g.sure → getL (crashL g keep).fs (x : Int) = getL g.fs (x : Int) := by
 rcases h with ⟨e, h⟩ | ⟨a, f, j, e, h1, h2, h3⟩
 ·have : (crashL g keep).fs = [] := by simp [crashL, e, onLast]
  rw [this, e, h]
  refine ⟨rfl, Nat.zero_le _, by simp [crashL, e, h, nextOf], fun x hx => rfl⟩
 ·obtain ⟨a1, a2, a3, a4⟩ := hg.file f (by rw [e]; simp)
  have e2 : (crashL g keep).fs = a ++ [crashF f keep] := by simp only [crashL]; rw [e, onLast_snoc]
  have hsu := tear_sure f.d keep
  have htk : (tear f.d keep).take (text (f.l.take j)).length = text (f.l.take j) := by
   rw [← h2]
   refine hsu.trans ?_
   show (text f.l).take f.s = _
   rw [h2]
   have e1 : text f.l = text (f.l.take j) ++ text (f.l.drop j) := by rw [← text_append, List.take_append_drop]
   rw [e1, List.take_left]
  have hsp : tear f.d keep = text (f.l.take j) ++ (tear f.d keep).drop (text (f.l.take j)).length := by
   conv => lhs; rw [← List.take_append_drop (text (f.l.take j)).length (tear f.d keep), htk]
  have hpa := prefixR_app (f.l.take j) ((tear f.d keep).drop (text (f.l.take j)).length) (fun t ht => a3 t (List.mem_of_mem_take ht))
  rw [← hsp] at hpa
  have hcl : (crashF f keep).l = f.l.take j ++ (prefixR ((tear f.d keep).drop (text (f.l.take j)).length)).1 := by simp only [crashF]; rw [hpa]
  have hj : (f.l.take j).length = j := by rw [List.length_take]; omega
  have hj2 : j ≤ (crashF f keep).l.length := by rw [hcl, List.length_append, hj]; omega
  have hf : (crashF f keep).first = f.first := rfl
  refine ⟨?_, ?_, ?_, ?_⟩
  ·rw [e2, e]
   cases a <;> rfl
  ·rw [e2, nextOf_snoc, h3]; simp only [Fl.next, hf]; omega
  ·simp only [crashL]; rw [if_neg (by rw [e]; simp)]
  ·intro x hx
   rw [h3] at hx
   rw [e2, e]
   refine (getL_last f (crashF f keep) x hf.symm j (by omega) h1 hj2 ?_ a).symm
   rw [hcl, List.take_append_of_le_length (by omega), List.take_take, Nat.min_self]
end Go.Proofs
/- What stands in a log is what was appended, in plain Lean. -/
set_option autoImplicit false
namespace Go.Proofs
structure Back (g : Lg) (all : List (List UInt8)) : Prop where
 at' : ∀ f ∈ g.fs, ∀ (j : Nat) t, f.l[j]? = some t → all[f.first + j]? = some t
 le : nextOf g.fs ≤ all.length
theorem chain_le : ∀ (a : List Fl) (f : Fl), chain (a ++ [f]) → ∀ x ∈ a, x.next ≤ f.first
 | [], _, _, x, hx => by simp at hx
 | [y], f, h, x, hx => by
  simp only [List.mem_singleton] at hx
  subst hx
  have : f.first = x.next := h.1
  omega
 | y :: z :: r, f, h, x, hx => by
  have ih := chain_le (z :: r) f h.2
  rcases List.mem_cons.1 hx with rfl | hx
  ·have h1 : z.first = x.next := h.1
   have h2 := ih z (by simp)
   have h3 : z.next = z.first + z.l.length := rfl
   omega
  ·exact ih x hx
theorem next_le (g : Lg) (h : chain g.fs) : ∀ f ∈ g.fs, f.next ≤ nextOf g.fs := by
 intro f hf
 rcases last_cases g.fs with e | ⟨a, x, e⟩
 ·rw [e] at hf; simp at hf
 ·rw [e] at hf h ⊢
  rw [nextOf_snoc]
  rw [List.mem_append, List.mem_singleton] at hf
  rcases hf with hf | rfl
  ·have := chain_le a x h f hf
   have h3 : x.next = x.first + x.l.length := rfl
   omega
  ·exact Nat.le_refl _
theorem Back.sync {g : Lg} {all : List (List UInt8)} (h : Back g all) : Back (syncL g) all := by
 rcases last_cases g.fs with e | ⟨a, x, e⟩
 ·have : (syncL g).fs = [] := by simp [syncL, e, onLast]
  exact ⟨by rw [this]; simp, by rw [this]; simp [nextOf]⟩
 ·have e2 : (syncL g).fs = a ++ [syncF x] := by simp only [syncL]; rw [e, onLast_snoc]
  refine ⟨?_, ?_⟩
  ·intro f hf
   rw [e2, List.mem_append, List.mem_singleton] at hf
   rcases hf with hf | rfl
   ·exact h.at' f (by rw [e]; simp [hf])
   ·exact h.at' x (by rw [e]; simp)
  ·have := h.le; rw [e, nextOf_snoc] at this; rw [e2, nextOf_snoc]; exact this
theorem Back.drop {g : Lg} {all : List (List UInt8)} (seq : Int) (h : Back g all) : Back (dropL g seq).1 all :=
 ⟨fun f hf => h.at' f (List.mem_of_mem_drop hf), by have := h.le; rwa [← drop_next g.fs seq] at this⟩
/-- .. behind a crash without gaps. -/
theorem Back.crash {g : Lg} {c k : Nat} {all : List (List UInt8)} (hg : Good g c) (h : Back g all) : Back (crashL g (2 ^ k - 1)) all := by
 rcases last_cases g.fs with e | ⟨a, x, e⟩
 ·have : (crashL g (2 ^ k - 1)).fs = [] := by simp [crashL, e, onLast]
  exact ⟨by rw [this]; simp, by rw [this]; simp [nextOf]⟩
 ·have e2 : (crashL g (2 ^ k - 1)).fs = a ++ [crashF x (2 ^ k - 1)] := by simp only [crashL]; rw [e, onLast_snoc]
  obtain ⟨a1, a2, a3, a4⟩ := hg.file x (by rw [e]; simp)
  have htb := tear_begin x.d (2 ^ k - 1) (kb_mono k x.d.s)
  obtain ⟨j, hj, hc⟩ := prefixR_cut x.l a3 (endTo (2 ^ k - 1) x.d.s (x.d.b.length - x.d.s))
  have hl : (crashF x (2 ^ k - 1)).l = x.l.take j := by
   simp only [crashF]; rw [htb]; exact hc
  have hf1 : (crashF x (2 ^ k - 1)).first = x.first := rfl
  refine ⟨?_, ?_⟩
  ·intro f hf
   rw [e2, List.mem_append, List.mem_singleton] at hf
   rcases hf with hf | rfl
   ·exact h.at' f (by rw [e]; simp [hf])
   ·intro i t ht
    rw [hl, List.getElem?_take] at ht
    split at ht
    ·exact h.at' x (by rw [e]; simp) i t ht
    ·cases ht
  ·have := h.le; rw [e, nextOf_snoc] at this; rw [e2, nextOf_snoc]
   simp only [Fl.next, hl, hf1, List.length_take] at this ⊢; omega
/-- .. behind an append. -/
theorem Back.app {g : Lg} {all : List (List UInt8)} (t : List UInt8) (hc : chain g.fs) (h : Back g all) :
 ((appL g t).2.2 ≠ 0 → Back (appL g t).1 all) ∧ ((appL g t).2.2 = 0 → (appL g t).2.1 = nextOf g.fs ∧ Back (appL g t).1 (all.take (nextOf g.fs) ++ [t])) := by
 have hle := h.le
 have hlen : (all.take (nextOf g.fs)).length = nextOf g.fs := by rw [List.length_take]; omega
 have hold : ∀ f ∈ g.fs, ∀ (j : Nat) u, f.l[j]? = some u → (all.take (nextOf g.fs) ++ [t])[f.first + j]? = some u := by
  intro f hf j u hu
  have h1 := next_le g hc f hf
  have h2 := (List.getElem?_eq_some_iff.1 hu).1
  have h3 : f.next = f.first + f.l.length := rfl
  rw [List.getElem?_append_left (by omega), List.getElem?_take, if_pos (by omega)]
  exact h.at' f hf j u hu
 have hnew : (all.take (nextOf g.fs) ++ [t])[nextOf g.fs]? = some t := by
  rw [List.getElem?_append_right (by omega), hlen]; simp
 unfold appL
 split
 ·exact ⟨fun _ => h, fun h => by simp at h⟩
 split
 ·exact ⟨fun _ => h, fun h => by simp at h⟩
 split
 ·rename_i h3
  refine ⟨fun h => absurd rfl h, fun _ => ⟨rfl, ?_⟩⟩
  rcases last_cases g.fs with e | ⟨a, x, e⟩
  ·simp [roomB, e] at h3
  ·have hx : nextOf g.fs = x.next := by rw [e, nextOf_snoc]
   refine ⟨?_, ?_⟩
   ·intro f hf
    simp only [e, onLast_snoc, List.mem_append, List.mem_singleton] at hf
    rcases hf with hf | rfl
    ·exact hold f (by rw [e]; simp [hf])
    ·intro j u hu
     simp only [putF] at hu ⊢
     by_cases hj : j < x.l.length
     ·rw [List.getElem?_append_left hj] at hu
      exact hold x (by rw [e]; simp) j u hu
     ·rw [List.getElem?_append_right (by omega)] at hu
      by_cases hj2 : j = x.l.length
      ·subst hj2
       simp at hu
       subst hu
       rw [← hnew, hx]; rfl
      ·rw [List.getElem?_eq_none (by simp; omega)] at hu; cases hu
   ·simp only [List.length_append, hlen, List.length_singleton]
    rw [e, onLast_snoc, nextOf_snoc, nextOf_snoc]
    simp only [Fl.next, putF, List.length_append, List.length_singleton]; omega
 ·split
  ·exact ⟨fun _ => h, fun h => by simp at h⟩
  ·refine ⟨fun h => absurd rfl h, fun _ => ⟨rfl, ?_⟩⟩
   have hsf : ∀ f ∈ (syncL g).fs, ∃ f' ∈ g.fs, f.first = f'.first ∧ f.l = f'.l := by
    intro f hf
    rcases last_cases g.fs with e | ⟨a, x, e⟩
    ·simp [syncL, e, onLast] at hf
    ·simp only [syncL, e, onLast_snoc, List.mem_append, List.mem_singleton] at hf
     rcases hf with hf | rfl
     ·exact ⟨f, by rw [e]; simp [hf], rfl, rfl⟩
     ·exact ⟨x, by rw [e]; simp, rfl, rfl⟩
   refine ⟨?_, ?_⟩
   ·intro f hf j u hu
    simp only [List.mem_append, List.mem_singleton] at hf
    rcases hf with hf | rfl
    ·obtain ⟨f', hf', h1, h2⟩ := hsf f hf
     rw [h1]; rw [h2] at hu
     exact hold f' hf' j u hu
    ·cases j with
     | zero => simp at hu; subst hu; exact hnew
     | succ j => simp at hu
   ·simp only [nextOf_snoc, Fl.next, List.length_append, hlen, List.length_singleton]
    omega
/-- What is told is what was appended. -/
theorem back_get (all : List (List UInt8)) (x : Nat) : ∀ (fs : List Fl), chain fs → (∀ f ∈ fs, ∀ (j : Nat) t, f.l[j]? = some t → all[f.first + j]? = some t) → firstOf fs ≤ x → x < nextOf fs → ∃ t, all[x]? = some t ∧ getL fs (x : Int) = (t, 0)
 | [], _, _, _, h => by simp [nextOf] at h
 | [f], _, hb, h1, h2 => by
  have e0 : firstOf [f] = f.first := rfl
  have e1 : nextOf [f] = f.first + f.l.length := rfl
  have e2 : f.next = f.first + f.l.length := rfl
  have hj : x - f.first < f.l.length := by omega
  refine ⟨f.l[x - f.first], ?_, ?_⟩
  ·have := hb f (by simp) (x - f.first) _ (List.getElem?_eq_getElem hj)
   rwa [show f.first + (x - f.first) = x by omega] at this
  ·simp only [getL]
   rw [if_pos (by omega), show ((x : Int) - (f.first : Int)).toNat = x - f.first by omega]
   simp [List.getD_eq_getElem?_getD, List.getElem?_eq_getElem hj]
 | f :: f2 :: r, h, hb, h1, h2 => by
  have e : firstOf (f2 :: r) = f.next := h.1
  have e1 : nextOf (f :: f2 :: r) = nextOf (f2 :: r) := by simp [nextOf]
  have e0 : firstOf (f :: f2 :: r) = f.first := rfl
  have e2 : f.next = f.first + f.l.length := rfl
  by_cases hx : x < f.next
  ·have hj : x - f.first < f.l.length := by omega
   refine ⟨f.l[x - f.first], ?_, ?_⟩
   ·have := hb f (by simp) (x - f.first) _ (List.getElem?_eq_getElem hj)
    rwa [show f.first + (x - f.first) = x by omega] at this
   ·rw [getL, if_pos (by omega), show ((x : Int) - (f.first : Int)).toNat = x - f.first by omega]
    simp [List.getD_eq_getElem?_getD, List.getElem?_eq_getElem hj]
  ·rw [getL, if_neg (by omega)]
   exact back_get all x (f2 :: r) h.2 (fun f hf => hb f (by simp [hf])) (by omega) (by omega)
end Go.Proofs
/- A slot: its words, what they are meant to be, is it right. -/
set_option autoImplicit false
namespace Go.Proofs
open Go.SL
attribute [local irreducible] J JL QOp JOp seqQ blockQ loopQ retQ slc cel hex star pur stars Does RV Ent pAt
instance : Places Tryz.prog 159 [(0, 1), (1, 1), (2, 1)] [.int .u32 0, .int .u32 0, .int .u32 0] := Places.arr3 (k := .u32) rfl
theorem eqg3 : EqG Tryz.prog 159 := ⟨by kernel_rfl⟩
def ws (l : List UInt8) (k : Nat) : List Value := (List.range 3).map fun j => Value.int .u32 (wd l k j : Int)
theorem ws_get (l : List UInt8) (k j : Nat) (h : j < 3) : (ws l k)[j]? = some (Value.int .u32 (wd l k j : Int)) := by
 simp [ws, h]
theorem ws_set (l : List UInt8) (k : Nat) (h : k < l.length) (h2 : k < 12) : (ws l k).take (k / 4) ++ [Value.int .u32 (wd l (k + 1) (k / 4) : Int)] ++ (ws l k).drop (k / 4 + 1) = ws l (k + 1) := by
 have hl : k / 4 < (ws l k).length := by simp [ws]; omega
 have e : (ws l k).take (k / 4) ++ [Value.int .u32 (wd l (k + 1) (k / 4) : Int)] ++ (ws l k).drop (k / 4 + 1) = (ws l k).set (k / 4) (Value.int .u32 (wd l (k + 1) (k / 4) : Int)) := by
  rw [List.set_eq_take_append_cons_drop, if_pos hl]; simp
 rw [e]
 apply List.ext_getElem?
 intro j
 rw [List.getElem?_set]
 by_cases hj : k / 4 = j
 ·subst hj
  rw [if_pos rfl, if_pos hl, ws_get _ _ _ (by omega)]
 ·rw [if_neg hj]
  by_cases h3 : j < 3
  ·rw [ws_get _ _ _ h3, ws_get _ _ _ h3, wd_other l k j h (fun h => hj h.symm)]
  ·simp [ws, h3]
abbrev wsV (l : List UInt8) : Value := .agg #[.int .u32 (nw l 0 : Int), .int .u32 (nw l 1 : Int), .int .u32 (nw l 2 : Int)]
theorem ws_12 (l : List UInt8) : ws l 12 = [.int .u32 (nw l 0 : Int), .int .u32 (nw l 1 : Int), .int .u32 (nw l 2 : Int)] := by
 have e : ws l 12 = [.int .u32 (wd l 12 0 : Int), .int .u32 (wd l 12 1 : Int), .int .u32 (wd l 12 2 : Int)] := rfl
 rw [e, wd_12 l 0 (by decide), wd_12 l 1 (by decide), wd_12 l 2 (by decide)]
theorem words_ok (E : World) (S : SV) (l : List UInt8) (hl : 12 ≤ l.length) : Does Tryz.prog E 69 [.agg #[S.v]] [slc tB true S l] fun v L => v = wsV l ∧ L = [slc tB true S l] := by
 refine Does.of Tryz.func69 rfl Tryz.ntmps69 rfl rfl fun F => ?_
 refine J.norm ?_
 refine Sr ?_
 refine L_o rfl rfl rfl (O_box rfl fun b1 => ?_)
 refine L_o rfl rfl rfl (O_alloc fun b2 => ?_)
 refine Ln ?_
 refine Sr ?_
 refine L_o rfl rfl rfl (O_alloc fun b3 => ?_)
 refine Ln ?_
 refine J_seq ?_
 refine Sr ?_
 refine Lq (Q_move rfl) ?_
 refine Ln ?_
 refine J_block ?_
 refine J_loop (fun k : Nat => k ≤ 12) (fun k => [(1, .pointer (some ⟨b1, 0, none⟩)), (2, .pointer (some ⟨b2, 0, none⟩)), (3, .pointer (some ⟨b3, 0, none⟩)), (5, .int .i64 (k : Int))])
  (fun k => [cel b3 (ws l k) 159, cel b2 [.int .u32 0, .int .u32 0, .int .u32 0] 159, cel b1 [S.v] 140, slc tB true S l, F]) (fun k => 12 - k) 0 (by omega) ⟨rfl, rfl, rfl, rfl, trivial⟩ (Ent.refl _) ?_
 intro k hk
 refine Sr ?_
 refine Lq (Q_lss rfl rfl) ?_
 refine Ln ?_
 refine J_seq ?_
 refine J_condD rfl (fun h => ?_) (fun h => ?_)
 ·have hlt : k < 12 := by omega
  have hlt2 : k < l.length := by omega
  have hq : IntKind.i64.wrap (Int.tdiv (k : Int) 4) = ((k / 4 : Nat) : Int) := by
   have : Int.tdiv (k : Int) 4 = ((k / 4 : Nat) : Int) := by rw [Int.tdiv_eq_ediv_of_nonneg (by omega)]; omega
   rw [this]; exact IntWalk.i64_in _ (by omega)
  have hw1 : wd l k (k / 4) * 2 ^ 8 % 2 ^ 32 < 2 ^ 32 := Nat.mod_lt _ (by decide)
  have hw2 : l[k].toNat % 2 ^ 32 < 2 ^ 32 := Nat.mod_lt _ (by decide)
  refine J_skip ?_
  refine seqQ_normal ?_
  refine J_seq ?_
  refine J_block ?_
  refine Sr ?_
  refine Lq (Q_move rfl) ?_
  refine Lq (Q_assign rfl) ?_
  refine Ln ?_
  refine DL [0,1,2,3,4,5,6,7,8,9,10,11,12,13,14] (.quiet 0 (.quiet 1 (.quiet 2 (.quiet 3 (.quiet 4 (.quiet 5 (.quiet 6 (.quiet 7 (.quiet 8 (.quiet 9 (.quiet 10 (.quiet 11 (.quiet 12 (.quiet 13 (.quiet 14 (.loud 15 .done)))))))))))))))) Tryz.mixed ?_
  refine Sq (Ent.refl _) rfl (Q_move rfl) ?_
  refine Sq (Ent.refl _) rfl (Q_quo rfl rfl (by decide) hq) ?_
  refine Sq (Ent.refl _) rfl (Q_move rfl) ?_
  refine Sq (Ent.refl _) rfl (Q_quo rfl rfl (by decide) hq) ?_
  refine Sq (Ent.refl _) rfl (Q_ia (o' := k / 4) (k / 4) rfl rfl rfl (by omega) (by omega)) ?_
  refine Sq (Ent.refl _) rfl (Q_ld 0 (v := .int .u32 (wd l k (k / 4) : Int)) rfl rfl rfl (ws_get l k _ (by omega))) ?_
  refine Sq (Ent.refl _) rfl (Q_shlN (wd l k (k / 4)) 8 rfl rfl rfl rfl (by decide)) ?_
  refine Sq (Ent.refl _) rfl (Q_fa0 rfl) ?_
  refine Sq (Ent.refl _) rfl (Q_ld 2 rfl rfl rfl rfl) ?_
  refine Sq (Ent.refl _) rfl (Q_move rfl) ?_
  refine Sq (Ent.refl _) rfl (Q_ixAt 3 k rfl rfl rfl rfl hlt2 rfl) ?_
  refine Sq (Ent.refl _) rfl (Q_ldEAt 3 k 0 (v := .int .u8 (l[k].toNat : Int)) rfl rfl rfl rfl hlt2 (by decide) rfl) ?_
  refine Sq (Ent.refl _) rfl (Q_cvtN l[k].toNat rfl rfl) ?_
  refine Sq (Ent.refl _) rfl ((Q_orN (wd l k (k / 4) * 2 ^ 8 % 2 ^ 32) (l[k].toNat % 2 ^ 32) rfl rfl rfl rfl hw1 hw2).as (v' := .int .u32 (wd l (k + 1) (k / 4) : Int)) (by rw [wd_or l k hlt2])) ?_
  refine Sq (Ent.refl _) rfl (Q_ia (o' := k / 4) (k / 4) rfl rfl rfl (by omega) (by omega)) ?_
  refine S_s rfl rfl rfl (O_st (sz := 1) 0 rfl rfl rfl rfl rfl (by simp [Value.oneCell', Value.cells]) (by simp [ws]; omega) (ws_set l k hlt2 hlt) ⟨[], free_no (by kernel_rfl), ?_⟩)
  refine JS.norm ?_
  refine S_nil ?_
  refine blockQ_normal ?_
  refine seqQ_normal ?_
  refine J_region ?_
  refine Lq (Q_add rfl rfl (by first | exact IntWalk.i64_in _ (by omega) | exact IntWalk.u8_in _ (by omega) | exact IntWalk.u32_in _ (by omega) | exact IntWalk.u64_in _ (by omega) | rfl)) ?_
  refine Lq (Q_move rfl) ?_
  refine JL_nil ?_
  exact loopQ_normal (k + 1) hlt (by omega) ⟨rfl, rfl, rfl, rfl, trivial⟩ (Ent.refl _)
 ·obtain rfl : k = 12 := by omega
  rw [ws_12]
  refine J_exit ?_
  refine seqQ_exit ?_
  refine loopQ_exit ?_
  refine blockQ_hit ?_
  refine seqQ_normal ?_
  refine Sr ?_
  refine Lq (Q_ldA 0 rfl rfl rfl) ?_
  refine L_s rfl rfl (O_stW 1 rfl rfl rfl rfl ?_)
  refine JL.norm ?_
  refine Ln ?_
  refine J_ret ?_
  exact retQ_ret _ [slc tB true S l] (.cons (RV_cell 1 rfl rfl rfl rfl) .nil) ⟨rfl, rfl⟩ (Ent.re [3,4] rfl)
theorem meant_ok (E : World) (S : SV) (l : List UInt8) (g : Nat) (hl : 12 ≤ l.length) (hl2 : l.length ≤ 100000) : Does Tryz.prog E 113 [.agg #[S.v], .int .u32 (g : Int)] [slc tB true S l] fun v L => v = .agg #[.int .u32 (crc (l.drop 4) : Int), .int .u32 (g : Int), .int .u32 (((l.length - 12) % 2 ^ 32 : Nat) : Int)] ∧ L = [slc tB true S l] := by
 have hq : IntKind.i64.wrap ((l.length : Int) - 12) = ((l.length - 12 : Nat) : Int) := by
  rw [show (l.length : Int) - 12 = ((l.length - 12 : Nat) : Int) by omega]; exact IntWalk.i64_in _ (by omega)
 have e : ((l.take l.length).drop 4) = l.drop 4 := by rw [List.take_length]
 have hs := sum_ok E (l.drop 4) (by rw [List.length_drop]; omega)
 rw [← e] at hs
 refine Does.of Tryz.func113 rfl Tryz.ntmps113 rfl rfl fun F => ?_
 refine J.norm ?_
 refine Sr ?_
 refine L_o rfl rfl rfl (O_box rfl fun b2 => ?_)
 refine L_o rfl rfl rfl (O_alloc fun b4 => ?_)
 refine Ln ?_
 refine J_seq ?_
 refine DH [1,2] [0,1,2,3,5,6,7,8,9,10,11] (.quiet 0 (.quiet 1 (.quiet 2 (.quiet 3 (.quiet 5 (.quiet 6 (.quiet 7 (.quiet 8 (.quiet 9 (.quiet 10 (.loud 4 (.quiet 11 (.loud 12 .done))))))))))))) Tryz.mixed ?_
 refine Sq (Ent.re [1,2] rfl) rfl (Q_fa0 rfl) ?_
 refine Sq (Ent.re [1,2] rfl) rfl (Q_ld 0 rfl rfl rfl rfl) ?_
 refine Sq (Ent.re [1,2] rfl) rfl (Q_slL 4 (fun w h => h.rd 1 rfl) rfl rfl rfl (by omega) rfl) ?_
 refine Sq (Ent.re [1,2] rfl) rfl (Q_b2s tB_enc (fun w h => (h.rd 1 rfl).sub 4 l.length (by omega) (Nat.le_refl _)) rfl) ?_
 refine Sq (Ent.re [1,2] rfl) rfl (Q_move rfl) ?_
 refine Sq (Ent.re [1,2] rfl) rfl (Q_fa0 rfl) ?_
 refine Sq (Ent.re [1,2] rfl) rfl (Q_ld 0 rfl rfl rfl rfl) ?_
 refine Sq (Ent.re [1,2] rfl) rfl (Q_lenAt 1 rfl rfl) ?_
 refine Sq (Ent.re [1,2] rfl) rfl (Q_sub rfl rfl hq) ?_
 refine Sq (Ent.re [1,2] rfl) rfl (Q_cvtN (l.length - 12) rfl rfl) ?_
 refine S_o rfl rfl rfl rfl (O_call [] [0,1,2,3] hs rfl rfl ?_)
 (rintro _ _ ⟨rfl, rfl⟩; refine ⟨_, fun _ => ⟨Ent.reN [1,2] rfl, Ent.refl _⟩, ?_⟩)
 refine JS.norm ?_
 refine Sq (Ent.re [1,2] rfl) rfl (Q_build rfl) ?_
 refine S_s rfl rfl rfl (O_stW 0 rfl rfl rfl rfl ⟨[], free_no (by kernel_rfl), ?_⟩)
 refine JS.norm ?_
 refine S_nil ?_
 refine seqQ_normal ?_
 refine J_ret ?_
 rw [e]
 exact retQ_ret _ [slc tB true S l] (.cons (RV_cell 0 rfl rfl rfl rfl) .nil) ⟨rfl, rfl⟩ (Ent.re [2,3] rfl)
end Go.Proofs
/- Which slot is told. -/
set_option autoImplicit false
namespace Go.Proofs
open Go.SL
attribute [local irreducible] J JL QOp JOp seqQ blockQ loopQ retQ slc cel hex star pur stars Does RV Ent pAt
theorem right_eq (l : List UInt8) (h : 12 ≤ l.length) : decide (((nw l 0 : Int)) = ((crc (l.drop 4) : Nat) : Int) ∧ ((nw l 1 : Nat) : Int) = ((nw l 1 : Nat) : Int) ∧ ((nw l 2 : Nat) : Int) = (((l.length - 12) % 2 ^ 32 : Nat) : Int)) = rightB l := by
 simp only [rightB, h, decide_true, Bool.true_and]
 by_cases h1 : nw l 0 = crc (l.drop 4) <;> by_cases h2 : nw l 2 = (l.length - 12) % 2 ^ 32 <;> simp [h1, h2] <;> omega
theorem right_ok (E : World) (S : SV) (l : List UInt8) (hl2 : l.length ≤ 100000) : Does Tryz.prog E 96 [.agg #[S.v]] [slc tB true S l] fun v L => v = .bool (rightB l) ∧ L = [slc tB true S l] := by
 refine Does.of Tryz.func96 rfl Tryz.ntmps96 rfl rfl fun F => ?_
 refine J.norm ?_
 refine Sr ?_
 refine L_o rfl rfl rfl (O_box rfl fun b1 => ?_)
 refine Lq (Q_assign rfl) ?_
 refine Ln ?_
 refine J_seq ?_
 refine Sr ?_
 refine Lq (Q_fa0 rfl) ?_
 refine Lq (Q_ld 0 rfl rfl rfl rfl) ?_
 refine Lq (Q_lenAt 1 rfl rfl) ?_
 refine Lq (Q_lss rfl rfl) ?_
 refine Ln ?_
 refine J_condD rfl (fun h => ?_) (fun h => ?_)
 ·refine Sr ?_
  refine Lq (Q_assign rfl) ?_
  refine Ln ?_
  refine J_ret ?_
  refine seqQ_ret ?_
  have e : rightB l = false := by simp [rightB]; omega
  exact retQ_ret _ [slc tB true S l] (.cons (RV_tmp rfl) .nil) ⟨by rw [e]; rfl, rfl⟩ (Ent.re [1,2] rfl)
 ·have hl : 12 ≤ l.length := by omega
  refine J_skip ?_
  refine seqQ_normal ?_
  refine Sr ?_
  refine Lq (Q_ldA 0 rfl rfl rfl) ?_
  refine L_o rfl rfl rfl (O_call [1] [0,2] (words_ok E S l hl) rfl rfl ?_)
  rintro _ _ ⟨rfl, rfl⟩
  refine JL.norm ?_
  refine L_o rfl rfl rfl (O_alloc fun b3 => ?_)
  refine L_s rfl rfl (O_stW 0 rfl rfl rfl rfl ?_)
  refine JL.norm ?_
  refine Ln ?_
  refine J_seq ?_
  refine DH [0,2,1] [0,1,2,3,5,6] (.quiet 0 (.quiet 1 (.quiet 2 (.quiet 3 (.loud 4 (.quiet 5 (.quiet 6 .done))))))) Tryz.mixed ?_
  refine Sq (Ent.re [0,2,1] rfl) rfl (Q_ldA 0 rfl rfl rfl) ?_
  refine Sq (Ent.re [0,2,1] rfl) rfl (Q_ldA 1 rfl rfl rfl) ?_
  refine Sq (Ent.re [0,2,1] rfl) rfl (Q_ia (o' := 1) 1 rfl rfl rfl (by decide) (by decide)) ?_
  refine Sq (Ent.re [0,2,1] rfl) rfl (Q_ld 0 rfl rfl rfl rfl) ?_
  refine S_o rfl rfl rfl rfl (O_call [1] [0,2,3] (meant_ok E S l (nw l 1) hl hl2) rfl rfl ?_)
  (rintro _ _ ⟨rfl, rfl⟩; refine ⟨_, fun _ => ⟨Ent.reN [1,2,0] rfl, Ent.refl _⟩, ?_⟩)
  refine JS.norm ?_
  refine Sq (Ent.re [1,2,0] rfl) rfl (Q_geql eqg3 (EqV_arr3 _ _ _ _ _ _ 9998) rfl rfl) ?_
  refine Sq (Ent.re [1,2,0] rfl) rfl (Q_assign rfl) ?_
  refine S_nil ?_
  refine seqQ_normal ?_
  refine J_ret ?_
  exact retQ_ret _ [slc tB true S l] (.cons (RV_tmp rfl) .nil) ⟨by rw [right_eq l hl]; rfl, rfl⟩ (Ent.re [0,3] rfl)
theorem told_ok (E : World) (p : Nat) (S T : SV) (a b : List UInt8) (ha : a.length ≤ 100000) (hb : b.length ≤ 100000) : Does Tryz.prog E 68 [.pointer (some ⟨p, 0, none⟩)] [cel p [S.v, T.v] 143, slc tB true S a, slc tB true T b] fun v L => v = .int .i64 (told a b) ∧ L = [cel p [S.v, T.v] 143, slc tB true S a, slc tB true T b] := by
 have hra := right_ok E S a ha
 have hrb := right_ok E T b hb
 have hwa : 12 ≤ a.length ∨ rightB a = false := by by_cases h : 12 ≤ a.length; exact .inl h; exact .inr (by simp [rightB, h])
 have hwb : 12 ≤ b.length ∨ rightB b = false := by by_cases h : 12 ≤ b.length; exact .inl h; exact .inr (by simp [rightB, h])
 refine Does.of Tryz.func68 rfl Tryz.ntmps68 rfl rfl fun F => ?_
 refine J.norm ?_
 refine Sr ?_
 refine Lq (Q_assign rfl) ?_
 refine Ln ?_
 refine Sr ?_
 refine Lq (Q_assign rfl) ?_
 refine Ln ?_
 refine J_seq ?_
 refine Sr ?_
 refine Lq (Q_move rfl) ?_
 refine Lq (Q_nilCheck rfl) ?_
 refine Lq (Q_fa0 rfl) ?_
 refine Lq (Q_ldA 0 rfl rfl rfl) ?_
 refine Lq (Q_move rfl) ?_
 refine Ln ?_
 refine J_block ?_
 refine J_loop (fun k : Nat => k ≤ 2) (fun k => [(0, .pointer (some ⟨p, 0, none⟩)), (3, .int .i64 (if k = 0 then -1 else if k = 1 then (if rightB a = true then 0 else -1) else told a b)), (9, .agg #[S.v, T.v]), (10, .int .i64 (k : Int))])
  (fun _ => [cel p [S.v, T.v] 143, slc tB true S a, slc tB true T b, F]) (fun k => 2 - k) 0 (by omega) ⟨rfl, rfl, rfl, rfl, trivial⟩ (Ent.refl _) ?_
 intro k hk
 by_cases h2 : k = 2
 ·subst h2
  refine Sr ?_
  refine Lq (Q_lss rfl rfl) ?_
  refine Ln ?_
  refine J_seq ?_
  refine J_condF rfl ?_
  refine J_exit ?_
  refine seqQ_exit ?_
  refine loopQ_exit ?_
  refine blockQ_hit ?_
  refine seqQ_normal ?_
  refine Sr ?_
  refine Lq (Q_move rfl) ?_
  refine Lq (Q_assign rfl) ?_
  refine Ln ?_
  refine J_ret ?_
  exact retQ_ret _ [cel p [S.v, T.v] 143, slc tB true S a, slc tB true T b] (.cons (RV_tmp rfl) .nil) ⟨rfl, rfl⟩ (Ent.refl _)
 by_cases h1 : k = 1
 ·subst h1
  cases eb : rightB b with
  | false =>
   rw [eb] at hrb
   have et : told a b = if rightB a = true then 0 else -1 := by simp [told, eb]
   refine Sr ?_
   refine Lq (Q_lss rfl rfl) ?_
   refine Ln ?_
   refine J_seq ?_
   refine J_condT rfl ?_
   refine J_skip ?_
   refine seqQ_normal ?_
   refine J_seq ?_
   refine J_block ?_
   refine Sr ?_
   refine Lq (Q_move rfl) ?_
   refine Lq (Q_aiA 1 (vs := #[T.v]) rfl rfl rfl (by decide) rfl rfl) ?_
   refine L_o rfl rfl rfl (O_alloc fun b5 => ?_)
   refine Lq (Q_assign rfl) ?_
   refine L_s rfl rfl (O_stW 0 rfl rfl rfl rfl ?_)
   refine JL.norm ?_
   refine Ln ?_
   refine J_seq ?_
   refine DH [0,1] [0,2,3,4,5,6,8,9,10,11,12,13,14,16,17,18,19] (.quiet 0 (.loud 1 (.quiet 2 (.quiet 3 (.quiet 4 (.quiet 5 (.quiet 6 (.quiet 9 (.quiet 10 (.quiet 11 (.quiet 12 (.quiet 13 (.quiet 14 (.loud 7 (.quiet 8 (.loud 15 (.quiet 16 (.quiet 17 (.quiet 18 (.quiet 19 .done)))))))))))))))))))) Tryz.mixed ?_
   refine Sq (Ent.re [0,1] rfl) rfl (Q_ldA 0 rfl rfl rfl) ?_
   refine S_o rfl rfl rfl rfl (O_call [3] [0,1,2,4] hrb rfl rfl ?_)
   (rintro _ _ ⟨rfl, rfl⟩; refine ⟨_, fun _ => ⟨Ent.reN [1,2] rfl, Ent.refl _⟩, ?_⟩)
   refine JS.norm ?_
   refine Sq (Ent.re [1,2] rfl) rfl (Q_move rfl) ?_
   refine S_n (Ent.re [1,2] rfl) rfl rfl rfl rfl ?_
   refine S_n (Ent.re [1,2] rfl) rfl rfl rfl rfl ?_
   refine S_n (Ent.re [1,2] rfl) rfl rfl rfl rfl ?_
   refine S_n (Ent.re [1,2] rfl) rfl rfl rfl rfl ?_
   refine S_n (Ent.re [1,2] rfl) rfl rfl rfl rfl ?_
   refine S_n (Ent.re [1,2] rfl) rfl rfl rfl rfl ?_
   refine S_n (Ent.re [1,2] rfl) rfl rfl rfl rfl ?_
   refine S_n (Ent.re [1,2] rfl) rfl rfl rfl rfl ?_
   refine S_n (Ent.re [1,2] rfl) rfl rfl rfl rfl ?_
   refine S_n (Ent.re [1,2] rfl) rfl rfl rfl rfl ?_
   refine S_no rfl rfl rfl rfl (fun _ => (Ent.re [1,2] rfl)) ?_
   refine S_n (Ent.re [1,2] rfl) rfl rfl rfl rfl ?_
   refine S_no rfl rfl rfl rfl (fun _ => (Ent.re [1,2] rfl)) ?_
   refine S_n (Ent.re [1,2] rfl) rfl rfl rfl rfl ?_
   refine S_n (Ent.re [1,2] rfl) rfl rfl rfl rfl ?_
   refine S_n (Ent.re [1,2] rfl) rfl rfl rfl rfl ?_
   refine Sq (Ent.re [1,2] rfl) rfl (Q_pickF rfl rfl) ?_
   refine S_nil ?_
   refine seqQ_normal ?_
   refine J_condF rfl ?_
   refine J_skip ?_
   refine blockQ_normal ?_
   refine seqQ_normal ?_
   refine J_region ?_
   refine Lq (Q_add rfl rfl (by first | exact IntWalk.i64_in _ (by omega) | exact IntWalk.u8_in _ (by omega) | exact IntWalk.u32_in _ (by omega) | exact IntWalk.u64_in _ (by omega) | rfl)) ?_
   refine Lq (Q_move rfl) ?_
   refine JL_nil ?_
   exact loopQ_normal 2 (by omega) (by omega) ⟨rfl, by rw [et]; rfl, rfl, rfl, trivial⟩ (Ent.re [2,3,0,4] rfl)
  | true =>
   rw [eb] at hrb
   have hb12 : 12 ≤ b.length := by rcases hwb with h | h; exact h; rw [eb] at h; cases h
   cases ea : rightB a with
   | false =>
    have et : told a b = 1 := by simp [told, eb, ea]
    refine Sr ?_
    refine Lq (Q_lss rfl rfl) ?_
    refine Ln ?_
    refine J_seq ?_
    refine J_condT rfl ?_
    refine J_skip ?_
    refine seqQ_normal ?_
    refine J_seq ?_
    refine J_block ?_
    refine Sr ?_
    refine Lq (Q_move rfl) ?_
    refine Lq (Q_aiA 1 (vs := #[T.v]) rfl rfl rfl (by decide) rfl rfl) ?_
    refine L_o rfl rfl rfl (O_alloc fun b5 => ?_)
    refine Lq (Q_assign rfl) ?_
    refine L_s rfl rfl (O_stW 0 rfl rfl rfl rfl ?_)
    refine JL.norm ?_
    refine Ln ?_
    refine J_seq ?_
    refine DH [0,1] [0,2,3,4,5,6,8,9,10,11,12,13,14,16,17,18,19] (.quiet 0 (.loud 1 (.quiet 2 (.quiet 3 (.quiet 4 (.quiet 5 (.quiet 6 (.quiet 9 (.quiet 10 (.quiet 11 (.quiet 12 (.quiet 13 (.quiet 14 (.loud 7 (.quiet 8 (.loud 15 (.quiet 16 (.quiet 17 (.quiet 18 (.quiet 19 .done)))))))))))))))))))) Tryz.mixed ?_
    refine Sq (Ent.re [0,1] rfl) rfl (Q_ldA 0 rfl rfl rfl) ?_
    refine S_o rfl rfl rfl rfl (O_call [3] [0,1,2,4] hrb rfl rfl ?_)
    (rintro _ _ ⟨rfl, rfl⟩; refine ⟨_, fun _ => ⟨Ent.reN [1,2] rfl, Ent.refl _⟩, ?_⟩)
    refine JS.norm ?_
    refine Sq (Ent.re [1,2] rfl) rfl (Q_move rfl) ?_
    refine Sq (Ent.re [1,2] rfl) rfl (Q_move rfl) ?_
    refine Sq (Ent.re [1,2] rfl) rfl ((Q_lss rfl rfl).as (v' := .bool true) (congrArg Value.bool (decide_eq_true (by simp)))) ?_
    refine Sq (Ent.re [1,2] rfl) rfl (Q_move rfl) ?_
    refine S_n (Ent.re [1,2] rfl) rfl rfl rfl rfl ?_
    refine S_n (Ent.re [1,2] rfl) rfl rfl rfl rfl ?_
    refine S_n (Ent.re [1,2] rfl) rfl rfl rfl rfl ?_
    refine S_n (Ent.re [1,2] rfl) rfl rfl rfl rfl ?_
    refine S_n (Ent.re [1,2] rfl) rfl rfl rfl rfl ?_
    refine S_n (Ent.re [1,2] rfl) rfl rfl rfl rfl ?_
    refine S_n (Ent.re [1,2] rfl) rfl rfl rfl rfl ?_
    refine S_no rfl rfl rfl rfl (fun _ => (Ent.re [1,2] rfl)) ?_
    refine S_n (Ent.re [1,2] rfl) rfl rfl rfl rfl ?_
    refine S_no rfl rfl rfl rfl (fun _ => (Ent.re [1,2] rfl)) ?_
    refine S_n (Ent.re [1,2] rfl) rfl rfl rfl rfl ?_
    refine S_n (Ent.re [1,2] rfl) rfl rfl rfl rfl ?_
    refine Sq (Ent.re [1,2] rfl) rfl (Q_pickT rfl rfl) ?_
    refine Sq (Ent.re [1,2] rfl) rfl (Q_pickT rfl rfl) ?_
    refine S_nil ?_
    refine seqQ_normal ?_
    refine J_condT rfl ?_
    refine J_region ?_
    refine Lq (Q_move rfl) ?_
    refine Lq (Q_assign rfl) ?_
    refine JL_nil ?_
    refine blockQ_normal ?_
    refine seqQ_normal ?_
    refine J_region ?_
    refine Lq (Q_add rfl rfl (by first | exact IntWalk.i64_in _ (by omega) | exact IntWalk.u8_in _ (by omega) | exact IntWalk.u32_in _ (by omega) | exact IntWalk.u64_in _ (by omega) | rfl)) ?_
    refine Lq (Q_move rfl) ?_
    refine JL_nil ?_
    exact loopQ_normal 2 (by omega) (by omega) ⟨rfl, by rw [et]; rfl, rfl, rfl, trivial⟩ (Ent.re [2,3,0,4] rfl)
   | true =>
    have ha12 : 12 ≤ a.length := by rcases hwa with h | h; exact h; rw [ea] at h; cases h
    refine Sr ?_
    refine Lq (Q_lss rfl rfl) ?_
    refine Ln ?_
    refine J_seq ?_
    refine J_condT rfl ?_
    refine J_skip ?_
    refine seqQ_normal ?_
    refine J_seq ?_
    refine J_block ?_
    refine Sr ?_
    refine Lq (Q_move rfl) ?_
    refine Lq (Q_aiA 1 (vs := #[T.v]) rfl rfl rfl (by decide) rfl rfl) ?_
    refine L_o rfl rfl rfl (O_alloc fun b5 => ?_)
    refine Lq (Q_assign rfl) ?_
    refine L_s rfl rfl (O_stW 0 rfl rfl rfl rfl ?_)
    refine JL.norm ?_
    refine Ln ?_
    refine J_seq ?_
    refine DH [0,1] [0,2,3,4,5,6,8,9,10,11,12,13,14,16,17,18,19] (.quiet 0 (.loud 1 (.quiet 2 (.quiet 3 (.quiet 4 (.quiet 5 (.quiet 6 (.quiet 9 (.quiet 10 (.quiet 11 (.quiet 12 (.quiet 13 (.quiet 14 (.loud 7 (.quiet 8 (.loud 15 (.quiet 16 (.quiet 17 (.quiet 18 (.quiet 19 .done)))))))))))))))))))) Tryz.mixed ?_
    refine Sq (Ent.re [0,1] rfl) rfl (Q_ldA 0 rfl rfl rfl) ?_
    refine S_o rfl rfl rfl rfl (O_call [3] [0,1,2,4] hrb rfl rfl ?_)
    (rintro _ _ ⟨rfl, rfl⟩; refine ⟨_, fun _ => ⟨Ent.reN [1,2] rfl, Ent.refl _⟩, ?_⟩)
    refine JS.norm ?_
    refine Sq (Ent.re [1,2] rfl) rfl (Q_move rfl) ?_
    refine Sq (Ent.re [1,2] rfl) rfl (Q_move rfl) ?_
    refine Sq (Ent.re [1,2] rfl) rfl ((Q_lss rfl rfl).as (v' := .bool false) (congrArg Value.bool (decide_eq_false (by simp)))) ?_
    refine Sq (Ent.re [1,2] rfl) rfl (Q_move rfl) ?_
    refine Sq (Ent.re [1,2] rfl) rfl (Q_ldA 0 rfl rfl rfl) ?_
    refine Sq (Ent.re [1,2] rfl) rfl (Q_move rfl) ?_
    refine Sq (Ent.re [1,2] rfl) rfl (Q_move rfl) ?_
    refine Sq (Ent.re [1,2] rfl) rfl (Q_nilCheck rfl) ?_
    refine Sq (Ent.re [1,2] rfl) rfl (Q_fa0 rfl) ?_
    refine Sq (Ent.re [1,2] rfl) rfl (Q_ia (o' := 0) 0 rfl rfl rfl (by decide) (by decide)) ?_
    refine Sq (Ent.re [1,2] rfl) rfl (Q_ldA 1 rfl rfl rfl) ?_
    refine S_o rfl rfl rfl rfl (O_call [0] [1,2,3,4] (words_ok E T b hb12) rfl rfl ?_)
    (rintro _ _ ⟨rfl, rfl⟩; refine ⟨_, fun _ => ⟨Ent.reN [1,2] rfl, Ent.refl _⟩, ?_⟩)
    refine JS.norm ?_
    refine Sq (Ent.re [1,2] rfl) rfl (Q_aiS 1 rfl rfl rfl (by decide) rfl rfl) ?_
    refine S_o rfl rfl rfl rfl (O_call [3] [0,1,2,4] (words_ok E S a ha12) rfl rfl ?_)
    (rintro _ _ ⟨rfl, rfl⟩; refine ⟨_, fun _ => ⟨Ent.reN [2,3] rfl, Ent.refl _⟩, ?_⟩)
    refine JS.norm ?_
    refine Sq (Ent.re [2,3] rfl) rfl (Q_aiS 1 rfl rfl rfl (by decide) rfl rfl) ?_
    refine Sq (Ent.re [2,3] rfl) rfl (Q_gtr rfl rfl) ?_
    refine Sq (Ent.re [2,3] rfl) rfl (Q_pickF rfl rfl) ?_
    refine Sq (Ent.re [2,3] rfl) rfl (Q_pickT rfl rfl) ?_
    refine S_nil ?_
    refine seqQ_normal ?_
    refine J_condD rfl (fun h3 => ?_) (fun h3 => ?_)
    ·have et : told a b = 1 := by simp [told, eb, ea]; omega
     refine J_region ?_
     refine Lq (Q_move rfl) ?_
     refine Lq (Q_assign rfl) ?_
     refine JL_nil ?_
     refine blockQ_normal ?_
     refine seqQ_normal ?_
     refine J_region ?_
     refine Lq (Q_add rfl rfl (by first | exact IntWalk.i64_in _ (by omega) | exact IntWalk.u8_in _ (by omega) | exact IntWalk.u32_in _ (by omega) | exact IntWalk.u64_in _ (by omega) | rfl)) ?_
     refine Lq (Q_move rfl) ?_
     refine JL_nil ?_
     exact loopQ_normal 2 (by omega) (by omega) ⟨rfl, by rw [et]; rfl, rfl, rfl, trivial⟩ (Ent.re [3,0,1,4] rfl)
    ·have et : told a b = 0 := by simp [told, eb, ea]; omega
     refine J_skip ?_
     refine blockQ_normal ?_
     refine seqQ_normal ?_
     refine J_region ?_
     refine Lq (Q_add rfl rfl (by first | exact IntWalk.i64_in _ (by omega) | exact IntWalk.u8_in _ (by omega) | exact IntWalk.u32_in _ (by omega) | exact IntWalk.u64_in _ (by omega) | rfl)) ?_
     refine Lq (Q_move rfl) ?_
     refine JL_nil ?_
     exact loopQ_normal 2 (by omega) (by omega) ⟨rfl, by rw [et]; rfl, rfl, rfl, trivial⟩ (Ent.re [3,0,1,4] rfl)
 ·obtain rfl : k = 0 := by omega
  cases ea : rightB a with
  | false =>
   rw [ea] at hra
   refine Sr ?_
   refine Lq (Q_lss rfl rfl) ?_
   refine Ln ?_
   refine J_seq ?_
   refine J_condT rfl ?_
   refine J_skip ?_
   refine seqQ_normal ?_
   refine J_seq ?_
   refine J_block ?_
   refine Sr ?_
   refine Lq (Q_move rfl) ?_
   refine Lq (Q_aiA 0 (vs := #[S.v]) rfl rfl rfl (by decide) rfl rfl) ?_
   refine L_o rfl rfl rfl (O_alloc fun b5 => ?_)
   refine Lq (Q_assign rfl) ?_
   refine L_s rfl rfl (O_stW 0 rfl rfl rfl rfl ?_)
   refine JL.norm ?_
   refine Ln ?_
   refine J_seq ?_
   refine DH [0,1] [0,2,3,4,5,6,8,9,10,11,12,13,14,16,17,18,19] (.quiet 0 (.loud 1 (.quiet 2 (.quiet 3 (.quiet 4 (.quiet 5 (.quiet 6 (.quiet 9 (.quiet 10 (.quiet 11 (.quiet 12 (.quiet 13 (.quiet 14 (.loud 7 (.quiet 8 (.loud 15 (.quiet 16 (.quiet 17 (.quiet 18 (.quiet 19 .done)))))))))))))))))))) Tryz.mixed ?_
   refine Sq (Ent.re [0,1] rfl) rfl (Q_ldA 0 rfl rfl rfl) ?_
   refine S_o rfl rfl rfl rfl (O_call [2] [0,1,3,4] hra rfl rfl ?_)
   (rintro _ _ ⟨rfl, rfl⟩; refine ⟨_, fun _ => ⟨Ent.reN [1,2] rfl, Ent.refl _⟩, ?_⟩)
   refine JS.norm ?_
   refine Sq (Ent.re [1,2] rfl) rfl (Q_move rfl) ?_
   refine S_n (Ent.re [1,2] rfl) rfl rfl rfl rfl ?_
   refine S_n (Ent.re [1,2] rfl) rfl rfl rfl rfl ?_
   refine S_n (Ent.re [1,2] rfl) rfl rfl rfl rfl ?_
   refine S_n (Ent.re [1,2] rfl) rfl rfl rfl rfl ?_
   refine S_n (Ent.re [1,2] rfl) rfl rfl rfl rfl ?_
   refine S_n (Ent.re [1,2] rfl) rfl rfl rfl rfl ?_
   refine S_n (Ent.re [1,2] rfl) rfl rfl rfl rfl ?_
   refine S_n (Ent.re [1,2] rfl) rfl rfl rfl rfl ?_
   refine S_n (Ent.re [1,2] rfl) rfl rfl rfl rfl ?_
   refine S_n (Ent.re [1,2] rfl) rfl rfl rfl rfl ?_
   refine S_no rfl rfl rfl rfl (fun _ => (Ent.re [1,2] rfl)) ?_
   refine S_n (Ent.re [1,2] rfl) rfl rfl rfl rfl ?_
   refine S_no rfl rfl rfl rfl (fun _ => (Ent.re [1,2] rfl)) ?_
   refine S_n (Ent.re [1,2] rfl) rfl rfl rfl rfl ?_
   refine S_n (Ent.re [1,2] rfl) rfl rfl rfl rfl ?_
   refine S_n (Ent.re [1,2] rfl) rfl rfl rfl rfl ?_
   refine Sq (Ent.re [1,2] rfl) rfl (Q_pickF rfl rfl) ?_
   refine S_nil ?_
   refine seqQ_normal ?_
   refine J_condF rfl ?_
   refine J_skip ?_
   refine blockQ_normal ?_
   refine seqQ_normal ?_
   refine J_region ?_
   refine Lq (Q_add rfl rfl (by first | exact IntWalk.i64_in _ (by omega) | exact IntWalk.u8_in _ (by omega) | exact IntWalk.u32_in _ (by omega) | exact IntWalk.u64_in _ (by omega) | rfl)) ?_
   refine Lq (Q_move rfl) ?_
   refine JL_nil ?_
   exact loopQ_normal 1 (by omega) (by omega) ⟨rfl, by rfl, rfl, rfl, trivial⟩ (Ent.re [2,0,3,4] rfl)
  | true =>
   rw [ea] at hra
   refine Sr ?_
   refine Lq (Q_lss rfl rfl) ?_
   refine Ln ?_
   refine J_seq ?_
   refine J_condT rfl ?_
   refine J_skip ?_
   refine seqQ_normal ?_
   refine J_seq ?_
   refine J_block ?_
   refine Sr ?_
   refine Lq (Q_move rfl) ?_
   refine Lq (Q_aiA 0 (vs := #[S.v]) rfl rfl rfl (by decide) rfl rfl) ?_
   refine L_o rfl rfl rfl (O_alloc fun b5 => ?_)
   refine Lq (Q_assign rfl) ?_
   refine L_s rfl rfl (O_stW 0 rfl rfl rfl rfl ?_)
   refine JL.norm ?_
   refine Ln ?_
   refine J_seq ?_
   refine DH [0,1] [0,2,3,4,5,6,8,9,10,11,12,13,14,16,17,18,19] (.quiet 0 (.loud 1 (.quiet 2 (.quiet 3 (.quiet 4 (.quiet 5 (.quiet 6 (.quiet 9 (.quiet 10 (.quiet 11 (.quiet 12 (.quiet 13 (.quiet 14 (.loud 7 (.quiet 8 (.loud 15 (.quiet 16 (.quiet 17 (.quiet 18 (.quiet 19 .done)))))))))))))))))))) Tryz.mixed ?_
   refine Sq (Ent.re [0,1] rfl) rfl (Q_ldA 0 rfl rfl rfl) ?_
   refine S_o rfl rfl rfl rfl (O_call [2] [0,1,3,4] hra rfl rfl ?_)
   (rintro _ _ ⟨rfl, rfl⟩; refine ⟨_, fun _ => ⟨Ent.reN [1,2] rfl, Ent.refl _⟩, ?_⟩)
   refine JS.norm ?_
   refine Sq (Ent.re [1,2] rfl) rfl (Q_move rfl) ?_
   refine Sq (Ent.re [1,2] rfl) rfl (Q_move rfl) ?_
   refine Sq (Ent.re [1,2] rfl) rfl ((Q_lss rfl rfl).as (v' := .bool true) (congrArg Value.bool (decide_eq_true (by simp)))) ?_
   refine Sq (Ent.re [1,2] rfl) rfl (Q_move rfl) ?_
   refine S_n (Ent.re [1,2] rfl) rfl rfl rfl rfl ?_
   refine S_n (Ent.re [1,2] rfl) rfl rfl rfl rfl ?_
   refine S_n (Ent.re [1,2] rfl) rfl rfl rfl rfl ?_
   refine S_n (Ent.re [1,2] rfl) rfl rfl rfl rfl ?_
   refine S_n (Ent.re [1,2] rfl) rfl rfl rfl rfl ?_
   refine S_n (Ent.re [1,2] rfl) rfl rfl rfl rfl ?_
   refine S_n (Ent.re [1,2] rfl) rfl rfl rfl rfl ?_
   refine S_no rfl rfl rfl rfl (fun _ => (Ent.re [1,2] rfl)) ?_
   refine S_n (Ent.re [1,2] rfl) rfl rfl rfl rfl ?_
   refine S_no rfl rfl rfl rfl (fun _ => (Ent.re [1,2] rfl)) ?_
   refine S_n (Ent.re [1,2] rfl) rfl rfl rfl rfl ?_
   refine S_n (Ent.re [1,2] rfl) rfl rfl rfl rfl ?_
   refine Sq (Ent.re [1,2] rfl) rfl (Q_pickT rfl rfl) ?_
   refine Sq (Ent.re [1,2] rfl) rfl (Q_pickT rfl rfl) ?_
   refine S_nil ?_
   refine seqQ_normal ?_
   refine J_condT rfl ?_
   refine J_region ?_
   refine Lq (Q_move rfl) ?_
   refine Lq (Q_assign rfl) ?_
   refine JL_nil ?_
   refine blockQ_normal ?_
   refine seqQ_normal ?_
   refine J_region ?_
   refine Lq (Q_add rfl rfl (by first | exact IntWalk.i64_in _ (by omega) | exact IntWalk.u8_in _ (by omega) | exact IntWalk.u32_in _ (by omega) | exact IntWalk.u64_in _ (by omega) | rfl)) ?_
   refine Lq (Q_move rfl) ?_
   refine JL_nil ?_
   exact loopQ_normal 1 (by omega) (by omega) ⟨rfl, by rfl, rfl, rfl, trivial⟩ (Ent.re [2,0,3,4] rfl)
end Go.Proofs
/- What is written into slots, and told of them. -/
set_option autoImplicit false
namespace Go.Proofs
open Go.SL
attribute [local irreducible] J JL QOp JOp seqQ blockQ loopQ retQ slc cel hex star pur stars Does RV Ent pAt
theorem snew_ok (E : World) : Does Tryz.prog E 38 [] [] fun v L => ∃ p, v = .pointer (some ⟨p, 0, none⟩) ∧ L = [cel p [SV.nil.v, SV.nil.v] 143, slc tB true SV.nil [], slc tB true SV.nil []] := by
 refine Does.of Tryz.func38 rfl Tryz.ntmps38 rfl rfl fun F => ?_
 refine J.norm ?_
 refine Sr ?_
 refine Lq (Q_assign rfl) ?_
 refine Ln ?_
 refine Sr ?_
 refine Lq (Q_build rfl) ?_
 refine L_o rfl rfl rfl (O_box rfl fun b2 => ?_)
 refine Lq (Q_assign rfl) ?_
 refine Ln ?_
 refine J_ret ?_
 refine retQ_ret _ [cel b2 [SV.nil.v, SV.nil.v] 143, slc tB true SV.nil [], slc tB true SV.nil []] (.cons (RV_tmp rfl) .nil) ⟨b2, rfl, rfl⟩ ?_
 exact (Ent.mk fun _ _ h => ((h.lay_nil tB true).lay_nil tB true : Sat _ _ (slc tB true SV.nil [] :: slc tB true SV.nil [] :: _))).trans (Ent.re [2,0,1,3] rfl)
theorem told_cases (a b : List UInt8) : (told a b = 1 ∧ rightB b = true) ∨ (told a b = 0 ∧ rightB a = true) ∨ told a b = -1 := by
 unfold told
 split
 ·rename_i h; exact .inl ⟨rfl, h.1⟩
 ·split
  ·rename_i h; exact .inr (.inl ⟨rfl, h⟩)
  ·exact .inr (.inr rfl)
theorem right_long {l : List UInt8} (h : rightB l = true) : 12 ≤ l.length := by
 simp only [rightB, Bool.and_eq_true, decide_eq_true_eq] at h; exact h.1
end Go.Proofs
/- A write into the slots. -/
set_option autoImplicit false
namespace Go.Proofs
open Go.SL
attribute [local irreducible] J JL QOp JOp seqQ blockQ loopQ retQ slc cel hex star pur stars Does RV Ent pAt
end Go.Proofs
/- What is told of the slots, and a byte spoilt. -/
set_option autoImplicit false
namespace Go.Proofs
open Go.SL
attribute [local irreducible] J JL QOp JOp seqQ blockQ loopQ retQ slc cel hex star pur stars Does RV Ent pAt
/-- What a load tells. -/
def loadT (a b : List UInt8) : List UInt8 := if told a b = 1 then b.drop 12 else if told a b = 0 then a.drop 12 else []
def loadN (a b : List UInt8) : Nat := if told a b = 1 then nw b 1 else if told a b = 0 then nw a 1 else 0
theorem load_ok (E : World) (p : Nat) (S T : SV) (a b : List UInt8) (ha : a.length ≤ 100000) (hb : b.length ≤ 100000) :
 Does Tryz.prog E 44 [.pointer (some ⟨p, 0, none⟩)] [cel p [S.v, T.v] 143, slc tB true S a, slc tB true T b] fun v L => v = .tuple #[str (loadT a b), .int .i64 (loadN a b : Int)] ∧ L = [cel p [S.v, T.v] 143, slc tB true S a, slc tB true T b] := by
 have ht := told_ok E p S T a b ha hb
 refine Does.of Tryz.func44 rfl Tryz.ntmps44 rfl rfl fun F => ?_
 refine J.norm ?_
 refine Sr ?_
 refine Lq (Q_assign rfl) ?_
 refine Lq (Q_assign rfl) ?_
 refine Ln ?_
 refine J_seq ?_
 refine Sr ?_
 refine Lq (Q_move rfl) ?_
 refine Lq (Q_peql rfl rfl) ?_
 refine Ln ?_
 refine J_condF rfl ?_
 refine J_skip ?_
 refine seqQ_normal ?_
 refine J_seq ?_
 rcases told_cases a b with ⟨e, hr⟩ | ⟨e, hr⟩ | e
 ·rw [e] at ht
  have hl := right_long hr
  have h1 : loadT a b = b.drop 12 := by simp only [loadT, if_pos e]
  have h2 : loadN a b = nw b 1 := by simp only [loadN, if_pos e]
  have hn := nw_lt b 1
  refine J_region ?_
  refine Lq (Q_move rfl) ?_
  refine L_o rfl rfl rfl (O_call [0,1,2] [3] ht rfl rfl ?_)
  rintro _ _ ⟨rfl, rfl⟩
  refine JL.norm ?_
  refine Lq (Q_assign rfl) ?_
  refine Ln ?_
  refine J_seq ?_
  refine Sr ?_
  refine Lq (Q_move rfl) ?_
  refine Lq (Q_lss rfl rfl) ?_
  refine Ln ?_
  refine J_condF rfl ?_
  refine J_skip ?_
  refine seqQ_normal ?_
  refine Sr ?_
  refine Lq (Q_move rfl) ?_
  refine Lq (Q_move rfl) ?_
  refine Lq (Q_nilCheck rfl) ?_
  refine Lq (Q_fa0 rfl) ?_
  refine Lq (Q_ia (o' := 1) 1 rfl rfl rfl (by decide) (by decide)) ?_
  refine Lq (Q_ldA 0 rfl rfl rfl) ?_
  refine L_o rfl rfl rfl (O_alloc fun b5 => ?_)
  refine L_s rfl rfl (O_stW 0 rfl rfl rfl rfl ?_)
  refine JL.norm ?_
  refine Ln ?_
  refine J_seq ?_
  refine DH [0,3] [0,1,2,3,4,6,7,8,9] (.quiet 0 (.quiet 1 (.quiet 2 (.quiet 3 (.quiet 4 (.loud 5 (.quiet 6 (.quiet 7 (.quiet 8 (.quiet 9 .done)))))))))) Tryz.mixed ?_
  refine Sq (Ent.re [0,3] rfl) rfl (Q_fa0 rfl) ?_
  refine Sq (Ent.re [0,3] rfl) rfl (Q_ld 0 rfl rfl rfl rfl) ?_
  refine Sq (Ent.re [0,3] rfl) rfl (Q_slL 12 (fun w h => h.rd 1 rfl) rfl rfl rfl hl rfl) ?_
  refine Sq (Ent.re [0,3] rfl) rfl (Q_b2s tB_enc (fun w h => (h.rd 1 rfl).sub 12 b.length hl (Nat.le_refl _)) rfl) ?_
  refine Sq (Ent.re [0,3] rfl) rfl (Q_ldA 0 rfl rfl rfl) ?_
  refine S_o rfl rfl rfl rfl (O_call [3] [0,1,2,4] (words_ok E T b hl) rfl rfl ?_)
  (rintro _ _ ⟨rfl, rfl⟩; refine ⟨_, fun _ => ⟨Ent.reN [1,0] rfl, Ent.refl _⟩, ?_⟩)
  refine JS.norm ?_
  refine Sq (Ent.re [1,0] rfl) rfl (Q_aiS (v' := .int .u32 (nw b 1 : Int)) 1 rfl rfl rfl (by decide) rfl rfl) ?_
  refine Sq (Ent.re [1,0] rfl) rfl (Q_cvt rfl (IntWalk.i64_in _ (by omega))) ?_
  refine Sq (Ent.re [1,0] rfl) rfl (Q_assign rfl) ?_
  refine Sq (Ent.re [1,0] rfl) rfl (Q_assign rfl) ?_
  refine S_nil ?_
  refine seqQ_normal ?_
  refine J_ret ?_
  rw [List.take_length]
  exact retQ_ret _ [cel p [S.v, T.v] 143, slc tB true S a, slc tB true T b] (.cons (RV_tmp rfl) (.cons (RV_tmp rfl) .nil)) ⟨by rw [h1, h2]; rfl, rfl⟩ (Ent.re [2,3,0,4] rfl)
 ·rw [e] at ht
  have hl := right_long hr
  have h1 : loadT a b = a.drop 12 := by simp only [loadT, e]; rfl
  have h2 : loadN a b = nw a 1 := by simp only [loadN, e]; rfl
  have hn := nw_lt a 1
  refine J_region ?_
  refine Lq (Q_move rfl) ?_
  refine L_o rfl rfl rfl (O_call [0,1,2] [3] ht rfl rfl ?_)
  rintro _ _ ⟨rfl, rfl⟩
  refine JL.norm ?_
  refine Lq (Q_assign rfl) ?_
  refine Ln ?_
  refine J_seq ?_
  refine Sr ?_
  refine Lq (Q_move rfl) ?_
  refine Lq (Q_lss rfl rfl) ?_
  refine Ln ?_
  refine J_condF rfl ?_
  refine J_skip ?_
  refine seqQ_normal ?_
  refine Sr ?_
  refine Lq (Q_move rfl) ?_
  refine Lq (Q_move rfl) ?_
  refine Lq (Q_nilCheck rfl) ?_
  refine Lq (Q_fa0 rfl) ?_
  refine Lq (Q_ia (o' := 0) 0 rfl rfl rfl (by decide) (by decide)) ?_
  refine Lq (Q_ldA 0 rfl rfl rfl) ?_
  refine L_o rfl rfl rfl (O_alloc fun b5 => ?_)
  refine L_s rfl rfl (O_stW 0 rfl rfl rfl rfl ?_)
  refine JL.norm ?_
  refine Ln ?_
  refine J_seq ?_
  refine DH [0,2] [0,1,2,3,4,6,7,8,9] (.quiet 0 (.quiet 1 (.quiet 2 (.quiet 3 (.quiet 4 (.loud 5 (.quiet 6 (.quiet 7 (.quiet 8 (.quiet 9 .done)))))))))) Tryz.mixed ?_
  refine Sq (Ent.re [0,2] rfl) rfl (Q_fa0 rfl) ?_
  refine Sq (Ent.re [0,2] rfl) rfl (Q_ld 0 rfl rfl rfl rfl) ?_
  refine Sq (Ent.re [0,2] rfl) rfl (Q_slL 12 (fun w h => h.rd 1 rfl) rfl rfl rfl hl rfl) ?_
  refine Sq (Ent.re [0,2] rfl) rfl (Q_b2s tB_enc (fun w h => (h.rd 1 rfl).sub 12 a.length hl (Nat.le_refl _)) rfl) ?_
  refine Sq (Ent.re [0,2] rfl) rfl (Q_ldA 0 rfl rfl rfl) ?_
  refine S_o rfl rfl rfl rfl (O_call [2] [0,1,3,4] (words_ok E S a hl) rfl rfl ?_)
  (rintro _ _ ⟨rfl, rfl⟩; refine ⟨_, fun _ => ⟨Ent.reN [1,0] rfl, Ent.refl _⟩, ?_⟩)
  refine JS.norm ?_
  refine Sq (Ent.re [1,0] rfl) rfl (Q_aiS (v' := .int .u32 (nw a 1 : Int)) 1 rfl rfl rfl (by decide) rfl rfl) ?_
  refine Sq (Ent.re [1,0] rfl) rfl (Q_cvt rfl (IntWalk.i64_in _ (by omega))) ?_
  refine Sq (Ent.re [1,0] rfl) rfl (Q_assign rfl) ?_
  refine Sq (Ent.re [1,0] rfl) rfl (Q_assign rfl) ?_
  refine S_nil ?_
  refine seqQ_normal ?_
  refine J_ret ?_
  rw [List.take_length]
  exact retQ_ret _ [cel p [S.v, T.v] 143, slc tB true S a, slc tB true T b] (.cons (RV_tmp rfl) (.cons (RV_tmp rfl) .nil)) ⟨by rw [h1, h2]; rfl, rfl⟩ (Ent.re [2,0,3,4] rfl)
 ·rw [e] at ht
  have h1 : loadT a b = [] := by simp only [loadT, e]; rfl
  have h2 : loadN a b = 0 := by simp only [loadN, e]; rfl
  refine J_region ?_
  refine Lq (Q_move rfl) ?_
  refine L_o rfl rfl rfl (O_call [0,1,2] [3] ht rfl rfl ?_)
  rintro _ _ ⟨rfl, rfl⟩
  refine JL.norm ?_
  refine Lq (Q_assign rfl) ?_
  refine Ln ?_
  refine J_seq ?_
  refine Sr ?_
  refine Lq (Q_move rfl) ?_
  refine Lq (Q_lss rfl rfl) ?_
  refine Ln ?_
  refine J_condT rfl ?_
  refine Sr ?_
  refine Lq (Q_assign rfl) ?_
  refine Lq (Q_assign rfl) ?_
  refine Ln ?_
  refine J_ret ?_
  refine seqQ_ret ?_
  exact retQ_ret _ [cel p [S.v, T.v] 143, slc tB true S a, slc tB true T b] (.cons (RV_tmp rfl) (.cons (RV_tmp rfl) .nil)) ⟨by rw [h1, h2]; rfl, rfl⟩ (Ent.refl _)
end Go.Proofs
/- A log and two slots, each as one chunk. -/
set_option autoImplicit false
namespace Go.Proofs
open Go.SL Go.Proofs.Bt
/-- A log. -/
def segA (p : Nat) (g : Lg) : HProp := hex fun q : SV × List Fp => star (pur (q.2.map (·.1) = g.fs)) (stars [segC p g.size g.sure q.1, slc tPf true q.1 q.2, fsC q.2])
theorem Ent.seg {p size sure : Nat} {S : SV} {ps : List Fp} {g : Lg} {L : List HProp} (h1 : size = g.size) (h2 : sure = g.sure) (h3 : ps.map (·.1) = g.fs) : Ent (segC p size sure S :: slc tPf true S ps :: fsC ps :: L) (segA p g :: L) := fun E w h => by
 subst h1 h2
 have h1 := Sat.rot (A := [segC p g.size g.sure S, slc tPf true S ps, fsC ps]) (B := L) h
 have h4 : Sat E w (stars [segC p g.size g.sure S, slc tPf true S ps, fsC ps] :: L) := Sat.rot (A := L) h1.fold
 have h5 : Sat E w (pur (ps.map (·.1) = g.fs) :: stars [segC p g.size g.sure S, slc tPf true S ps, fsC ps] :: L) := h4.lay fun _ => h3
 exact (h5.mkstar).mkex (f := fun q : SV × List Fp => star (pur (q.2.map (·.1) = g.fs)) (stars [segC p g.size g.sure q.1, slc tPf true q.1 q.2, fsC q.2])) (S, ps)
theorem Does.seg {P : Program} {E : World} {f : Nat} {args : List Value} {p : Nat} {g : Lg} {L : List HProp} {K : Value → List HProp → Prop} (h : ∀ (S : SV) (ps : List Fp), ps.map (·.1) = g.fs → Does P E f args (segC p g.size g.sure S :: slc tPf true S ps :: fsC ps :: L) K) : Does P E f args (segA p g :: L) K := fun F w hs => by
 obtain ⟨q, hq⟩ := Sat.ex (f := fun q : SV × List Fp => star (pur (q.2.map (·.1) = g.fs)) (stars [segC p g.size g.sure q.1, slc tPf true q.1 q.2, fsC q.2])) (R := L ++ [F]) hs
 obtain ⟨hm, h2⟩ := hq.star.fact
 exact h q.1 q.2 hm F w (Sat.rot (A := L ++ [F]) (h2.rot (A := [_]) (B := L ++ [F])).unfold)
/-- Two slots. -/
def snapA (p : Nat) (a b : List UInt8) : HProp := hex fun q : SV × SV => stars [cel p [q.1.v, q.2.v] 143, slc tB true q.1 a, slc tB true q.2 b]
theorem Ent.snap {p : Nat} {S T : SV} {a b : List UInt8} {L : List HProp} : Ent (cel p [S.v, T.v] 143 :: slc tB true S a :: slc tB true T b :: L) (snapA p a b :: L) := fun E w h => by
 have h1 := Sat.rot (A := [cel p [S.v, T.v] 143, slc tB true S a, slc tB true T b]) (B := L) h
 have h4 : Sat E w (stars [cel p [S.v, T.v] 143, slc tB true S a, slc tB true T b] :: L) := Sat.rot (A := L) h1.fold
 exact h4.mkex (f := fun q : SV × SV => stars [cel p [q.1.v, q.2.v] 143, slc tB true q.1 a, slc tB true q.2 b]) (S, T)
theorem Does.snap {P : Program} {E : World} {f : Nat} {args : List Value} {p : Nat} {a b : List UInt8} {L : List HProp} {K : Value → List HProp → Prop} (h : ∀ S T : SV, Does P E f args (cel p [S.v, T.v] 143 :: slc tB true S a :: slc tB true T b :: L) K) : Does P E f args (snapA p a b :: L) K := fun F w hs => by
 obtain ⟨q, hq⟩ := Sat.ex (f := fun q : SV × SV => stars [cel p [q.1.v, q.2.v] 143, slc tB true q.1 a, slc tB true q.2 b]) (R := L ++ [F]) hs
 exact h q.1 q.2 F w (Sat.rot (A := L ++ [F]) (hq.rot (A := [_]) (B := L ++ [F])).unfold)
end Go.Proofs
/- What is done to a log, as one chunk. -/
set_option autoImplicit false
namespace Go.Proofs
open Go.SL Go.Proofs.Bt
attribute [local irreducible] J JL QOp JOp seqQ blockQ loopQ retQ slc cel hex star pur stars Does RV Ent pAt scopeQ
attribute [local irreducible] nodeA nodeX treeA segA snapA
section
variable (E : World) (p c : Nat) (g : Lg)
theorem gsync_ok (hg : Good g c) (hc : c ≤ 1000000) : Does Tryz.prog E 42 [.pointer (some ⟨p, 0, none⟩)] [segA p g] fun v L => v = .tuple #[] ∧ L = [segA p (syncL g)] := by
 refine Does.seg fun S ps hps => ?_
 have hl : ps.length ≤ 16 := by have := congrArg List.length hps; rw [List.length_map] at this; rw [this]; exact hg.few
 have hm : ∀ r ∈ ps, r.1 ∈ g.fs := fun r hr => by rw [← hps]; exact List.mem_map_of_mem hr
 refine Does.post (sync_ok E p g.size g.sure S ps hl (by rw [hps]; exact Nat.le_trans hg.next (by omega)) (fun r hr => ⟨(hg.file _ (hm r hr)).1, (hg.file _ (hm r hr)).2.1⟩)) (fun F => Ent.refl _) ?_
 rintro v L ⟨hv, rfl⟩
 refine ⟨_, ⟨hv, rfl⟩, fun F => Ent.seg (g := syncL g) rfl ?_ ?_⟩
 ·show _ = (if g.fs = [] then g.sure else nextOf g.fs)
  rw [hps]
  by_cases h0 : ps = []
  ·rw [if_pos h0, if_pos (by rw [← hps, h0]; rfl)]
  ·rw [if_neg h0, if_neg (by rw [← hps]; simpa using h0)]
 ·rw [onP_fst, hps]; rfl
theorem gnext_ok (hg : Good g c) (hc : c ≤ 1000000) : Does Tryz.prog E 43 [.pointer (some ⟨p, 0, none⟩)] [segA p g] fun v L => v = .int .i64 (nextOf g.fs : Int) ∧ L = [segA p g] := by
 refine Does.seg fun S ps hps => ?_
 have hl : ps.length ≤ 16 := by have := congrArg List.length hps; rw [List.length_map] at this; rw [this]; exact hg.few
 refine Does.post (snext_ok E p g.size g.sure S ps hl (by rw [hps]; exact Nat.le_trans hg.next (by omega))) (fun F => Ent.refl _) ?_
 rintro v L ⟨hv, rfl⟩
 exact ⟨_, ⟨by rw [hv, hps], rfl⟩, fun F => Ent.seg rfl rfl hps⟩
theorem gfirst_ok (hg : Good g c) : Does Tryz.prog E 53 [.pointer (some ⟨p, 0, none⟩)] [segA p g] fun v L => v = .int .i64 (firstOf g.fs : Int) ∧ L = [segA p g] := by
 refine Does.seg fun S ps hps => ?_
 have hl : ps.length ≤ 16 := by have := congrArg List.length hps; rw [List.length_map] at this; rw [this]; exact hg.few
 refine Does.post (sfirst_ok E p g.size g.sure S ps hl) (fun F => Ent.refl _) ?_
 rintro v L ⟨hv, rfl⟩
 exact ⟨_, ⟨by rw [hv, hps], rfl⟩, fun F => Ent.seg rfl rfl hps⟩
end
end Go.Proofs
/- What is done to a log, as one chunk: the rest. -/
set_option autoImplicit false
namespace Go.Proofs
open Go.SL Go.Proofs.Bt
theorem Does.frame {P : Program} {E : World} {f : Nat} {args : List Value} {pre R : List HProp} {K : Value → List HProp → Prop} (h : Does P E f args pre K) : Does P E f args (pre ++ R) (fun v L => ∃ L', K v L' ∧ L = L' ++ R) := fun F w hs => by
 rw [List.append_assoc] at hs
 refine (h (stars (R ++ [F])) w hs.fold).mono ?_
 rintro e w' ⟨v, L', he, hk, hs'⟩
 refine ⟨v, L' ++ R, he, ⟨L', hk, rfl⟩, ?_⟩
 rw [List.append_assoc]
 exact hs'.unfold
attribute [local irreducible] J JL QOp JOp seqQ blockQ loopQ retQ slc cel hex star pur stars Does RV Ent pAt scopeQ
attribute [local irreducible] nodeA nodeX treeA segA snapA
section
variable (E : World) (p c : Nat) (g : Lg)
theorem gcrash_ok (hg : Good g c) (hc : c ≤ 1000000) (keep : Nat) (hk : keep < 2 ^ 64) : Does Tryz.prog E 51 [.pointer (some ⟨p, 0, none⟩), .int .u64 (keep : Int)] [segA p g] fun v L => v = .tuple #[] ∧ L = [segA p (crashL g keep)] := by
 refine Does.seg fun S ps hps => ?_
 have hl : ps.length ≤ 16 := by have := congrArg List.length hps; rw [List.length_map] at this; rw [this]; exact hg.few
 have hm : ∀ r ∈ ps, r.1 ∈ g.fs := fun r hr => by rw [← hps]; exact List.mem_map_of_mem hr
 have hn := (hg.crash (keep := keep)).next
 refine Does.post (crash_ok E p g.size g.sure keep S ps hk hl (by rw [hps]; exact Nat.le_trans hn (by omega)) (fun r hr => ⟨(hg.file _ (hm r hr)).1, (hg.file _ (hm r hr)).2.1⟩)) (fun F => Ent.refl _) ?_
 rintro v L ⟨hv, rfl⟩
 refine ⟨_, ⟨hv, rfl⟩, fun F => Ent.seg (g := crashL g keep) rfl ?_ ?_⟩
 ·show _ = (if g.fs = [] then g.sure else nextOf (onLast g.fs fun f => crashF f keep))
  rw [hps]
  by_cases h0 : ps = []
  ·rw [if_pos h0, if_pos (by rw [← hps, h0]; rfl)]
  ·rw [if_neg h0, if_neg (by rw [← hps]; simpa using h0)]
 ·rw [onP_fst, hps]; rfl
theorem gget_ok (hg : Good g c) (hc : c ≤ 1000000) (i : Int) : Does Tryz.prog E 54 [.pointer (some ⟨p, 0, none⟩), .int .i64 i] [segA p g] fun v L => v = getV g.fs i ∧ L = [segA p g] := by
 refine Does.seg fun S ps hps => ?_
 have hl : ps.length ≤ 16 := by have := congrArg List.length hps; rw [List.length_map] at this; rw [this]; exact hg.few
 have hm : ∀ r ∈ ps, r.1 ∈ g.fs := fun r hr => by rw [← hps]; exact List.mem_map_of_mem hr
 refine Does.post (sget_ok E p g.size g.sure S ps i hl (fun r hr => ⟨(hg.file _ (hm r hr)).1, (hg.file _ (hm r hr)).2.2.1, Nat.le_trans (hg.file _ (hm r hr)).2.2.2 (by omega)⟩)) (fun F => Ent.refl _) ?_
 rintro v L ⟨hv, rfl⟩
 exact ⟨_, ⟨by rw [hv, hps], rfl⟩, fun F => Ent.seg rfl rfl hps⟩
theorem gappend_ok (hg : Good g c) (hc : c ≤ 1000000) (t : List UInt8) : Does Tryz.prog E 62 [.pointer (some ⟨p, 0, none⟩), str t] [segA p g] fun v L => v = .tuple #[.int .i64 ((appL g t).2.1 : Int), .int .i64 (appL g t).2.2] ∧ L = [segA p (appL g t).1] := by
 refine Does.seg fun S ps hps => ?_
 have hl : ps.length ≤ 16 := by have := congrArg List.length hps; rw [List.length_map] at this; rw [this]; exact hg.few
 have hm : ∀ r ∈ ps, r.1 ∈ g.fs := fun r hr => by rw [← hps]; exact List.mem_map_of_mem hr
 have hga : (⟨g.size, g.sure, ps.map (·.1)⟩ : Lg) = g := by rw [hps]
 have h := sappend_ok E p g.size g.sure S ps t hg.size.1 hg.size.2 hl (by rw [hps]; exact Nat.le_trans hg.next (by omega)) (fun r hr => ⟨(hg.file _ (hm r hr)).1, (hg.file _ (hm r hr)).2.1⟩)
 rw [hga] at h
 refine Does.post h (fun F => Ent.refl _) ?_
 rintro v L ⟨S', ps', hv, hfs, rfl⟩
 exact ⟨_, ⟨hv, rfl⟩, fun F => Ent.seg (g := (appL g t).1) (appL_size g t).symm rfl hfs⟩
end
end Go.Proofs
/- A chain of one node: words taken, up to a decision. -/
set_option autoImplicit false
namespace Go.Proofs
open Go.SL Go.Proofs.Bt
def agA (h : Nat) (v : Ky) : Ag := ((ag1 h v).sW0 (prop0 v)).sStep 2
def agB (h : Nat) (v : Ky) : Ag := (((((agA h v).sSeen true).sValid v 0).sLock v 0).sStep 3)
def agD (h : Nat) (v : Ky) : Ag := ((agB h v).sDone true).sDec v
theorem vots0 (v : Ky) : Vots [] v := ⟨by simp, by simp⟩
theorem vots1 (v : Ky) : Vots [vote0 2 v] v := ⟨by simp, by simp⟩
theorem vots2 (v : Ky) : Vots [vote0 2 v, vote0 3 v] v := ⟨by simp, by simp⟩
attribute [local irreducible] J JL QOp JOp seqQ blockQ loopQ retQ slc cel hex star pur stars Does RV Ent pAt scopeQ
attribute [local irreducible] votA agL zer63 bz122
section
variable (E : World) (p pa pv : Nat) (h : Nat) (v : Ky) (hv : mayV v = true)
include hv
theorem tk1_ok (hh : h ≤ 64) : Does Tryz.prog E 83 [.pointer (some ⟨pa, 0, none⟩), .agg (wdV (prop0 v)).toArray] [agC pa (ag1 h v) pv .nilFunc, votA pv []] fun r L => ∃ S : SV, r = S.v ∧ L = [agC pa (agA h v) pv .nilFunc, slc tWd true S [vote0 2 v], votA pv []] := by
 obtain ⟨h1, h2⟩ := mayV_t hv
 refine atake_ok E pa pv (prop0 v) (ag1 h v) ((ag1 h v).sW0 (prop0 v)) (agA h v) [] [] [vote0 2 v] rfl rfl (fun b => ?_) (fun b => ?_) rfl (fun b => .inr ⟨rfl, ?_⟩)
 ·refine (Does.frame (R := [votA pv []]) (countP_ok E pa pv (ag1 h v) (sayV b) v hh h1 h2 rfl)).mono ?_
  rintro r L ⟨L', ⟨hr, rfl⟩, rfl⟩
  exact ⟨hr, rfl⟩
 ·exact arule1_ok E pa pv b ((ag1 h v).sW0 (prop0 v)) [] v SV.nil [] rfl rfl h1 rfl rfl (vots0 v) rfl (by decide)
 ·exact arule2_ok E pa pv (agA h v) [] v (sayV b) rfl rfl h1 rfl rfl (vots0 v) rfl rfl
theorem tk2_ok : Does Tryz.prog E 83 [.pointer (some ⟨pa, 0, none⟩), .agg (wdV (vote0 2 v)).toArray] [agC pa (agA h v) pv .nilFunc, votA pv []] fun r L => ∃ S : SV, r = S.v ∧ L = [agC pa (agB h v) pv .nilFunc, slc tWd true S [vote0 3 v], votA pv [vote0 2 v]] := by
 obtain ⟨h1, h2⟩ := mayV_t hv
 refine atake_ok E pa pv (vote0 2 v) (agA h v) (agA h v) (agB h v) [] [vote0 2 v] [vote0 3 v] rfl rfl (fun b => ?_) (fun b => ?_) rfl (fun b => .inr ⟨rfl, ?_⟩)
 ·exact countV_ok E pa pv (agA h v) (sayV b) [] 2 v (.inl rfl) h2 (by simp) (by simp)
 ·exact arule3_ok E pa pv b (agA h v) [vote0 2 v] v SV.nil [] rfl rfl h1 rfl rfl (vots1 v) rfl rfl (by decide)
 ·exact arule4_ok E pa pv (agB h v) [vote0 2 v] v (sayV b) rfl rfl h1 rfl rfl (vots1 v) rfl
theorem tk3_ok : Does Tryz.prog E 83 [.pointer (some ⟨pa, 0, none⟩), .agg (wdV (vote0 3 v)).toArray] [agC pa (agB h v) pv .nilFunc, votA pv [vote0 2 v]] fun r L => ∃ S : SV, r = S.v ∧ L = [agC pa (agD h v) pv .nilFunc, slc tWd true S [], votA pv [vote0 2 v, vote0 3 v]] := by
 obtain ⟨h1, h2⟩ := mayV_t hv
 refine atake_ok E pa pv (vote0 3 v) (agB h v) (agB h v) (agD h v) [vote0 2 v] [vote0 2 v, vote0 3 v] [] rfl rfl (fun b => ?_) (fun b => ?_) rfl (fun b => .inl rfl)
 ·exact countV_ok E pa pv (agB h v) (sayV b) [vote0 2 v] 3 v (.inr rfl) h2 (by simp) (by simp)
 ·refine Does.post (Does.frame (R := [cel b [SV.nil.v] 124, slc tWd true SV.nil []]) (arule5_ok E pa pv (agB h v) [vote0 2 v, vote0 3 v] v (sayV b) rfl h1 (vots2 v) rfl)) (fun F => Ent.refl _) ?_
  rintro r _ ⟨_, ⟨hr, rfl⟩, rfl⟩
  exact ⟨_, ⟨SV.nil, hr, rfl⟩, fun F => Ent.refl _⟩
end
section
variable (E : World) (p pa pv : Nat) (Sl Sw : SV) (log wants : List Ky) (w : Wd) (A A2 : Ag) (l l1 : List Wd) (o : List Wd)
theorem ctakeF_ok (hk : w.kind ≠ 4) (hl : log.length < 64) (hol : o.length ≤ 1000) (htake : Does Tryz.prog E 83 [.pointer (some ⟨pa, 0, none⟩), .agg (wdV w).toArray] [agC pa A pv .nilFunc, votA pv l] fun r L => ∃ S : SV, r = S.v ∧ L = [agC pa A2 pv .nilFunc, slc tWd true S o, votA pv l1]) (hd : A2.done = false) :
 Does Tryz.prog E 25 [.pointer (some ⟨p, 0, none⟩), .agg (tlV (log.length, w)).toArray] [chC p true (.pointer (some ⟨pa, 0, none⟩)) Sl.v Sw.v, slc tS true Sl log, agC pa A pv .nilFunc, votA pv l] fun r L => ∃ T : SV, r = T.v ∧ L = [chC p true (.pointer (some ⟨pa, 0, none⟩)) Sl.v Sw.v, slc tS true Sl log, agC pa A2 pv .nilFunc, votA pv l1, slc tTa true T (o.map fun w => (log.length, w))] := by
 have hw := cwordF_ok E p pa pv Sl Sw log w A A2 l l1 o hl hol htake hd
 refine Does.of Tryz.func25 rfl Tryz.ntmps25 rfl rfl fun F => ?_
 refine J.norm ?_
 refine Sr ?_
 refine L_o rfl rfl rfl (O_box rfl fun b3 => ?_)
 refine Lq (Q_assign rfl) ?_
 refine Ln ?_
 refine J_seq ?_
 refine J_seq ?_
 refine DL [0,1,2,3,4,5,6,7,8,9,10,11,12,13,14,15,16,17] (.quiet 0 (.quiet 1 (.quiet 2 (.quiet 3 (.quiet 4 (.quiet 5 (.quiet 6 (.quiet 7 (.quiet 8 (.quiet 9 (.quiet 10 (.quiet 11 (.quiet 12 (.quiet 13 (.quiet 14 (.quiet 15 (.quiet 16 (.quiet 17 .done)))))))))))))))))) Tryz.mixed ?_
 refine Sq (Ent.refl _) rfl (Q_move rfl) ?_
 refine Sq (Ent.refl _) rfl ((Q_peql rfl rfl).as (v' := .bool false) rfl) ?_
 refine Sq (Ent.refl _) rfl (Q_move rfl) ?_
 refine Sq (Ent.refl _) rfl (Q_fa0 rfl) ?_
 refine Sq (Ent.refl _) rfl (Q_ld 0 rfl rfl rfl rfl) ?_
 refine Sq (Ent.refl _) rfl (Q_move rfl) ?_
 refine Sq (Ent.refl _) rfl (Q_nilCheck rfl) ?_
 refine Sq (Ent.refl _) rfl (Q_fa0 rfl) ?_
 refine Sq (Ent.refl _) rfl (Q_ld 1 rfl rfl rfl rfl) ?_
 refine Sq (Ent.refl _) rfl (Q_lenAt 2 rfl rfl) ?_
 refine Sq (Ent.refl _) rfl ((Q_neq rfl rfl).as (v' := .bool false) (congrArg Value.bool (decide_eq_false (by simp)))) ?_
 refine Sq (Ent.refl _) rfl (Q_pickF rfl rfl) ?_
 refine Sq (Ent.refl _) rfl (Q_move rfl) ?_
 refine Sq (Ent.refl _) rfl (Q_fa0 rfl) ?_
 refine Sq (Ent.refl _) rfl (Q_fa rfl rfl) ?_
 refine Sq (Ent.refl _) rfl (Q_ld 0 rfl rfl rfl rfl) ?_
 refine Sq (Ent.refl _) rfl ((Q_eql rfl rfl).as (v' := .bool false) (congrArg Value.bool (decide_eq_false hk))) ?_
 refine Sq (Ent.refl _) rfl (Q_pickF rfl rfl) ?_
 refine S_nil ?_
 refine seqQ_normal ?_
 refine J_condF rfl ?_
 refine J_skip ?_
 refine seqQ_normal ?_
 refine Sr ?_
 refine Lq (Q_move rfl) ?_
 refine Lq (Q_fa0 rfl) ?_
 refine Lq (Q_ldA 0 rfl rfl rfl) ?_
 refine L_o rfl rfl rfl (O_call [1,2,3,4] [0,5] hw rfl rfl ?_)
 rintro _ _ ⟨T, rfl, rfl⟩
 refine JL.norm ?_
 refine Lq (Q_assign rfl) ?_
 refine Ln ?_
 refine J_ret ?_
 exact retQ_ret _ _ (.cons (RV_tmp rfl) .nil) ⟨T, rfl, rfl⟩ (Ent.re [0,1,2,3,4,6] rfl)
theorem ctakeT_ok (v : Ky) (hk : w.kind ≠ 4) (hl : log.length < 63) (hol : o.length ≤ 1000) (hw : ∀ v ∈ wants, mayV v = true) (hwl : wants.length ≤ 8) (htake : Does Tryz.prog E 83 [.pointer (some ⟨pa, 0, none⟩), .agg (wdV w).toArray] [agC pa A pv .nilFunc, votA pv l] fun r L => ∃ S : SV, r = S.v ∧ L = [agC pa A2 pv .nilFunc, slc tWd true S o, votA pv l1]) (hd : A2.done = true) (hv : A2.dec = v) :
 Does Tryz.prog E 25 [.pointer (some ⟨p, 0, none⟩), .agg (tlV (log.length, w)).toArray] [chC p true (.pointer (some ⟨pa, 0, none⟩)) Sl.v Sw.v, slc tS true Sl log, agC pa A pv .nilFunc, votA pv l, slc tS true Sw wants] fun r L => ∃ (pa' pv' : Nat) (Tl Tw T : SV), r = T.v ∧ L = [chC p true (.pointer (some ⟨pa', 0, none⟩)) Tl.v Tw.v, slc tS true Tl (log ++ [v]), agC pa' (ag1 (log ++ [v]).length (ownOf (delW wants v))) pv' .nilFunc, votA pv' [], slc tS true Tw (delW wants v), slc tTa true T (o.map (fun w => (log.length, w)) ++ [((log ++ [v]).length, prop0 (ownOf (delW wants v)))])] := by
 have hwo := cwordT_ok E p pa pv Sl Sw log wants w A A2 l l1 o v hl hol hw hwl htake hd hv
 refine Does.of Tryz.func25 rfl Tryz.ntmps25 rfl rfl fun F => ?_
 refine J.norm ?_
 refine Sr ?_
 refine L_o rfl rfl rfl (O_box rfl fun b3 => ?_)
 refine Lq (Q_assign rfl) ?_
 refine Ln ?_
 refine J_seq ?_
 refine J_seq ?_
 refine DL [0,1,2,3,4,5,6,7,8,9,10,11,12,13,14,15,16,17] (.quiet 0 (.quiet 1 (.quiet 2 (.quiet 3 (.quiet 4 (.quiet 5 (.quiet 6 (.quiet 7 (.quiet 8 (.quiet 9 (.quiet 10 (.quiet 11 (.quiet 12 (.quiet 13 (.quiet 14 (.quiet 15 (.quiet 16 (.quiet 17 .done)))))))))))))))))) Tryz.mixed ?_
 refine Sq (Ent.refl _) rfl (Q_move rfl) ?_
 refine Sq (Ent.refl _) rfl ((Q_peql rfl rfl).as (v' := .bool false) rfl) ?_
 refine Sq (Ent.refl _) rfl (Q_move rfl) ?_
 refine Sq (Ent.refl _) rfl (Q_fa0 rfl) ?_
 refine Sq (Ent.refl _) rfl (Q_ld 0 rfl rfl rfl rfl) ?_
 refine Sq (Ent.refl _) rfl (Q_move rfl) ?_
 refine Sq (Ent.refl _) rfl (Q_nilCheck rfl) ?_
 refine Sq (Ent.refl _) rfl (Q_fa0 rfl) ?_
 refine Sq (Ent.refl _) rfl (Q_ld 1 rfl rfl rfl rfl) ?_
 refine Sq (Ent.refl _) rfl (Q_lenAt 2 rfl rfl) ?_
 refine Sq (Ent.refl _) rfl ((Q_neq rfl rfl).as (v' := .bool false) (congrArg Value.bool (decide_eq_false (by simp)))) ?_
 refine Sq (Ent.refl _) rfl (Q_pickF rfl rfl) ?_
 refine Sq (Ent.refl _) rfl (Q_move rfl) ?_
 refine Sq (Ent.refl _) rfl (Q_fa0 rfl) ?_
 refine Sq (Ent.refl _) rfl (Q_fa rfl rfl) ?_
 refine Sq (Ent.refl _) rfl (Q_ld 0 rfl rfl rfl rfl) ?_
 refine Sq (Ent.refl _) rfl ((Q_eql rfl rfl).as (v' := .bool false) (congrArg Value.bool (decide_eq_false hk))) ?_
 refine Sq (Ent.refl _) rfl (Q_pickF rfl rfl) ?_
 refine S_nil ?_
 refine seqQ_normal ?_
 refine J_condF rfl ?_
 refine J_skip ?_
 refine seqQ_normal ?_
 refine Sr ?_
 refine Lq (Q_move rfl) ?_
 refine Lq (Q_fa0 rfl) ?_
 refine Lq (Q_ldA 0 rfl rfl rfl) ?_
 refine L_o rfl rfl rfl (O_call [1,2,3,4,5] [0,6] hwo rfl rfl ?_)
 rintro _ _ ⟨pa', pv', Tl, Tw, T, rfl, rfl⟩
 refine JL.norm ?_
 refine Lq (Q_assign rfl) ?_
 refine Ln ?_
 refine J_ret ?_
 exact retQ_ret _ _ (.cons (RV_tmp rfl) .nil) ⟨pa', pv', Tl, Tw, T, rfl, rfl⟩ (Ent.re [0,1,2,3,4,5,7] rfl)
end
end Go.Proofs
