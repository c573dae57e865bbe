/- What is there behind a drop, a crash, in plain Lean. -/
import Derived.Test.YtogjhcelmbhooaaSegP
import Derived.Test.YtogjhcelmbhooaaDiskQ
set_option autoImplicit false
namespace Go.Proofs
theorem drop_next (fs : List Fl) (seq : Int) : nextOf (fs.drop (dropN fs seq)) = nextOf fs := by
  rcases dropN_lt fs seq with rfl | h
  · simp [dropN]
  · unfold nextOf
    rw [List.getLast?_drop, if_neg (by omega)]
theorem drop_first : ∀ (fs : List Fl) (seq : Int), chain fs → firstOf fs ≤ firstOf (fs.drop (dropN fs seq)) ∧ (firstOf (fs.drop (dropN fs seq)) = firstOf fs ∨ (firstOf (fs.drop (dropN fs seq)) : Int) ≤ seq)
  | [], seq, _ => by simp [dropN]
  | [f], seq, _ => by simp [dropN]
  | f :: f2 :: r, seq, h => by
    obtain ⟨i1, i2⟩ := drop_first (f2 :: r) seq h.2
    have e : firstOf (f2 :: r) = f.next := h.1
    have e0 : firstOf (f :: f2 :: r) = f.first := rfl
    have hn : f.next = f.first + f.l.length := rfl
    simp only [dropN]
    split
    · rename_i h1
      rw [List.drop_succ_cons, e0]
      refine ⟨by omega, .inr ?_⟩
      rcases i2 with i2 | i2 <;> omega
    · exact ⟨Nat.le_refl _, .inl rfl⟩
theorem first_le_next : ∀ (fs : List Fl), chain fs → firstOf fs ≤ nextOf fs
  | [], _ => Nat.le_refl _
  | [f], _ => by simp [firstOf, nextOf, Fl.next]
  | f :: f2 :: r, h => by
    have ih := first_le_next (f2 :: r) h.2
    have e : firstOf (f2 :: r) = f.next := h.1
    have e1 : nextOf (f :: f2 :: r) = nextOf (f2 :: r) := by simp [nextOf]
    have e0 : firstOf (f :: f2 :: r) = f.first := rfl
    have hn : f.next = f.first + f.l.length := rfl
    omega
/-- What is there is told. -/
theorem getL_there : ∀ (fs : List Fl) (x : Nat), chain fs → firstOf fs ≤ x → x < nextOf fs → (getL fs (x : Int)).2 = 0
  | [], x, _, _, h => by simp [nextOf] at h
  | [f], x, _, h1, h2 => by
    have e0 : firstOf [f] = f.first := rfl
    have e1 : nextOf [f] = f.next := rfl
    simp only [getL]
    rw [if_pos (by omega)]
  | f :: f2 :: r, x, h, h1, h2 => by
    have e : firstOf (f2 :: r) = f.next := h.1
    have e1 : nextOf (f :: f2 :: r) = nextOf (f2 :: r) := by simp [nextOf]
    have e0 : firstOf (f :: f2 :: r) = f.first := rfl
    rw [getL]
    split
    · rfl
    · exact getL_there (f2 :: r) x h.2 (by omega) (by omega)
/-- Another last file, which has the same first ones. -/
theorem getL_last (f f' : Fl) (x : Nat) (h : f.first = f'.first) (j : Nat) (hx : x < f.first + j) (h1 : j ≤ f.l.length) (h2 : j ≤ f'.l.length) (h3 : f.l.take j = f'.l.take j) : ∀ a : List Fl, getL (a ++ [f]) (x : Int) = getL (a ++ [f']) (x : Int)
  | [] => by
    have hn : f.next = f.first + f.l.length := rfl
    have hn' : f'.next = f'.first + f'.l.length := rfl
    simp only [List.nil_append, getL]
    by_cases hc : (f.first : Int) ≤ x
    · rw [if_pos (by omega), if_pos (by omega)]
      have e : ((x : Int) - (f.first : Int)).toNat = x - f.first := by omega
      rw [← h, e]
      congr 1
      have e2 : x - f.first < j := by omega
      have e3 : (f.l.take j)[x - f.first]? = (f'.l.take j)[x - f.first]? := by rw [h3]
      rw [List.getElem?_take, List.getElem?_take, if_pos e2, if_pos e2] at e3
      rw [List.getD_eq_getElem?_getD, List.getD_eq_getElem?_getD, e3]
    · rw [if_neg (by omega), if_neg (by omega)]
  | b :: a => by
    simp only [List.cons_append, getL]
    rw [getL_last f f' x h j hx h1 h2 h3 a]
/-- The least that is not synced stands at a record's end. -/
def SureAt (g : Lg) : Prop := (g.fs = [] ∧ g.sure = 0) ∨ ∃ (a : List Fl) (f : Fl) (j : Nat), g.fs = a ++ [f] ∧ j ≤ f.l.length ∧ f.s = (text (f.l.take j)).length ∧ g.sure = f.first + j
theorem sureAt_new (z : Nat) : SureAt ⟨z, 0, []⟩ := .inl ⟨rfl, rfl⟩
theorem SureAt.sync {g : Lg} (_ : SureAt g) (h : SureAt g) : SureAt (syncL g) := by
  rcases last_cases g.fs with e | ⟨a, f, e⟩
  · left
    rcases h with ⟨_, h⟩ | ⟨a, f, j, h, _⟩
    · exact ⟨by simp [syncL, e, onLast], by simp [syncL, e, h]⟩
    · rw [e] at h; simp at h
  · right
    refine ⟨a, syncF f, f.l.length, ?_, Nat.le_refl _, by simp [syncF], ?_⟩
    · simp only [syncL]; rw [e, onLast_snoc]
    · simp only [syncL]; rw [if_neg (by rw [e]; simp), e, nextOf_snoc]; rfl
theorem SureAt.app {g : Lg} (t : List UInt8) (h : SureAt g) : SureAt (appL g t).1 := by
  unfold appL
  split
  · exact h
  split
  · exact h
  split
  · rename_i h3
    rcases h with ⟨e, _⟩ | ⟨a, f, j, e, h1, h2, h4⟩
    · simp [roomB, e] at h3
    · right
      refine ⟨a, putF f t, j, by simp only; rw [e, onLast_snoc], by simp [putF]; omega, ?_, h4⟩
      simp only [putF]
      rw [List.take_append_of_le_length h1]; exact h2
  · split
    · exact h
    · right
      have hs := h.sync h
      refine ⟨(syncL g).fs, ⟨nextOf g.fs, [t], 0⟩, 0, rfl, Nat.zero_le _, by simp [text], ?_⟩
      simp only [Nat.add_zero]
      rcases last_cases g.fs with e | ⟨a, f, e⟩
      · rcases h with ⟨_, h⟩ | ⟨a, f, j, h, _⟩
        · simp [syncL, e, h, nextOf]
        · rw [e] at h; simp at h
      · simp only [syncL]; rw [if_neg (by rw [e]; simp)]
theorem SureAt.drop {g : Lg} (seq : Int) (h : SureAt g) : SureAt (dropL g seq).1 := by
  rcases h with ⟨e, h⟩ | ⟨a, f, j, e, h1, h2, h3⟩
  · left; exact ⟨by simp [dropL, e], h⟩
  · right
    have hl := (dropN_lt g.fs seq).resolve_left (by rw [e]; simp)
    refine ⟨a.drop (dropN g.fs seq), f, j, ?_, h1, h2, h3⟩
    simp only [dropL]
    rw [e] at hl ⊢
    rw [List.drop_append_of_le_length (by simp at hl; omega)]
/-- What was sure is there behind a crash. -/
theorem crash_sure {g : Lg} {c keep : Nat} (hg : Good g c) (h : SureAt g) : firstOf (crashL g keep).fs = firstOf g.fs ∧ g.sure ≤ nextOf (crashL g keep).fs ∧ (crashL g keep).sure = nextOf (crashL g keep).fs ∧ ∀ x : Nat, x < g.sure → getL (crashL g keep).fs (x : Int) = getL g.fs (x : Int) := by
  rcases h with ⟨e, h⟩ | ⟨a, f, j, e, h1, h2, h3⟩
  · have : (crashL g keep).fs = [] := by simp [crashL, e, onLast]
    rw [this, e, h]
    refine ⟨rfl, Nat.zero_le _, by simp [crashL, e, h, nextOf], fun x hx => rfl⟩
  · obtain ⟨a1, a2, a3, a4⟩ := hg.file f (by rw [e]; simp)
    have e2 : (crashL g keep).fs = a ++ [crashF f keep] := by simp only [crashL]; rw [e, onLast_snoc]
    have hsu := tear_sure f.d keep
    have htk : (tear f.d keep).take (text (f.l.take j)).length = text (f.l.take j) := by
      rw [← h2]
      refine hsu.trans ?_
      show (text f.l).take f.s = _
      rw [h2]
      have e1 : text f.l = text (f.l.take j) ++ text (f.l.drop j) := by rw [← text_append, List.take_append_drop]
      rw [e1, List.take_left]
    have hsp : tear f.d keep = text (f.l.take j) ++ (tear f.d keep).drop (text (f.l.take j)).length := by
      conv => lhs; rw [← List.take_append_drop (text (f.l.take j)).length (tear f.d keep), htk]
    have hpa := prefixR_app (f.l.take j) ((tear f.d keep).drop (text (f.l.take j)).length) (fun t ht => a3 t (List.mem_of_mem_take ht))
    rw [← hsp] at hpa
    have hcl : (crashF f keep).l = f.l.take j ++ (prefixR ((tear f.d keep).drop (text (f.l.take j)).length)).1 := by simp only [crashF]; rw [hpa]
    have hj : (f.l.take j).length = j := by rw [List.length_take]; omega
    have hj2 : j ≤ (crashF f keep).l.length := by rw [hcl, List.length_append, hj]; omega
    have hf : (crashF f keep).first = f.first := rfl
    refine ⟨?_, ?_, ?_, ?_⟩
    · rw [e2, e]
      cases a <;> rfl
    · rw [e2, nextOf_snoc, h3]; simp only [Fl.next, hf]; omega
    · simp only [crashL]; rw [if_neg (by rw [e]; simp)]
    · intro x hx
      rw [h3] at hx
      rw [e2, e]
      refine (getL_last f (crashF f keep) x hf.symm j (by omega) h1 hj2 ?_ a).symm
      rw [hcl, List.take_append_of_le_length (by omega), List.take_take, Nat.min_self]
end Go.Proofs
