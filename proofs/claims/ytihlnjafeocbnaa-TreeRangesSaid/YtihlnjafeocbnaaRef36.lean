/- The document's pairs. -/
import Derived.Test.YtihlnjafeocbnaaTree14
import Derived.Test.YtihlnjafeocbnaaSl15
set_option autoImplicit false
namespace Go.Proofs
open Go.SL
abbrev Rdy (E : World) (C : HProp) (S : SV) (l : List Kv) : Prop := ∀ (w : World) (L : List HProp), Sat E w (C :: L) → Rd tKv w S l
theorem Rdy.nil {E : World} {C : HProp} : Rdy E C SV.nil [] := fun _ _ _ => ⟨rfl, Nat.le_refl _, .inl ⟨rfl, rfl⟩⟩
theorem Rdy.old {E : World} {C D : HProp} {S : SV} {l : List Kv} (h : Rdy E C S l) : Rdy E (star C D) S l := fun w L hs => h w (D :: L) hs.star
theorem Rdy.new {E : World} {C : HProp} {S : SV} {l : List Kv} : Rdy E (star C (slc tKv true S l)) S l := fun w L hs => by
  have h2 : Sat E w (slc tKv true S l :: C :: L) := Sat.swap2 hs.star
  exact h2.rd 0 rfl
theorem eqgK : EqG Try.prog 48 := ⟨by kernel_rfl⟩
theorem fldsK : [(9, 0), (9, 1)] = (Try.prog.fieldsOf 48).toList.map (fun f => (f.type, f.offset)) := by kernel_rfl
theorem eqvK (p q : Kv) : EqV Try.prog 48 10000 (.agg (kvV p).toArray) (.agg (kvV q).toArray) (decide (p = q)) := by
  have h : (decide (p = q)) = (decide (p.key = q.key) && (decide (p.val = q.val) && true)) := by
    obtain ⟨a, b⟩ := p
    obtain ⟨c, e⟩ := q
    simp
  rw [h]
  have u : TyU Try.prog 9 .string := inferInstance
  exact EqV_struct [(9, 0), (9, 1)] (by kernel_rfl) (by kernel_rfl) fldsK (by kernel_rfl)
    (.cons _ _ u.h rfl rfl rfl (EqV_str 9998 p.key q.key) (.cons _ _ u.h rfl rfl rfl (EqV_str 9998 p.val q.val) .nil))
theorem get_at {l : List Kv} (h : Up l) {k : Ky} (hh : hasL l k = true) (hp : posK l k < l.length) : l[posK l k] = ⟨k, getL l k⟩ := by
  obtain ⟨K1, K2, u, hK, hp1⟩ := hit_split h hh
  have e : getL l k = u := by
    rw [hK] at h ⊢
    obtain ⟨m1, m2, _, _⟩ := up_mid h
    exact get_hit m1 m2 u
  rw [e]
  generalize posK l k = i at *
  subst hK
  exact get_mid hp1 hp
theorem put_at {l : List Kv} (h : Up l) (k v : Ky) : putL l k v = (l.take (posK l k) ++ [⟨k, v⟩]) ++ l.drop (if hasL l k = true then posK l k + 1 else posK l k) := by
  cases hh : hasL l k with
  | true =>
    obtain ⟨K1, K2, u, hK, hp1⟩ := hit_split h hh
    rw [if_pos rfl]
    generalize posK l k = i at *
    subst hK
    obtain ⟨m1, m2, _, _⟩ := up_mid h
    rw [put_hit m1 m2 u v]
    subst hp1
    have := List.drop_left (l₁ := K1 ++ [(⟨k, u⟩ : Kv)]) (l₂ := K2)
    simp only [List.length_append, List.length_singleton, List.append_assoc, List.singleton_append] at this
    rw [List.take_left, this]; simp
  | false =>
    obtain ⟨K1, K2, hK, hp1, b1, b2⟩ := miss_split h hh
    rw [if_neg (by simp)]
    generalize posK l k = i at *
    subst hK
    subst hp1
    rw [put_miss b1 b2 v, List.take_left, List.drop_left]; simp
theorem del_at {l : List Kv} (h : Up l) {k : Ky} (hh : hasL l k = true) : delL l k = l.take (posK l k) ++ l.drop (posK l k + 1) := by
  obtain ⟨K1, K2, u, hK, hp1⟩ := hit_split h hh
  generalize posK l k = i at *
  subst hK
  obtain ⟨m1, m2, _, _⟩ := up_mid h
  rw [del_hit m1 m2 u, del_mid hp1]
def refR (f to : Ky) (most : Int) : List Kv → List Kv → List Kv
  | acc, [] => acc
  | acc, x :: xs => if (acc.length : Int) < most then refR f to most (if (!kl x.key f && (decide (to = []) || kl x.key to)) = true then acc ++ [x] else acc) xs else acc
theorem refR_full {f to : Ky} {most : Int} {acc : List Kv} (h : ¬ (acc.length : Int) < most) : ∀ l, refR f to most acc l = acc
  | [] => rfl
  | x :: xs => by rw [refR, if_neg h]
theorem refR_past {f to : Ky} {most : Int} (ht : to ≠ []) : ∀ {l acc : List Kv}, (∀ x ∈ l, kl x.key to = false) → refR f to most acc l = acc
  | [], _, _ => rfl
  | x :: xs, acc, h => by
    rw [refR]
    by_cases hl : (acc.length : Int) < most
    · rw [if_pos hl, if_neg (by rw [h x (by simp), decide_eq_false ht]; simp)]
      exact refR_past ht fun y hy => h y (by simp [hy])
    · rw [if_neg hl]
theorem refR_run {f to : Ky} {most : Int} : ∀ {l acc : List Kv}, Up l → (acc.length : Int) < most → refR f to most acc l = (runR to most acc (flF f l)).1
  | [], _, _, _ => rfl
  | x :: xs, acc, hu, hl => by
    have hux : Up xs := (List.pairwise_cons.1 hu).2
    have hxs : ∀ y ∈ xs, kl x.key y.key = true := (List.pairwise_cons.1 hu).1
    rw [refR, if_pos hl]
    cases hf : kl x.key f with
    | true =>
      rw [if_neg (by simp), show flF f (x :: xs) = flF f xs from by unfold flF; rw [List.filter_cons, hf]; rfl]
      exact refR_run hux hl
    | false =>
      rw [flF_cons hf]
      cases hb : (!decide (to = []) && !kl x.key to) with
      | true =>
        have ht : to ≠ [] := by rintro rfl; simp at hb
        have hk : kl x.key to = false := by simpa [ht] using hb
        have hs : rngStep to most acc x = (acc, false) := by unfold rngStep; rw [if_pos hb]
        rw [runR_cf (by rw [hs]), hs, if_neg (by rw [hk, decide_eq_false ht]; simp)]
        refine refR_past ht fun y hy => ?_
        cases h2 : kl y.key to with
        | false => rfl
        | true => rw [kl_trans (hxs y hy) h2] at hk; cases hk
      | false =>
        have hs : rngStep to most acc x = (acc ++ [x], decide (((acc ++ [x]).length : Int) < most)) := by unfold rngStep; rw [if_neg (by rw [hb]; simp)]
        have hc : (!false && (decide (to = []) || kl x.key to)) = true := by
          cases h1 : decide (to = []) <;> cases h2 : kl x.key to <;> simp_all
        rw [if_pos hc]
        by_cases h3 : ((acc ++ [x]).length : Int) < most
        · rw [runR_ct (by rw [hs]; exact decide_eq_true h3), hs]
          exact refR_run hux h3
        · rw [runR_cf (by rw [hs]; exact decide_eq_false h3), hs]
          exact refR_full h3 xs
theorem refR_eq {l : List Kv} (hu : Up l) (f to : Ky) (most : Int) : refR f to most [] l = rngL l f to most := by
  unfold rngL
  by_cases h : most < 1
  · rw [if_pos h]; exact refR_full (by simp; omega) l
  · rw [if_neg h]; exact refR_run hu (by simp; omega)
theorem flF_nil (l : List Kv) : flF [] l = l := List.filter_eq_self.2 fun x _ => by cases x.key <;> rfl
theorem runR_all {most : Int} : ∀ {l acc : List Kv}, ((acc.length + l.length : Nat) : Int) < most → (runR [] most acc l).1 = acc ++ l
  | [], acc, _ => by simp [runR]
  | x :: xs, acc, h => by
    have hs : rngStep [] most acc x = (acc ++ [x], decide (((acc ++ [x]).length : Int) < most)) := by unfold rngStep; rw [if_neg (by simp)]
    have h3 : ((acc ++ [x]).length : Int) < most := by simp only [List.length_append, List.length_cons, List.length_nil] at h ⊢; omega
    rw [runR_ct (by rw [hs]; exact decide_eq_true h3), hs]
    rw [runR_all (by simp only [List.length_append, List.length_cons, List.length_nil] at h ⊢; omega)]
    simp
theorem rngL_all {l : List Kv} {most : Int} (h1 : 1 ≤ most) (h : (l.length : Int) < most) : rngL l [] [] most = l := by
  unfold rngL
  rw [if_neg (by omega), flF_nil, runR_all (by simpa using h)]
  rfl
end Go.Proofs
