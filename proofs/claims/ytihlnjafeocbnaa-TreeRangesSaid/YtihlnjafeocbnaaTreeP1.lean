/- Keys in their order, and rising pairs, in plain Lean. -/
import Derived.Lib.Bytealg
import Derived.Test.YtihlnjafeocbnaaSl3
set_option autoImplicit false
namespace Go.Proofs
abbrev Ky := List UInt8
def kl : Ky → Ky → Bool
  | [], [] => false
  | [], _ :: _ => true
  | _ :: _, [] => false
  | a :: as, b :: bs => if a < b then true else if b < a then false else kl as bs
theorem kl_irr : ∀ a, kl a a = false
  | [] => rfl
  | a :: as => by simp only [kl]; rw [if_neg (UInt8.lt_irrefl a), if_neg (UInt8.lt_irrefl a)]; exact kl_irr as
theorem kl_trans : ∀ {a b c}, kl a b = true → kl b c = true → kl a c = true
  | [], [], c, h, h2 => h2
  | [], _ :: _, [], _, h => by cases h
  | [], _ :: _, _ :: _, _, _ => rfl
  | _ :: _, [], _, h, _ => by cases h
  | _ :: _, _ :: _, [], _, h => by cases h
  | a :: as, b :: bs, c :: cs, h1, h2 => by
    simp only [kl] at h1 h2 ⊢
    by_cases e1 : a < b
    · by_cases e2 : b < c
      · rw [if_pos (UInt8.lt_trans e1 e2)]
      · rw [if_neg e2] at h2
        by_cases e3 : c < b
        · rw [if_pos e3] at h2; cases h2
        · have : b = c := UInt8.le_antisymm (UInt8.not_lt.1 e3) (UInt8.not_lt.1 e2)
          subst this; rw [if_pos e1]
    · rw [if_neg e1] at h1
      by_cases e3 : b < a
      · rw [if_pos e3] at h1; cases h1
      · have : a = b := UInt8.le_antisymm (UInt8.not_lt.1 e3) (UInt8.not_lt.1 e1)
        subst this
        rw [if_neg e1] at h1
        by_cases e4 : a < c
        · rw [if_pos e4]
        · rw [if_neg e4] at h2 ⊢
          by_cases e5 : c < a
          · rw [if_pos e5] at h2; cases h2
          · rw [if_neg e5] at h2 ⊢
            exact kl_trans h1 h2
theorem kl_asymm {a b : Ky} (h : kl a b = true) : kl b a = false := by
  cases h2 : kl b a with
  | false => rfl
  | true => have := kl_trans h h2; rw [kl_irr] at this; cases this
theorem kl_tri : ∀ a b, kl a b = true ∨ a = b ∨ kl b a = true
  | [], [] => .inr (.inl rfl)
  | [], _ :: _ => .inl rfl
  | _ :: _, [] => .inr (.inr rfl)
  | a :: as, b :: bs => by
    simp only [kl]
    by_cases e1 : a < b
    · exact .inl (by rw [if_pos e1])
    · by_cases e2 : b < a
      · exact .inr (.inr (by rw [if_pos e2]))
      · have : a = b := UInt8.le_antisymm (UInt8.not_lt.1 e2) (UInt8.not_lt.1 e1)
        subst this
        simp only [UInt8.lt_irrefl, if_false]
        rcases kl_tri as bs with h | h | h
        · exact .inl h
        · exact .inr (.inl (by rw [h]))
        · exact .inr (.inr h)
theorem kl_ne {a b : Ky} (h : kl a b = true) : a ≠ b := by rintro rfl; rw [kl_irr] at h; cases h
theorem cmp_kl : ∀ a b : Ky, Lib.compareBytes a b = if kl a b = true then -1 else if kl b a = true then 1 else 0
  | [], [] => rfl
  | [], _ :: _ => rfl
  | _ :: _, [] => rfl
  | a :: as, b :: bs => by
    simp only [Lib.compareBytes, kl]
    by_cases e1 : a < b
    · simp [e1]
    · by_cases e2 : b < a
      · simp [e1, e2]
      · simp only [e1, e2, if_false]; exact cmp_kl as bs
theorem less_kl : ∀ a b : Ky, Op.bytesLess a b = kl a b
  | [], [] => rfl
  | [], _ :: _ => rfl
  | _ :: _, [] => rfl
  | a :: as, b :: bs => by
    simp only [Op.bytesLess, kl]
    by_cases e1 : a < b
    · simp [e1]
    · by_cases e2 : b < a
      · simp [e1, e2]
        intro h; subst h; exact absurd e2 e1
      · have : a = b := UInt8.le_antisymm (UInt8.not_lt.1 e2) (UInt8.not_lt.1 e1)
        subst this
        simp [e1, less_kl as bs]
structure Kv where
  key : Ky
  val : Ky
  deriving DecidableEq
abbrev Up (l : List Kv) : Prop := l.Pairwise fun x y => kl x.key y.key = true
def lo (l : List Kv) (k : Ky) : List Kv := l.filter fun x => kl x.key k
def hi (l : List Kv) (k : Ky) : List Kv := l.filter fun x => kl k x.key
def putL (l : List Kv) (k v : Ky) : List Kv := lo l k ++ ⟨k, v⟩ :: hi l k
def delL (l : List Kv) (k : Ky) : List Kv := lo l k ++ hi l k
def hasL (l : List Kv) (k : Ky) : Bool := l.any fun x => decide (x.key = k)
def getL (l : List Kv) (k : Ky) : Ky := ((l.find? fun x => decide (x.key = k)).map (·.val)).getD []
abbrev Bel (l : List Kv) (k : Ky) : Prop := ∀ x ∈ l, kl x.key k = true
abbrev Abv (l : List Kv) (k : Ky) : Prop := ∀ x ∈ l, kl k x.key = true
theorem lo_app (a b : List Kv) (k : Ky) : lo (a ++ b) k = lo a k ++ lo b k := List.filter_append ..
theorem hi_app (a b : List Kv) (k : Ky) : hi (a ++ b) k = hi a k ++ hi b k := List.filter_append ..
theorem lo_bel {l : List Kv} {k : Ky} (h : Bel l k) : lo l k = l := List.filter_eq_self.2 h
theorem hi_bel {l : List Kv} {k : Ky} (h : Bel l k) : hi l k = [] := List.filter_eq_nil_iff.2 fun x hx => by rw [kl_asymm (h x hx)]; simp
theorem lo_abv {l : List Kv} {k : Ky} (h : Abv l k) : lo l k = [] := List.filter_eq_nil_iff.2 fun x hx => by rw [kl_asymm (h x hx)]; simp
theorem hi_abv {l : List Kv} {k : Ky} (h : Abv l k) : hi l k = l := List.filter_eq_self.2 h
theorem hasL_f {l : List Kv} {k : Ky} (h : ∀ x ∈ l, x.key ≠ k) : hasL l k = false := by
  unfold hasL; rw [List.any_eq_false]; intro x hx; simpa using h x hx
theorem bel_ne {l : List Kv} {k : Ky} (h : Bel l k) : ∀ x ∈ l, x.key ≠ k := fun x hx => kl_ne (h x hx)
theorem abv_ne {l : List Kv} {k : Ky} (h : Abv l k) : ∀ x ∈ l, x.key ≠ k := fun x hx e => kl_ne (h x hx) e.symm
theorem hasL_app (a b : List Kv) (k : Ky) : hasL (a ++ b) k = (hasL a k || hasL b k) := List.any_append ..
theorem has_hit {X Y : List Kv} {k : Ky} (u : Ky) : hasL (X ++ ⟨k, u⟩ :: Y) k = true := by
  unfold hasL; rw [List.any_eq_true]; exact ⟨⟨k, u⟩, by simp, by simp⟩
section
variable {X M Y : List Kv} {k : Ky} (hX : Bel X k) (hY : Abv Y k)
include hX hY
theorem put_ctx (v : Ky) : putL (X ++ M ++ Y) k v = X ++ putL M k v ++ Y := by
  unfold putL
  rw [lo_app, lo_app, hi_app, hi_app, lo_bel hX, hi_bel hX, lo_abv hY, hi_abv hY]; simp
theorem del_ctx : delL (X ++ M ++ Y) k = X ++ delL M k ++ Y := by
  unfold delL
  rw [lo_app, lo_app, hi_app, hi_app, lo_bel hX, hi_bel hX, lo_abv hY, hi_abv hY]; simp
theorem has_ctx : hasL (X ++ M ++ Y) k = hasL M k := by
  rw [hasL_app, hasL_app, hasL_f (bel_ne hX), hasL_f (abv_ne hY)]; simp
theorem get_ctx : getL (X ++ M ++ Y) k = getL M k := by
  have e1 : X.find? (fun x => decide (x.key = k)) = none := List.find?_eq_none.2 fun x hx => by simpa using bel_ne hX x hx
  have e2 : Y.find? (fun x => decide (x.key = k)) = none := List.find?_eq_none.2 fun x hx => by simpa using abv_ne hY x hx
  unfold getL
  rw [List.find?_append, List.find?_append, e1, e2]
  simp
theorem put_hit (u v : Ky) : putL (X ++ ⟨k, u⟩ :: Y) k v = X ++ ⟨k, v⟩ :: Y := by
  have := put_ctx (M := [⟨k, u⟩]) hX hY v
  rw [List.append_assoc, List.append_assoc] at this
  rw [show X ++ (⟨k, u⟩ : Kv) :: Y = X ++ ([⟨k, u⟩] ++ Y) from rfl, this]
  simp [putL, lo, hi, kl_irr]
theorem del_hit (u : Ky) : delL (X ++ ⟨k, u⟩ :: Y) k = X ++ Y := by
  have := del_ctx (M := [⟨k, u⟩]) hX hY
  rw [List.append_assoc, List.append_assoc] at this
  rw [show X ++ (⟨k, u⟩ : Kv) :: Y = X ++ ([⟨k, u⟩] ++ Y) from rfl, this]
  simp [delL, lo, hi, kl_irr]
theorem get_hit (u : Ky) : getL (X ++ ⟨k, u⟩ :: Y) k = u := by
  have := get_ctx (M := [⟨k, u⟩]) hX hY
  rw [List.append_assoc] at this
  rw [show X ++ (⟨k, u⟩ : Kv) :: Y = X ++ ([⟨k, u⟩] ++ Y) from rfl, this]
  simp [getL]
theorem put_miss (v : Ky) : putL (X ++ Y) k v = X ++ ⟨k, v⟩ :: Y := by
  have := put_ctx (M := []) hX hY v
  rw [List.append_nil] at this
  rw [this]; simp [putL, lo, hi]
theorem del_miss : delL (X ++ Y) k = X ++ Y := by
  have := del_ctx (M := []) hX hY
  rw [List.append_nil] at this
  rw [this]; simp [delL, lo, hi]
theorem has_miss : hasL (X ++ Y) k = false := by
  have := has_ctx (M := []) hX hY
  rw [List.append_nil] at this
  rw [this]; rfl
theorem get_miss : getL (X ++ Y) k = [] := by
  have := get_ctx (M := []) hX hY
  rw [List.append_nil] at this
  rw [this]; rfl
end
theorem up_mid {X Y : List Kv} {p : Kv} (h : Up (X ++ p :: Y)) : Bel X p.key ∧ Abv Y p.key ∧ Up X ∧ Up Y := by
  have h1 := List.pairwise_append.1 h
  have h2 := List.pairwise_cons.1 h1.2.1
  exact ⟨fun x hx => h1.2.2 x hx p (by simp), h2.1, h1.1, h2.2⟩
theorem up_app {X Y : List Kv} (h : Up (X ++ Y)) : Up X ∧ Up Y := ⟨(List.pairwise_append.1 h).1, (List.pairwise_append.1 h).2.1⟩
theorem bel_trans {l : List Kv} {a b : Ky} (h : Bel l a) (hab : kl a b = true) : Bel l b := fun x hx => kl_trans (h x hx) hab
theorem abv_trans {l : List Kv} {a b : Ky} (h : Abv l b) (hab : kl a b = true) : Abv l a := fun x hx => kl_trans hab (h x hx)
/-- The split of a rising list at a key. -/
theorem up_lo_hi {l : List Kv} (h : Up l) (k : Ky) : (∃ u, l = lo l k ++ ⟨k, u⟩ :: hi l k) ∨ (l = lo l k ++ hi l k ∧ hasL l k = false) := by
  induction l with
  | nil => exact .inr ⟨rfl, rfl⟩
  | cons p l ih =>
    obtain ⟨h1, h2⟩ := List.pairwise_cons.1 h
    rcases kl_tri p.key k with e | e | e
    · have e1 : lo (p :: l) k = p :: lo l k := by simp [lo, e]
      have e2 : hi (p :: l) k = hi l k := by simp [hi, kl_asymm e]
      rw [e1, e2]
      rcases ih h2 with ⟨u, hu⟩ | ⟨hu, hf⟩
      · exact .inl ⟨u, by rw [List.cons_append, ← hu]⟩
      · refine .inr ⟨by rw [List.cons_append, ← hu], ?_⟩
        simp only [hasL, List.any_cons, Bool.or_eq_false_iff]
        exact ⟨by simpa using kl_ne e, hf⟩
    · have hA : Abv l k := by rw [← e]; exact h1
      have e1 : lo (p :: l) k = [] := by rw [lo, List.filter_cons, e, kl_irr]; exact lo_abv hA
      have e2 : hi (p :: l) k = l := by rw [hi, List.filter_cons, e, kl_irr]; exact hi_abv hA
      rw [e1, e2]
      exact .inl ⟨p.val, by rw [← e]; rfl⟩
    · have hA : Abv l k := fun x hx => kl_trans e (h1 x hx)
      have e1 : lo (p :: l) k = [] := by rw [lo, List.filter_cons, kl_asymm e]; exact lo_abv hA
      have e2 : hi (p :: l) k = p :: l := by rw [hi, List.filter_cons, e, if_pos rfl]; congr 1; exact hi_abv hA
      rw [e1, e2]
      refine .inr ⟨rfl, hasL_f ?_⟩
      intro x hx
      rcases List.mem_cons.1 hx with rfl | hx
      · exact fun e2 => kl_ne e e2.symm
      · exact abv_ne hA x hx
theorem lo_Bel (l : List Kv) (k : Ky) : Bel (lo l k) k := fun x hx => (List.mem_filter.1 hx).2
theorem hi_Abv (l : List Kv) (k : Ky) : Abv (hi l k) k := fun x hx => (List.mem_filter.1 hx).2
theorem up_put {l : List Kv} (h : Up l) (k v : Ky) : Up (putL l k v) := by
  refine List.pairwise_append.2 ⟨h.filter _, List.pairwise_cons.2 ⟨hi_Abv l k, h.filter _⟩, fun x hx y hy => ?_⟩
  have h1 := lo_Bel l k x hx
  rcases List.mem_cons.1 hy with rfl | hy
  · exact h1
  · exact kl_trans h1 (hi_Abv l k y hy)
theorem up_del {l : List Kv} (h : Up l) (k : Ky) : Up (delL l k) :=
  List.pairwise_append.2 ⟨h.filter _, h.filter _, fun x hx y hy => kl_trans (lo_Bel l k x hx) (hi_Abv l k y hy)⟩
theorem put_len {l : List Kv} (h : Up l) (k v : Ky) : (putL l k v).length = if hasL l k = true then l.length else l.length + 1 := by
  have hh : (putL l k v).length = (lo l k).length + (hi l k).length + 1 := by simp [putL]; omega
  rcases up_lo_hi h k with ⟨u, hu⟩ | ⟨hu, hf⟩
  · have h2 : hasL l k = true := by rw [hu]; exact has_hit u
    rw [if_pos h2, hh]
    have := congrArg List.length hu
    simp at this; omega
  · rw [hf, if_neg (by simp), hh]
    have := congrArg List.length hu
    simp at this; omega
theorem del_len {l : List Kv} (h : Up l) (k : Ky) : (delL l k).length = if hasL l k = true then l.length - 1 else l.length := by
  have hh : (delL l k).length = (lo l k).length + (hi l k).length := by simp [delL]
  rcases up_lo_hi h k with ⟨u, hu⟩ | ⟨hu, hf⟩
  · have h2 : hasL l k = true := by rw [hu]; exact has_hit u
    rw [if_pos h2, hh]
    have := congrArg List.length hu
    simp at this; omega
  · rw [hf, if_neg (by simp), hh]
    have := congrArg List.length hu
    simp at this; omega
theorem del_not {l : List Kv} (h : Up l) {k : Ky} (hf : hasL l k = false) : delL l k = l := by
  rcases up_lo_hi h k with ⟨u, hu⟩ | ⟨hu, _⟩
  · have h2 : hasL l k = true := by rw [hu]; exact has_hit u
    rw [hf] at h2; cases h2
  · exact hu.symm
theorem get_not {l : List Kv} {k : Ky} (hf : hasL l k = false) : getL l k = [] := by
  unfold hasL at hf
  rw [List.any_eq_false] at hf
  unfold getL
  rw [List.find?_eq_none.2 hf]; rfl
end Go.Proofs
