/- Part 7 of the texts below the row: TreeP1, TreeP2, TreeI. -/
import Derived.Lib.Bytealg
import Derived.Lib.SliceRun
import Derived.Test.YtkglhackgghcfaaGreatM6
/- Keys in their order, and rising pairs, in plain Lean. -/
set_option autoImplicit false
namespace Go.Proofs.Bt
abbrev Ky := List UInt8
def kl : Ky → Ky → Bool
  | [], [] => false
  | [], _ :: _ => true
  | _ :: _, [] => false
  | a :: ar, b :: bs => if a < b then true else if b < a then false else kl ar bs
theorem kl_irr : ∀ a, kl a a = false
  | [] => rfl
  | a :: ar => by simp only [kl]; rw [if_neg (UInt8.lt_irrefl a), if_neg (UInt8.lt_irrefl a)]; exact kl_irr ar
theorem kl_trans : ∀ {a b c}, kl a b = true → kl b c = true → kl a c = true
  | [], [], c, h, h2 => h2
  | [], _ :: _, [], _, h => by cases h
  | [], _ :: _, _ :: _, _, _ => rfl
  | _ :: _, [], _, h, _ => by cases h
  | _ :: _, _ :: _, [], _, h => by cases h
  | a :: ar, b :: bs, c :: cs, h1, h2 => by
    simp only [kl] at h1 h2 ⊢
    by_cases e1 : a < b
    · by_cases e2 : b < c
      · rw [if_pos (UInt8.lt_trans e1 e2)]
      · rw [if_neg e2] at h2
        by_cases e3 : c < b
        · rw [if_pos e3] at h2; cases h2
        · have : b = c := UInt8.le_antisymm (UInt8.not_lt.1 e3) (UInt8.not_lt.1 e2)
          subst this; rw [if_pos e1]
    · rw [if_neg e1] at h1
      by_cases e3 : b < a
      · rw [if_pos e3] at h1; cases h1
      · have : a = b := UInt8.le_antisymm (UInt8.not_lt.1 e3) (UInt8.not_lt.1 e1)
        subst this
        rw [if_neg e1] at h1
        by_cases e4 : a < c
        · rw [if_pos e4]
        · rw [if_neg e4] at h2 ⊢
          by_cases e5 : c < a
          · rw [if_pos e5] at h2; cases h2
          · rw [if_neg e5] at h2 ⊢
            exact kl_trans h1 h2
theorem kl_asymm {a b : Ky} (h : kl a b = true) : kl b a = false := by
  cases h2 : kl b a with
  | false => rfl
  | true => have := kl_trans h h2; rw [kl_irr] at this; cases this
theorem kl_tri : ∀ a b, kl a b = true ∨ a = b ∨ kl b a = true
  | [], [] => .inr (.inl rfl)
  | [], _ :: _ => .inl rfl
  | _ :: _, [] => .inr (.inr rfl)
  | a :: ar, b :: bs => by
    simp only [kl]
    by_cases e1 : a < b
    · exact .inl (by rw [if_pos e1])
    · by_cases e2 : b < a
      · exact .inr (.inr (by rw [if_pos e2]))
      · have : a = b := UInt8.le_antisymm (UInt8.not_lt.1 e2) (UInt8.not_lt.1 e1)
        subst this
        simp only [UInt8.lt_irrefl, if_false]
        rcases kl_tri ar bs with h | h | h
        · exact .inl h
        · exact .inr (.inl (by rw [h]))
        · exact .inr (.inr h)
theorem kl_ne {a b : Ky} (h : kl a b = true) : a ≠ b := by rintro rfl; rw [kl_irr] at h; cases h
theorem cmp_kl : ∀ a b : Ky, Lib.compareBytes a b = if kl a b = true then -1 else if kl b a = true then 1 else 0
  | [], [] => rfl
  | [], _ :: _ => rfl
  | _ :: _, [] => rfl
  | a :: ar, b :: bs => by
    simp only [Lib.compareBytes, kl]
    by_cases e1 : a < b
    · simp [e1]
    · by_cases e2 : b < a
      · simp [e1, e2]
      · simp only [e1, e2, if_false]; exact cmp_kl ar bs
theorem less_kl : ∀ a b : Ky, Op.bytesLess a b = kl a b
  | [], [] => rfl
  | [], _ :: _ => rfl
  | _ :: _, [] => rfl
  | a :: ar, b :: bs => by
    simp only [Op.bytesLess, kl]
    by_cases e1 : a < b
    · simp [e1]
    · by_cases e2 : b < a
      · simp [e1, e2]
        intro h; subst h; exact absurd e2 e1
      · have : a = b := UInt8.le_antisymm (UInt8.not_lt.1 e2) (UInt8.not_lt.1 e1)
        subst this
        simp [e1, less_kl ar bs]
structure Kv where
  key : Ky
  val : Ky
  deriving DecidableEq
abbrev Up (l : List Kv) : Prop := l.Pairwise fun x y => kl x.key y.key = true
def lo (l : List Kv) (k : Ky) : List Kv := l.filter fun x => kl x.key k
def hi (l : List Kv) (k : Ky) : List Kv := l.filter fun x => kl k x.key
def putL (l : List Kv) (k v : Ky) : List Kv := lo l k ++ ⟨k, v⟩ :: hi l k
def delL (l : List Kv) (k : Ky) : List Kv := lo l k ++ hi l k
def hasL (l : List Kv) (k : Ky) : Bool := l.any fun x => decide (x.key = k)
def getL (l : List Kv) (k : Ky) : Ky := ((l.find? fun x => decide (x.key = k)).map (·.val)).getD []
abbrev Bel (l : List Kv) (k : Ky) : Prop := ∀ x ∈ l, kl x.key k = true
abbrev Abv (l : List Kv) (k : Ky) : Prop := ∀ x ∈ l, kl k x.key = true
theorem lo_app (a b : List Kv) (k : Ky) : lo (a ++ b) k = lo a k ++ lo b k := List.filter_append ..
theorem hi_app (a b : List Kv) (k : Ky) : hi (a ++ b) k = hi a k ++ hi b k := List.filter_append ..
theorem lo_bel {l : List Kv} {k : Ky} (h : Bel l k) : lo l k = l := List.filter_eq_self.2 h
theorem hi_bel {l : List Kv} {k : Ky} (h : Bel l k) : hi l k = [] := List.filter_eq_nil_iff.2 fun x hx => by rw [kl_asymm (h x hx)]; simp
theorem lo_abv {l : List Kv} {k : Ky} (h : Abv l k) : lo l k = [] := List.filter_eq_nil_iff.2 fun x hx => by rw [kl_asymm (h x hx)]; simp
theorem hi_abv {l : List Kv} {k : Ky} (h : Abv l k) : hi l k = l := List.filter_eq_self.2 h
theorem hasL_f {l : List Kv} {k : Ky} (h : ∀ x ∈ l, x.key ≠ k) : hasL l k = false := by
  unfold hasL; rw [List.any_eq_false]; intro x hx; simpa using h x hx
theorem bel_ne {l : List Kv} {k : Ky} (h : Bel l k) : ∀ x ∈ l, x.key ≠ k := fun x hx => kl_ne (h x hx)
theorem abv_ne {l : List Kv} {k : Ky} (h : Abv l k) : ∀ x ∈ l, x.key ≠ k := fun x hx e => kl_ne (h x hx) e.symm
theorem hasL_app (a b : List Kv) (k : Ky) : hasL (a ++ b) k = (hasL a k || hasL b k) := List.any_append ..
theorem has_hit {X Y : List Kv} {k : Ky} (u : Ky) : hasL (X ++ ⟨k, u⟩ :: Y) k = true := by
  unfold hasL; rw [List.any_eq_true]; exact ⟨⟨k, u⟩, by simp, by simp⟩
section
variable {X M Y : List Kv} {k : Ky} (hX : Bel X k) (hY : Abv Y k)
include hX hY
theorem put_ctx (v : Ky) : putL (X ++ M ++ Y) k v = X ++ putL M k v ++ Y := by
  unfold putL
  rw [lo_app, lo_app, hi_app, hi_app, lo_bel hX, hi_bel hX, lo_abv hY, hi_abv hY]; simp
theorem del_ctx : delL (X ++ M ++ Y) k = X ++ delL M k ++ Y := by
  unfold delL
  rw [lo_app, lo_app, hi_app, hi_app, lo_bel hX, hi_bel hX, lo_abv hY, hi_abv hY]; simp
theorem has_ctx : hasL (X ++ M ++ Y) k = hasL M k := by
  rw [hasL_app, hasL_app, hasL_f (bel_ne hX), hasL_f (abv_ne hY)]; simp
theorem get_ctx : getL (X ++ M ++ Y) k = getL M k := by
  have e1 : X.find? (fun x => decide (x.key = k)) = none := List.find?_eq_none.2 fun x hx => by simpa using bel_ne hX x hx
  have e2 : Y.find? (fun x => decide (x.key = k)) = none := List.find?_eq_none.2 fun x hx => by simpa using abv_ne hY x hx
  unfold getL
  rw [List.find?_append, List.find?_append, e1, e2]
  simp
theorem put_hit (u v : Ky) : putL (X ++ ⟨k, u⟩ :: Y) k v = X ++ ⟨k, v⟩ :: Y := by
  have := put_ctx (M := [⟨k, u⟩]) hX hY v
  rw [List.append_assoc, List.append_assoc] at this
  rw [show X ++ (⟨k, u⟩ : Kv) :: Y = X ++ ([⟨k, u⟩] ++ Y) from rfl, this]
  simp [putL, lo, hi, kl_irr]
theorem del_hit (u : Ky) : delL (X ++ ⟨k, u⟩ :: Y) k = X ++ Y := by
  have := del_ctx (M := [⟨k, u⟩]) hX hY
  rw [List.append_assoc, List.append_assoc] at this
  rw [show X ++ (⟨k, u⟩ : Kv) :: Y = X ++ ([⟨k, u⟩] ++ Y) from rfl, this]
  simp [delL, lo, hi, kl_irr]
theorem get_hit (u : Ky) : getL (X ++ ⟨k, u⟩ :: Y) k = u := by
  have := get_ctx (M := [⟨k, u⟩]) hX hY
  rw [List.append_assoc] at this
  rw [show X ++ (⟨k, u⟩ : Kv) :: Y = X ++ ([⟨k, u⟩] ++ Y) from rfl, this]
  simp [getL]
theorem put_miss (v : Ky) : putL (X ++ Y) k v = X ++ ⟨k, v⟩ :: Y := by
  have := put_ctx (M := []) hX hY v
  rw [List.append_nil] at this
  rw [this]; simp [putL, lo, hi]
theorem del_miss : delL (X ++ Y) k = X ++ Y := by
  have := del_ctx (M := []) hX hY
  rw [List.append_nil] at this
  rw [this]; simp [delL, lo, hi]
theorem has_miss : hasL (X ++ Y) k = false := by
  have := has_ctx (M := []) hX hY
  rw [List.append_nil] at this
  rw [this]; rfl
theorem get_miss : getL (X ++ Y) k = [] := by
  have := get_ctx (M := []) hX hY
  rw [List.append_nil] at this
  rw [this]; rfl
end
theorem up_mid {X Y : List Kv} {p : Kv} (h : Up (X ++ p :: Y)) : Bel X p.key ∧ Abv Y p.key ∧ Up X ∧ Up Y := by
  have h1 := List.pairwise_append.1 h
  have h2 := List.pairwise_cons.1 h1.2.1
  exact ⟨fun x hx => h1.2.2 x hx p (by simp), h2.1, h1.1, h2.2⟩
theorem up_app {X Y : List Kv} (h : Up (X ++ Y)) : Up X ∧ Up Y := ⟨(List.pairwise_append.1 h).1, (List.pairwise_append.1 h).2.1⟩
theorem bel_trans {l : List Kv} {a b : Ky} (h : Bel l a) (hab : kl a b = true) : Bel l b := fun x hx => kl_trans (h x hx) hab
theorem abv_trans {l : List Kv} {a b : Ky} (h : Abv l b) (hab : kl a b = true) : Abv l a := fun x hx => kl_trans hab (h x hx)
/-- The split of a rising list at a key. -/
theorem up_lo_hi {l : List Kv} (h : Up l) (k : Ky) : (∃ u, l = lo l k ++ ⟨k, u⟩ :: hi l k) ∨ (l = lo l k ++ hi l k ∧ hasL l k = false) := by
  induction l with
  | nil => exact .inr ⟨rfl, rfl⟩
  | cons p l ih =>
    obtain ⟨h1, h2⟩ := List.pairwise_cons.1 h
    rcases kl_tri p.key k with e | e | e
    · have e1 : lo (p :: l) k = p :: lo l k := by simp [lo, e]
      have e2 : hi (p :: l) k = hi l k := by simp [hi, kl_asymm e]
      rw [e1, e2]
      rcases ih h2 with ⟨u, hu⟩ | ⟨hu, hf⟩
      · exact .inl ⟨u, by rw [List.cons_append, ← hu]⟩
      · refine .inr ⟨by rw [List.cons_append, ← hu], ?_⟩
        simp only [hasL, List.any_cons, Bool.or_eq_false_iff]
        exact ⟨by simpa using kl_ne e, hf⟩
    · have hA : Abv l k := by rw [← e]; exact h1
      have e1 : lo (p :: l) k = [] := by rw [lo, List.filter_cons, e, kl_irr]; exact lo_abv hA
      have e2 : hi (p :: l) k = l := by rw [hi, List.filter_cons, e, kl_irr]; exact hi_abv hA
      rw [e1, e2]
      exact .inl ⟨p.val, by rw [← e]; rfl⟩
    · have hA : Abv l k := fun x hx => kl_trans e (h1 x hx)
      have e1 : lo (p :: l) k = [] := by rw [lo, List.filter_cons, kl_asymm e]; exact lo_abv hA
      have e2 : hi (p :: l) k = p :: l := by rw [hi, List.filter_cons, e, if_pos rfl]; congr 1; exact hi_abv hA
      rw [e1, e2]
      refine .inr ⟨rfl, hasL_f ?_⟩
      intro x hx
      rcases List.mem_cons.1 hx with rfl | hx
      · exact fun e2 => kl_ne e e2.symm
      · exact abv_ne hA x hx
theorem lo_Bel (l : List Kv) (k : Ky) : Bel (lo l k) k := fun x hx => (List.mem_filter.1 hx).2
theorem hi_Abv (l : List Kv) (k : Ky) : Abv (hi l k) k := fun x hx => (List.mem_filter.1 hx).2
theorem up_put {l : List Kv} (h : Up l) (k v : Ky) : Up (putL l k v) := by
  refine List.pairwise_append.2 ⟨h.filter _, List.pairwise_cons.2 ⟨hi_Abv l k, h.filter _⟩, fun x hx y hy => ?_⟩
  have h1 := lo_Bel l k x hx
  rcases List.mem_cons.1 hy with rfl | hy
  · exact h1
  · exact kl_trans h1 (hi_Abv l k y hy)
theorem up_del {l : List Kv} (h : Up l) (k : Ky) : Up (delL l k) :=
  List.pairwise_append.2 ⟨h.filter _, h.filter _, fun x hx y hy => kl_trans (lo_Bel l k x hx) (hi_Abv l k y hy)⟩
theorem put_len {l : List Kv} (h : Up l) (k v : Ky) : (putL l k v).length = if hasL l k = true then l.length else l.length + 1 := by
  have hh : (putL l k v).length = (lo l k).length + (hi l k).length + 1 := by simp [putL]; omega
  rcases up_lo_hi h k with ⟨u, hu⟩ | ⟨hu, hf⟩
  · have h2 : hasL l k = true := by rw [hu]; exact has_hit u
    rw [if_pos h2, hh]
    have := congrArg List.length hu
    simp at this; omega
  · rw [hf, if_neg (by simp), hh]
    have := congrArg List.length hu
    simp at this; omega
theorem del_len {l : List Kv} (h : Up l) (k : Ky) : (delL l k).length = if hasL l k = true then l.length - 1 else l.length := by
  have hh : (delL l k).length = (lo l k).length + (hi l k).length := by simp [delL]
  rcases up_lo_hi h k with ⟨u, hu⟩ | ⟨hu, hf⟩
  · have h2 : hasL l k = true := by rw [hu]; exact has_hit u
    rw [if_pos h2, hh]
    have := congrArg List.length hu
    simp at this; omega
  · rw [hf, if_neg (by simp), hh]
    have := congrArg List.length hu
    simp at this; omega
theorem del_not {l : List Kv} (h : Up l) {k : Ky} (hf : hasL l k = false) : delL l k = l := by
  rcases up_lo_hi h k with ⟨u, hu⟩ | ⟨hu, _⟩
  · have h2 : hasL l k = true := by rw [hu]; exact has_hit u
    rw [hf] at h2; cases h2
  · exact hu.symm
theorem get_not {l : List Kv} {k : Ky} (hf : hasL l k = false) : getL l k = [] := by
  unfold hasL at hf
  rw [List.any_eq_false] at hf
  unfold getL
  rw [List.find?_eq_none.2 hf]; rfl
end Go.Proofs.Bt
/- Balanced trees, in plain Lean: their pairs in order, their shape. -/
set_option autoImplicit false
namespace Go.Proofs.Bt
def ileave : List Kv → List (List Kv) → List Kv
  | _, [] => []
  | [], f :: _ => f
  | k :: ks, f :: fs => f ++ k :: ileave ks fs
def preI : List Kv → List (List Kv) → List Kv
  | k :: ks, f :: fs => f ++ k :: preI ks fs
  | _, _ => []
def postI : List Kv → List (List Kv) → List Kv
  | [], _ => []
  | k :: ks, fs => k :: ileave ks fs
theorem ileave_post (ks : List Kv) (f : List Kv) (fs : List (List Kv)) : ileave ks (f :: fs) = f ++ postI ks fs := by
  cases ks with
  | nil => simp [ileave, postI]
  | cons k ks => rfl
theorem ileave_pre : ∀ (K1 K2 : List Kv) (F1 F2 : List (List Kv)), K1.length = F1.length → ileave (K1 ++ K2) (F1 ++ F2) = preI K1 F1 ++ ileave K2 F2
  | [], K2, [], F2, _ => rfl
  | [], _, _ :: _, _, h => by simp at h
  | _ :: _, _, [], _, h => by simp at h
  | k :: K1, K2, f :: F1, F2, h => by
    simp only [List.cons_append, ileave, preI, ileave_pre K1 K2 F1 F2 (by simpa using h), List.append_assoc]
theorem ileave_join : ∀ (K K' : List Kv) (m : Kv) (F F' : List (List Kv)), F.length = K.length + 1 → ileave (K ++ m :: K') (F ++ F') = ileave K F ++ m :: ileave K' F'
  | _, _, _, [], _, h => by simp at h
  | [], K', m, [f], F', _ => by simp [ileave]
  | [], _, _, _ :: _ :: _, _, h => by simp at h
  | k :: K, K', m, f :: F, F', h => by
    simp only [List.cons_append, ileave, ileave_join K K' m F F' (by simpa using h), List.append_assoc]
theorem ileave_len : ∀ (ks : List Kv) (fs : List (List Kv)), fs.length = ks.length + 1 → (ileave ks fs).length = ks.length + (fs.map List.length).sum
  | _, [], h => by simp at h
  | [], [f], _ => by simp [ileave]
  | [], _ :: _ :: _, h => by simp at h
  | k :: ks, f :: fs, h => by
    simp only [ileave, List.length_append, List.length_cons, ileave_len ks fs (by simpa using h), List.map_cons, List.sum_cons]; omega
def T : Nat → Type
  | 0 => List Kv
  | d + 1 => List Kv × List (T d)
def tks : (d : Nat) → T d → List Kv
  | 0, t => t
  | _ + 1, t => t.1
def flat : (d : Nat) → T d → List Kv
  | 0, t => t
  | d + 1, t => ileave t.1 (t.2.map (flat d))
def wf (m : Nat) : (d : Nat) → T d → Prop
  | 0, t => m ≤ List.length t ∧ List.length t ≤ 7
  | d + 1, t => m ≤ t.1.length ∧ t.1.length ≤ 7 ∧ t.2.length = t.1.length + 1 ∧ ∀ c ∈ t.2, wf 3 d c
theorem wf_ks {m d : Nat} {t : T d} (h : wf m d t) : m ≤ (tks d t).length ∧ (tks d t).length ≤ 7 := by
  cases d with
  | zero => exact h
  | succ d => exact ⟨h.1, h.2.1⟩
theorem wf_mk {m n d : Nat} {t : T d} (h : wf m d t) (h2 : n ≤ (tks d t).length) : wf n d t := by
  cases d with
  | zero => exact ⟨h2, h.2⟩
  | succ d => exact ⟨h2, h.2⟩
def preF (d : Nat) (K : List Kv) (A : List (T d)) : List Kv := preI K (A.map (flat d))
def postF (d : Nat) (K : List Kv) (B : List (T d)) : List Kv := postI K (B.map (flat d))
theorem flat_at {d : Nat} (K1 K2 : List Kv) (A B : List (T d)) (c : T d) (h : K1.length = A.length) : flat (d + 1) (K1 ++ K2, A ++ c :: B) = preF d K1 A ++ flat d c ++ postF d K2 B := by
  simp only [flat, List.map_append, List.map_cons]
  rw [ileave_pre K1 K2 _ _ (by simpa using h), ileave_post, List.append_assoc]; rfl
theorem postF_cons {d : Nat} (k : Kv) (K : List Kv) (c : T d) (B : List (T d)) : postF d (k :: K) (c :: B) = k :: (flat d c ++ postF d K B) := by
  show k :: ileave K (flat d c :: B.map (flat d)) = _
  rw [ileave_post]; rfl
theorem flat_2 {d : Nat} (K1 K2 : List Kv) (k : Kv) (A B : List (T d)) (c c' : T d) (h : K1.length = A.length) : flat (d + 1) (K1 ++ k :: K2, A ++ c :: c' :: B) = preF d K1 A ++ (flat d c ++ k :: flat d c') ++ postF d K2 B := by
  rw [flat_at K1 (k :: K2) A (c' :: B) c h, postF_cons]; simp
theorem pre_bel {k : Ky} : ∀ (K : List Kv) (F : List (List Kv)), Up (preI K F) → Bel K k → Bel (preI K F) k
  | [], _, _, _ => by intro y hy; simp [preI] at hy
  | _ :: _, [], _, _ => by intro y hy; simp [preI] at hy
  | x :: K, f :: F, h, hk => by
    simp only [preI] at h ⊢
    obtain ⟨h1, _, _, h4⟩ := up_mid h
    have hx := hk x (by simp)
    intro y hy
    rcases List.mem_append.1 hy with hy | hy
    · exact kl_trans (h1 y hy) hx
    · rcases List.mem_cons.1 hy with rfl | hy
      · exact hx
      · exact pre_bel K F h4 (fun z hz => hk z (by simp [hz])) y hy
theorem post_abv {k : Ky} : ∀ (K : List Kv) (F : List (List Kv)), Up (postI K F) → Abv K k → Abv (postI K F) k
  | [], _, _, _ => by intro y hy; simp [postI] at hy
  | x :: K, F, h, hk => by
    simp only [postI] at h ⊢
    have h1 := (List.pairwise_cons.1 h).1
    have hx := hk x (by simp)
    intro y hy
    rcases List.mem_cons.1 hy with rfl | hy
    · exact hx
    · exact kl_trans hx (h1 y hy)
theorem ks_sub : ∀ (K : List Kv) (F : List (List Kv)), F.length = K.length + 1 → K.Sublist (ileave K F)
  | [], _, _ => List.nil_sublist _
  | k :: K, [], h => by simp at h
  | k :: K, f :: F, h => by
    simp only [ileave]
    exact ((ks_sub K F (by simpa using h)).cons_cons k).trans (List.sublist_append_right f _)
theorem ks_up {m d : Nat} {t : T d} (hw : wf m d t) (h : Up (flat d t)) : Up (tks d t) := by
  cases d with
  | zero => exact h
  | succ d => exact h.sublist (ks_sub t.1 (t.2.map (flat d)) (by rw [List.length_map]; exact hw.2.2.1))
/-- How many pairs a tree has. -/
theorem flat_size {m : Nat} : ∀ (d : Nat) (t : T d), wf m d t → (flat d t).length + 1 ≤ 8 ^ (d + 1) ∧ (m + 1) * 4 ^ d ≤ (flat d t).length + 1
  | 0, t, h => by
    have h1 : m ≤ List.length t := h.1
    have h2 : List.length t ≤ 7 := h.2
    simp only [flat]
    exact ⟨by show List.length t + 1 ≤ 8 ^ 1; omega, by show (m + 1) * 1 ≤ List.length t + 1; omega⟩
  | d + 1, t, h => by
    obtain ⟨h1, h2, h3, h4⟩ := h
    have hlen := ileave_len t.1 (t.2.map (flat d)) (by rw [List.length_map]; exact h3)
    have key : ∀ cs : List (T d), (∀ c ∈ cs, wf 3 d c) → ((cs.map (flat d)).map List.length).sum + cs.length ≤ cs.length * 8 ^ (d + 1) ∧ cs.length * 4 ^ (d + 1) ≤ ((cs.map (flat d)).map List.length).sum + cs.length := by
      intro cs
      induction cs with
      | nil => intro _; simp
      | cons c cs ih =>
        intro hc
        obtain ⟨i1, i2⟩ := ih fun x hx => hc x (by simp [hx])
        obtain ⟨j1, j2⟩ := flat_size d c (hc c (by simp))
        simp only [List.map_cons, List.sum_cons, List.length_cons]
        rw [Nat.add_mul, Nat.add_mul, Nat.one_mul, Nat.one_mul]
        have e : (3 + 1) * 4 ^ d = 4 ^ (d + 1) := by rw [Nat.pow_succ, Nat.mul_comm]
        rw [e] at j2
        omega
    obtain ⟨k1, k2⟩ := key t.2 h4
    simp only [flat]
    rw [hlen]
    have e1 : t.2.length * 8 ^ (d + 1) ≤ 8 ^ (d + 1 + 1) := by
      rw [Nat.pow_succ 8 (d + 1), Nat.mul_comm]; exact Nat.mul_le_mul_left _ (by omega)
    have e2 : (m + 1) * 4 ^ (d + 1) ≤ t.2.length * 4 ^ (d + 1) := Nat.mul_le_mul_right _ (by omega)
    omega
theorem flat_ne {m d : Nat} {t : T d} (h : wf m d t) (hm : 1 ≤ m) : flat d t ≠ [] := by
  have := (flat_size d t h).2
  have h2 : 1 ≤ 4 ^ d := Nat.pow_pos (by decide)
  have h3 : 2 * 1 ≤ (m + 1) * 4 ^ d := Nat.mul_le_mul (by omega) h2
  intro e
  rw [e] at this
  simp at this
  omega
end Go.Proofs.Bt
/- Pairs, and pointers to nodes: inserted, deleted, copied. -/
set_option autoImplicit false
namespace Go.SL
theorem Q_slnil {P : Program} {E : World} {n : Nat} {ρ : Env} {L : List HProp} {dst : Option Tmp} {ty : TypeId} {pos : String} {after : Array Edge} {g : Option (Nat × Bool)} {t t' e : Nat} {x y : Operand} {S : SV} [u : TyU P t (.slice e)] (hx : ρ.ev x = some S.v) (hy : ρ.ev y = some (.slice none 0 0)) : QOp P E n ⟨dst, .binOp .eql t x y t', ty, pos, after, g⟩ ρ L (.bool S.a.isNone) := fun c w ha _ =>
  run_binOp c w ha hx hy (by simp [eqGuard]) (Lib.run_eql_slice_nil w t e S.a S.n S.c 0 0 u.h)
end Go.SL
namespace Go.Proofs.Bt
open Go.SL
abbrev kvV (p : Kv) : List Value := [str p.key, str p.val]
def tKv : Ty Kv := ⟨77, 2, kvV, fun _ => rfl, by decide, fun a v hv => by simp [kvV] at hv; rcases hv with rfl | rfl <;> rfl⟩
instance : TyI Tryz.prog tKv.e 2 (.agg #[.string ⟨#[]⟩, .string ⟨#[]⟩]) 32 := inferInstanceAs (TyI Tryz.prog 77 2 (.agg #[.string ⟨#[]⟩, .string ⟨#[]⟩]) 32)
instance : TyU Tryz.prog 36 (.slice tKv.e) := inferInstanceAs (TyU Tryz.prog 36 (.slice 77))
abbrev ndV : Option Nat → Value
  | none => .pointer none
  | some p => .pointer (some ⟨p, 0, none⟩)
def tNd : Ty (Option Nat) := ⟨78, 1, fun p => [ndV p], fun _ => rfl, by decide, fun a v hv => by simp at hv; subst hv; cases a <;> rfl⟩
instance : TyI Tryz.prog tNd.e 1 (.pointer none) 8 := inferInstanceAs (TyI Tryz.prog 78 1 (.pointer none) 8)
instance : TyU Tryz.prog 79 (.slice tNd.e) := inferInstanceAs (TyU Tryz.prog 79 (.slice 78))
attribute [local irreducible] J JL QOp JOp seqQ blockQ loopQ retQ slc cel hex star pur stars Does RV Ent pAt scopeQ
theorem kvins_ok (E : World) (S T : SV) (l : List Kv) (x : Kv) (at' : Nat) (hat : at' ≤ l.length) (hl : l.length ≤ 100000) :
    Does Tryz.prog E 83 [S.v, .int .i64 (at' : Int), T.v] [slc tKv true S l, slcN tKv T [x]] fun v L => ∃ S' : SV, v = S'.v ∧ L = [slc tKv true S' (l.take at' ++ x :: l.drop at')] := by
  have hov : OvFn Tryz.prog 87 36 := ⟨_, 4, Tryz.func87, by kernel_rfl, by kernel_rfl, by kernel_rfl, by kernel_rfl⟩
  refine Does.of Tryz.func83 rfl Tryz.ntmps83 rfl rfl fun F => ?_
  refine J.norm ?_
  refine J.have (p := S.n = l.length ∧ S.n ≤ S.c ∧ (0 < S.c → ∃ g o, S.a = some ⟨g, o, none⟩) ∧ ∃ b, T = ⟨some ⟨b, 0, none⟩, 1, 1⟩) (fun w hs => ⟨(hs.rd 0 rfl).1, (hs.rd 0 rfl).2.1, hs.slcA 0 rfl, hs.slcT 1 rfl⟩) fun ⟨hSn, hSc, hSa, b, hT⟩ => ?_
  subst hT
  refine J_seq ?_
  refine J_region ?_
  refine L_q (Q_assign rfl) rfl rfl rfl ?_
  refine JL_nil ?_
  refine seqQ_normal ?_
  refine J_seq ?_
  refine J_region ?_
  refine L_q (Q_move rfl) rfl rfl rfl ?_
  refine L_q (Q_move rfl) rfl rfl rfl ?_
  refine L_q (Q_slLc (τ := tKv) at' l.length rfl rfl rfl hSn hat rfl) rfl rfl rfl ?_
  refine JL_nil ?_
  refine seqQ_normal ?_
  refine J_seq ?_
  refine J_region ?_
  refine L_q (Q_move rfl) rfl rfl rfl ?_
  refine L_q ((Q_lenV (S := ⟨some ⟨b, 0, none⟩, 1, 1⟩) rfl).as (v' := .int .i64 1) rfl) rfl rfl rfl ?_
  refine L_q (Q_assign rfl) rfl rfl rfl ?_
  refine JL_nil ?_
  refine seqQ_normal ?_
  refine J_seq ?_
  refine J_seq ?_
  refine J_region ?_
  refine L_q (Q_move rfl) rfl rfl rfl ?_
  refine L_q (Q_eql rfl rfl) rfl rfl rfl ?_
  refine JL_nil ?_
  refine seqQ_normal ?_
  refine J_condF rfl ?_
  refine J_skip ?_
  refine seqQ_normal ?_
  refine J_seq ?_
  refine J_region ?_
  refine L_q (Q_move rfl) rfl rfl rfl ?_
  refine L_q (Q_lenAt 0 rfl rfl) rfl rfl rfl ?_
  refine L_q (Q_assign rfl) rfl rfl rfl ?_
  refine JL_nil ?_
  refine seqQ_normal ?_
  refine J_seq ?_
  refine J_seq ?_
  refine J_region ?_
  refine L_q (Q_move rfl) rfl rfl rfl ?_
  refine L_q (Q_move rfl) rfl rfl rfl ?_
  refine L_q (Q_eql rfl rfl) rfl rfl rfl ?_
  refine JL_nil ?_
  refine seqQ_normal ?_
  refine J_condD rfl (fun h => ?_) (fun h => ?_)
  · obtain rfl : at' = l.length := by omega
    refine J_seq ?_
    refine J_region ?_
    refine L_q (Q_move rfl) rfl rfl rfl ?_
    refine L_q (Q_move rfl) rfl rfl rfl ?_
    refine L_o rfl rfl rfl (O_app (τ := tKv) 0 rfl (fun w h => h.rdN 1 rfl) rfl rfl rfl rfl (by simp only [List.length_singleton]; omega) (by decide) (fun S2 => ?_))
    refine JL.norm ?_
    refine L_q (Q_assign rfl) rfl rfl rfl ?_
    refine JL_nil ?_
    refine seqQ_normal ?_
    refine J_ret ?_
    refine seqQ_ret ?_
    exact retQ_ret _ [slc tKv true S2 (l ++ [x])] (.cons (RV_tmp rfl) .nil) ⟨S2, rfl, by rw [List.take_length, List.drop_length]⟩ (Ent.re [0, 2] rfl)
  have hlt : at' < l.length := by omega
  have hdl : (l.drop at').length = l.length - at' := by simp
  have htl : (l.take at').length = at' := by simp; omega
  refine J_skip ?_
  refine seqQ_normal ?_
  refine J_seq ?_
  refine J_seq ?_
  refine J_region ?_
  refine L_q (Q_move rfl) rfl rfl rfl ?_
  refine L_q (Q_move rfl) rfl rfl rfl ?_
  refine L_q (Q_add rfl rfl (by first | exact IntWalk.i64_in _ (by omega) | exact IntWalk.u8_in _ (by omega) | exact IntWalk.u32_in _ (by omega) | exact IntWalk.u64_in _ (by omega) | rfl)) rfl rfl rfl ?_
  refine L_q (Q_move rfl) rfl rfl rfl ?_
  refine L_q (Q_capV (S := S) rfl) rfl rfl rfl ?_
  refine L_q (Q_gtr rfl rfl) rfl rfl rfl ?_
  refine JL_nil ?_
  refine seqQ_normal ?_
  refine J_condD rfl (fun h => ?_) (fun h => ?_)
  · have hbig : S.c < l.length + 1 := by omega
    refine J_seq ?_
    refine J_region ?_
    refine L_q (Q_move rfl) rfl rfl rfl ?_
    refine L_q (Q_move rfl) rfl rfl rfl ?_
    refine L_q (Q_slHc (τ := tKv) at' rfl rfl rfl (by omega)) rfl rfl rfl ?_
    refine L_q (Q_move rfl) rfl rfl rfl ?_
    refine L_q (Q_move rfl) rfl rfl rfl ?_
    refine L_q (Q_add rfl rfl (by first | exact IntWalk.i64_in _ (by omega) | exact IntWalk.u8_in _ (by omega) | exact IntWalk.u32_in _ (by omega) | exact IntWalk.u64_in _ (by omega) | rfl)) rfl rfl rfl ?_
    refine L_q (Q_move rfl) rfl rfl rfl ?_
    refine L_q (Q_sub rfl rfl (by first | exact IntWalk.i64_in _ (by omega) | exact IntWalk.u8_in _ (by omega) | exact IntWalk.u32_in _ (by omega) | exact IntWalk.u64_in _ (by omega) | rfl)) rfl rfl rfl ?_
    refine L_o rfl rfl rfl (O_appZ (τ := tKv) 0 at' (l.length + 1 - at') (⟨[], []⟩ : Kv) rfl rfl rfl (by omega) rfl rfl hat (by omega) (by omega) (by decide) (fun S2 => ?_))
    refine JL.norm ?_
    refine L_q (Q_assign rfl) rfl rfl rfl ?_
    refine JL_nil ?_
    refine seqQ_normal ?_
    refine J_seq ?_
    refine J.have (p := S2.n = l.length + 1) (fun w hs => by have := (hs.rd 0 rfl).1; rw [this]; simp; omega) fun hS2 => ?_
    obtain ⟨a2, n2, c2⟩ := S2
    simp only at hS2
    subst hS2
    refine J.have (p := l.length + 1 ≤ c2) (fun w hs => (hs.rd 0 rfl).2.1) fun hc2 => ?_
    refine J_region ?_
    refine L_q (Q_move rfl) rfl rfl rfl ?_
    refine L_q (Q_move rfl) rfl rfl rfl ?_
    refine L_q (Q_slLc (τ := tKv) at' (l.length + 1) rfl rfl rfl rfl (by omega) rfl) rfl rfl rfl ?_
    refine L_q (Q_move rfl) rfl rfl rfl ?_
    refine L_o rfl rfl rfl (O_copy (τ := tKv) (T := ⟨some ⟨b, 0, none⟩, 1, 1⟩) (m := [x]) 0 at' (l.length + 1) rfl (fun w h => h.rdN 2 rfl) rfl rfl rfl (by simp; omega) (by simp; omega) (by simp; omega) ?_)
    refine JL.norm ?_
    refine JL_nil ?_
    refine seqQ_normal ?_
    refine J_seq ?_
    have e1 : (l.take at' ++ List.replicate (l.length + 1 - at') (⟨[], []⟩ : Kv)).take at' ++ [x] ++ (l.take at' ++ List.replicate (l.length + 1 - at') (⟨[], []⟩ : Kv)).drop (at' + [x].length) = l.take at' ++ [x] ++ List.replicate (l.length - at') (⟨[], []⟩ : Kv) := by
      rw [List.take_append_of_le_length (by omega), List.take_take, Nat.min_self, List.drop_append, List.drop_eq_nil_of_le (by rw [htl]; simp), htl, List.drop_replicate]
      simp
      omega
    have e2 : max (l.length + 1) (at' + [x].length) = l.length + 1 := by simp; omega
    rw [e1, e2]
    refine J_drawH [] [0, 1, 2, 3, 4, 5, 6, 7] (.quiet 0 (.quiet 1 (.quiet 2 (.quiet 3 (.quiet 4 (.quiet 5 (.quiet 6 (.quiet 7 (.loud 8 .done))))))))) Tryz.mixed (by kernel_rfl) (by kernel_rfl) (by repeat (first | exact retQ_noP | refine seqQ_noP ?_ | refine blockQ_noP ?_ | refine loopQ_noP ?_ | refine scopeQ_noP ?_ | (intro _ _ _ h; cases h.1))) ?_
    refine S_q (Ent.re [] rfl) rfl (Q_move rfl) rfl rfl rfl ?_
    refine S_q (Ent.re [] rfl) rfl (Q_move rfl) rfl rfl rfl ?_
    refine S_q (Ent.re [] rfl) rfl (Q_move rfl) rfl rfl rfl ?_
    refine S_q (Ent.re [] rfl) rfl (Q_add rfl rfl (by first | exact IntWalk.i64_in _ (by omega) | exact IntWalk.u8_in _ (by omega) | exact IntWalk.u32_in _ (by omega) | exact IntWalk.u64_in _ (by omega) | rfl)) rfl rfl rfl ?_
    refine S_q (Ent.re [] rfl) rfl (Q_slLc (τ := tKv) (at' + 1) (l.length + 1) rfl rfl (by omega) rfl (by omega) rfl) rfl rfl rfl ?_
    refine S_q (Ent.re [] rfl) rfl (Q_move rfl) rfl rfl rfl ?_
    refine S_q (Ent.re [] rfl) rfl (Q_move rfl) rfl rfl rfl ?_
    refine S_q (Ent.re [] rfl) rfl (Q_slLc (τ := tKv) at' l.length rfl rfl rfl hSn hat rfl) rfl rfl rfl ?_
    refine S_o rfl rfl rfl rfl (O_copy (τ := tKv) (T := S.sub tKv.sz at' l.length) (m := l.drop at') 0 (at' + 1) (l.length + 1) rfl (fun w h => (h.rd 1 rfl).dropN at' hat) rfl rfl rfl (by rw [hdl]; show min (l.length - at') _ = _; omega) (by simp; omega) (by rw [hdl]; simp only; omega) ⟨[], fun _ => ⟨Ent.re [] rfl, Ent.refl _⟩, ?_⟩)
    refine JS.norm ?_
    refine S_nil ?_
    refine seqQ_normal ?_
    refine J_seq ?_
    have e3 : (l.take at' ++ [x] ++ List.replicate (l.length - at') (⟨[], []⟩ : Kv)).take (at' + 1) ++ l.drop at' ++ (l.take at' ++ [x] ++ List.replicate (l.length - at') (⟨[], []⟩ : Kv)).drop (at' + 1 + (l.drop at').length) = l.take at' ++ x :: l.drop at' := by
      have a1 : (l.take at' ++ [x] ++ List.replicate (l.length - at') (⟨[], []⟩ : Kv)).take (at' + 1) = l.take at' ++ [x] := List.take_left' (by simp; omega)
      have a2 : (l.take at' ++ [x] ++ List.replicate (l.length - at') (⟨[], []⟩ : Kv)).drop (at' + 1 + (l.drop at').length) = [] := List.drop_eq_nil_of_le (by simp; omega)
      rw [a1, a2]
      simp
    have e4 : max (l.length + 1) (at' + 1 + (l.drop at').length) = l.length + 1 := by rw [hdl]; omega
    rw [e3, e4]
    refine J_region ?_
    refine L_q (Q_move rfl) rfl rfl rfl ?_
    refine L_q (Q_assign rfl) rfl rfl rfl ?_
    refine JL_nil ?_
    refine seqQ_normal ?_
    refine J_ret ?_
    refine seqQ_ret ?_
    exact retQ_ret _ [slc tKv true ⟨a2, l.length + 1, c2⟩ (l.take at' ++ x :: l.drop at')] (.cons (RV_tmp rfl) .nil) ⟨_, rfl, rfl⟩ (Ent.re [0, 3] rfl)
  · obtain ⟨g, o, hSA⟩ := hSa (by omega)
    clear hSa
    obtain ⟨aS, nS, cS⟩ := S
    simp only at hSn hSc hSA h
    subst hSn hSA
    have hroom : l.length + 1 ≤ cS := by omega
    refine J_skip ?_
    refine seqQ_normal ?_
    refine J_seq ?_
    refine J_region ?_
    refine L_q (Q_move rfl) rfl rfl rfl ?_
    refine L_q (Q_move rfl) rfl rfl rfl ?_
    refine L_q (Q_move rfl) rfl rfl rfl ?_
    refine L_q (Q_add rfl rfl (by first | exact IntWalk.i64_in _ (by omega) | exact IntWalk.u8_in _ (by omega) | exact IntWalk.u32_in _ (by omega) | exact IntWalk.u64_in _ (by omega) | rfl)) rfl rfl rfl ?_
    refine L_q ((Q_slHc (τ := tKv) (l.length + 1) rfl rfl rfl hroom).as (v' := SV.v ⟨some ⟨g, o, none⟩, l.length + 1, cS⟩) (by simp [SV.sub, addr_add])) rfl rfl rfl ?_
    refine L_q (Q_assign rfl) rfl rfl rfl ?_
    refine JL_nil ?_
    refine seqQ_normal ?_
    refine J_seq ?_
    refine J_seq ?_
    refine J_region ?_
    refine L_q (Q_move rfl) rfl rfl rfl ?_
    refine L_q (Q_move rfl) rfl rfl rfl ?_
    refine L_q (Q_move rfl) rfl rfl rfl ?_
    refine L_q (Q_move rfl) rfl rfl rfl ?_
    refine L_q (Q_add rfl rfl (by first | exact IntWalk.i64_in _ (by omega) | exact IntWalk.u8_in _ (by omega) | exact IntWalk.u32_in _ (by omega) | exact IntWalk.u64_in _ (by omega) | rfl)) rfl rfl rfl ?_
    refine L_q (Q_slLc (τ := tKv) (S := ⟨some ⟨g, o, none⟩, l.length + 1, cS⟩) (at' + 1) (l.length + 1) rfl rfl (by omega) rfl (by omega) rfl) rfl rfl rfl ?_
    refine L_o rfl rfl rfl (O_overlaps (τ := tKv) (S := ⟨some ⟨g, o, none⟩, l.length, cS⟩) (T := ⟨some ⟨b, 0, none⟩, 1, 1⟩) 1 0 (at' + 1) (l.length + 1) hov (by decide) rfl rfl rfl rfl rfl (by simp) (by simp only; omega) ?_)
    refine JL.norm ?_
    refine L_q (Q_not rfl) rfl rfl rfl ?_
    refine JL_nil ?_
    refine seqQ_normal ?_
    refine J_condT rfl ?_
    refine J_seq ?_
    refine J_drawH [] [0, 1, 2, 3, 4, 5, 6, 7] (.quiet 0 (.quiet 1 (.quiet 2 (.quiet 3 (.quiet 4 (.quiet 5 (.quiet 6 (.quiet 7 (.loud 8 .done))))))))) Tryz.mixed (by kernel_rfl) (by kernel_rfl) (by repeat (first | exact retQ_noP | refine seqQ_noP ?_ | refine blockQ_noP ?_ | refine loopQ_noP ?_ | refine scopeQ_noP ?_ | (intro _ _ _ h; cases h.1))) ?_
    refine S_q (Ent.re [] rfl) rfl (Q_move rfl) rfl rfl rfl ?_
    refine S_q (Ent.re [] rfl) rfl (Q_move rfl) rfl rfl rfl ?_
    refine S_q (Ent.re [] rfl) rfl (Q_move rfl) rfl rfl rfl ?_
    refine S_q (Ent.re [] rfl) rfl (Q_add rfl rfl (by first | exact IntWalk.i64_in _ (by omega) | exact IntWalk.u8_in _ (by omega) | exact IntWalk.u32_in _ (by omega) | exact IntWalk.u64_in _ (by omega) | rfl)) rfl rfl rfl ?_
    refine S_q (Ent.re [] rfl) rfl (Q_slLc (τ := tKv) (S := ⟨some ⟨g, o, none⟩, l.length + 1, cS⟩) (at' + 1) (l.length + 1) rfl rfl (by omega) rfl (by omega) rfl) rfl rfl rfl ?_
    refine S_q (Ent.re [] rfl) rfl (Q_move rfl) rfl rfl rfl ?_
    refine S_q (Ent.re [] rfl) rfl (Q_move rfl) rfl rfl rfl ?_
    refine S_q (Ent.re [] rfl) rfl (Q_slLc (τ := tKv) (S := ⟨some ⟨g, o, none⟩, l.length + 1, cS⟩) at' (l.length + 1) rfl rfl rfl rfl (by omega) rfl) rfl rfl rfl ?_
    refine S_o rfl rfl rfl rfl (O_copy (τ := tKv) (D := ⟨some ⟨g, o, none⟩, l.length, cS⟩) (T := SV.sub ⟨some ⟨g, o, none⟩, l.length + 1, cS⟩ tKv.sz at' (l.length + 1)) (m := l.drop at') 0 (at' + 1) (l.length + 1) rfl (fun w h => (h.rd 0 rfl).dropN at' hat) rfl rfl rfl (by rw [hdl]; show min (l.length + 1 - at') _ = _; omega) (by omega) (by rw [hdl]; simp only; omega) ⟨[], fun _ => ⟨Ent.re [] rfl, Ent.refl _⟩, ?_⟩)
    refine JS.norm ?_
    refine S_nil ?_
    refine seqQ_normal ?_
    refine J_seq ?_
    have e3 : l.take (at' + 1) ++ l.drop at' ++ l.drop (at' + 1 + (l.drop at').length) = l.take (at' + 1) ++ l.drop at' := by
      have a3 : l.drop (at' + 1 + (l.drop at').length) = [] := List.drop_eq_nil_of_le (by rw [hdl]; omega)
      rw [a3, List.append_nil]
    have e4 : max l.length (at' + 1 + (l.drop at').length) = l.length + 1 := by rw [hdl]; omega
    simp only [e3, e4]
    refine J_region ?_
    refine L_q (Q_move rfl) rfl rfl rfl ?_
    refine L_q (Q_move rfl) rfl rfl rfl ?_
    refine L_q (Q_slLc (τ := tKv) (S := ⟨some ⟨g, o, none⟩, l.length + 1, cS⟩) at' (l.length + 1) rfl rfl rfl rfl (by omega) rfl) rfl rfl rfl ?_
    refine L_q (Q_move rfl) rfl rfl rfl ?_
    refine L_o rfl rfl rfl (O_copy (τ := tKv) (T := ⟨some ⟨b, 0, none⟩, 1, 1⟩) (m := [x]) 0 at' (l.length + 1) rfl (fun w h => h.rdN 1 rfl) rfl rfl rfl (by simp; omega) (by simp; omega) (by simp; omega) ?_)
    refine JL.norm ?_
    refine JL_nil ?_
    refine seqQ_normal ?_
    refine J_seq ?_
    have e5 : (l.take (at' + 1) ++ l.drop at').take at' ++ [x] ++ (l.take (at' + 1) ++ l.drop at').drop (at' + [x].length) = l.take at' ++ x :: l.drop at' := by
      rw [List.take_append_of_le_length (by simp; omega), List.take_take, Nat.min_eq_left (by omega), List.drop_left' (by simp; omega)]
      simp
    have e6 : max (l.length + 1) (at' + [x].length) = l.length + 1 := by simp; omega
    simp only [e5, e6]
    refine J_region ?_
    refine L_q (Q_move rfl) rfl rfl rfl ?_
    refine L_q (Q_assign rfl) rfl rfl rfl ?_
    refine JL_nil ?_
    refine seqQ_normal ?_
    refine J_ret ?_
    refine seqQ_ret ?_
    exact retQ_ret _ [slc tKv true ⟨some ⟨g, o, none⟩, l.length + 1, cS⟩ (l.take at' ++ x :: l.drop at')] (.cons (RV_tmp rfl) .nil) ⟨_, rfl, rfl⟩ (Ent.re [0, 2] rfl)
theorem kvdel_ok (E : World) (S : SV) (l : List Kv) (i j : Nat) (hij : i ≤ j) (hj : j ≤ l.length) (hl : l.length ≤ 100000) :
    Does Tryz.prog E 117 [S.v, .int .i64 (i : Int), .int .i64 (j : Int)] [slc tKv true S l] fun v L => ∃ S' : SV, v = S'.v ∧ L = [slc tKv true S' (l.take i ++ l.drop j)] := by
  refine Does.of Tryz.func117 rfl Tryz.ntmps117 rfl rfl fun F => ?_
  refine J.norm ?_
  refine J.have (p := S.n = l.length ∧ S.n ≤ S.c) (fun w hs => ⟨(hs.rd 0 rfl).1, (hs.rd 0 rfl).2.1⟩) fun hS => ?_
  refine J_seq ?_
  refine J_region ?_
  refine L_q (Q_assign rfl) rfl rfl rfl ?_
  refine JL_nil ?_
  refine seqQ_normal ?_
  refine J_seq ?_
  refine J_region ?_
  refine L_q (Q_move rfl) rfl rfl rfl ?_
  refine L_q (Q_move rfl) rfl rfl rfl ?_
  refine L_q (Q_move rfl) rfl rfl rfl ?_
  refine L_q (Q_move rfl) rfl rfl rfl ?_
  refine L_q (Q_lenAt 0 rfl rfl) rfl rfl rfl ?_
  refine L_q (Q_sl3 (τ := tKv) i j l.length rfl rfl rfl rfl rfl rfl rfl hij hj (by omega) rfl) rfl rfl rfl ?_
  refine JL_nil ?_
  refine seqQ_normal ?_
  refine J_seq ?_
  refine J_seq ?_
  refine J_region ?_
  refine L_q (Q_move rfl) rfl rfl rfl ?_
  refine L_q (Q_move rfl) rfl rfl rfl ?_
  refine L_q (Q_eql rfl rfl) rfl rfl rfl ?_
  refine JL_nil ?_
  refine seqQ_normal ?_
  refine J_condD rfl (fun h => ?_) (fun h => ?_)
  · obtain rfl : i = j := by omega
    refine J_seq ?_
    refine J_region ?_
    refine L_q (Q_move rfl) rfl rfl rfl ?_
    refine L_q (Q_assign rfl) rfl rfl rfl ?_
    refine JL_nil ?_
    refine seqQ_normal ?_
    refine J_ret ?_
    refine seqQ_ret ?_
    exact retQ_ret _ [slc tKv true S l] (.cons (RV_tmp rfl) .nil) ⟨S, rfl, by rw [List.take_append_drop]⟩ (Ent.refl _)
  · have hm : (l.take l.length).drop j = l.drop j := by rw [List.take_length]
    have hlen : (l.take i ++ l.drop j).length = i + (l.length - j) := by simp; omega
    refine J_skip ?_
    refine seqQ_normal ?_
    refine J_seq ?_
    refine J_region ?_
    refine L_q (Q_move rfl) rfl rfl rfl ?_
    refine L_q (Q_lenAt 0 rfl rfl) rfl rfl rfl ?_
    refine L_q (Q_assign rfl) rfl rfl rfl ?_
    refine JL_nil ?_
    refine seqQ_normal ?_
    refine J_seq ?_
    refine J_drawH [] [0, 1, 2, 3, 4, 5, 7] (.quiet 0 (.quiet 1 (.quiet 2 (.quiet 3 (.quiet 4 (.quiet 5 (.loud 6 (.quiet 7 .done)))))))) Tryz.mixed (by kernel_rfl) (by kernel_rfl) (by repeat (first | exact retQ_noP | refine seqQ_noP ?_ | refine blockQ_noP ?_ | refine loopQ_noP ?_ | refine scopeQ_noP ?_ | (intro _ _ _ h; cases h.1))) ?_
    refine S_q (Ent.re [] rfl) rfl (Q_move rfl) rfl rfl rfl ?_
    refine S_q (Ent.re [] rfl) rfl (Q_move rfl) rfl rfl rfl ?_
    refine S_q (Ent.re [] rfl) rfl (Q_slHc (τ := tKv) i rfl rfl rfl (by omega)) rfl rfl rfl ?_
    refine S_q (Ent.re [] rfl) rfl (Q_move rfl) rfl rfl rfl ?_
    refine S_q (Ent.re [] rfl) rfl (Q_move rfl) rfl rfl rfl ?_
    refine S_q (Ent.re [] rfl) rfl (Q_slLc (τ := tKv) j l.length rfl rfl rfl hS.1 hj rfl) rfl rfl rfl ?_
    refine S_o rfl rfl rfl rfl (O_appIn (τ := tKv) 0 i rfl (fun w h => (h.rd 0 rfl).sub j l.length hj (Nat.le_refl _)) rfl rfl rfl (by omega) (by simp; omega) ⟨[], fun _ => ⟨Ent.re [] rfl, Ent.refl _⟩, ?_⟩)
    refine JS.norm ?_
    refine S_q (Ent.re [] rfl) rfl (Q_assign rfl) rfl rfl rfl ?_
    refine S_nil ?_
    refine seqQ_normal ?_
    refine J_seq ?_
    rw [hm]
    have hS' : (⟨(S.sub tKv.sz 0 i).a, i + (l.drop j).length, S.c⟩ : SV).c = S.c := rfl
    generalize (⟨(S.sub tKv.sz 0 i).a, i + (l.drop j).length, S.c⟩ : SV) = T at hS' ⊢
    refine J_region ?_
    refine L_q (Q_move rfl) rfl rfl rfl ?_
    refine L_q (Q_move rfl) rfl rfl rfl ?_
    refine L_q (Q_lenAt 0 rfl rfl) rfl rfl rfl ?_
    refine L_q (Q_move rfl) rfl rfl rfl ?_
    refine L_q (Q_slLHc (τ := tKv) (i + (l.length - j)) l.length rfl rfl rfl (by rw [hlen]) rfl (by omega) (by omega) rfl) rfl rfl rfl ?_
    refine L_s rfl rfl (O_clear (τ := tKv) 0 (i + (l.length - j)) l.length rfl rfl rfl rfl (by simp [Value.cells, Value.oneCell']) (by omega) (by omega) (by omega) ?_)
    refine JL.norm ?_
    refine JL_nil ?_
    refine seqQ_normal ?_
    refine J_seq ?_
    refine J_region ?_
    refine L_q (Q_move rfl) rfl rfl rfl ?_
    refine L_q (Q_assign rfl) rfl rfl rfl ?_
    refine JL_nil ?_
    refine seqQ_normal ?_
    refine J_ret ?_
    exact retQ_ret _ [slc tKv true T (l.take i ++ l.drop j)] (.cons (RV_tmp rfl) .nil) ⟨T, rfl, rfl⟩ (Ent.refl _)
theorem kvclone_ok (E : World) (S : SV) (l : List Kv) (hl : l.length ≤ 100000000) : Does Tryz.prog E 81 [S.v] [slc tKv true S l] fun v L => ∃ T : SV, v = T.v ∧ L = [slc tKv true S l, slc tKv true T l] := by
  refine Does.of Tryz.func81 rfl Tryz.ntmps81 rfl rfl fun F => ?_
  refine J.norm ?_
  refine J.have (p := S.n = l.length ∧ S.n ≤ S.c ∧ (0 < S.c → ∃ g o, S.a = some ⟨g, o, none⟩)) (fun w hs => ⟨(hs.rd 0 rfl).1, (hs.rd 0 rfl).2.1, hs.slcA 0 rfl⟩) fun ⟨hn, hc, ha⟩ => ?_
  refine J_seq ?_
  refine J_region ?_
  refine L_q (Q_assign rfl) rfl rfl rfl ?_
  refine JL_nil ?_
  refine seqQ_normal ?_
  refine J_seq ?_
  refine J_seq ?_
  cases h : S.a with
  | none =>
    have h0 : l = [] := List.eq_nil_of_length_eq_zero (by
      rcases Nat.eq_zero_or_pos S.c with h0 | h0
      · omega
      · obtain ⟨g, o, e⟩ := ha h0; rw [h] at e; cases e)
    subst h0
    refine J_region ?_
    refine L_q (Q_move rfl) rfl rfl rfl ?_
    refine L_q ((Q_slnil (S := S) rfl rfl).as (v' := .bool true) (by rw [h]; rfl)) rfl rfl rfl ?_
    refine JL_nil ?_
    refine seqQ_normal ?_
    refine J_condT rfl ?_
    refine J_seq ?_
    refine J_region ?_
    refine L_q (Q_assign rfl) rfl rfl rfl ?_
    refine JL_nil ?_
    refine seqQ_normal ?_
    refine J_ret ?_
    refine seqQ_ret ?_
    refine retQ_ret _ [slc tKv true S [], slc tKv true SV.nil []] (.cons (RV_tmp rfl) .nil) ⟨SV.nil, rfl, rfl⟩ ?_
    exact (Ent.mk fun _ _ h => (h.lay_nil tKv true : Sat _ _ (slc tKv true SV.nil [] :: _))).trans (Ent.re [1, 0, 2] rfl)
  | some a =>
    refine J_region ?_
    refine L_q (Q_move rfl) rfl rfl rfl ?_
    refine L_q ((Q_slnil (S := S) rfl rfl).as (v' := .bool false) (by rw [h]; rfl)) rfl rfl rfl ?_
    refine JL_nil ?_
    refine seqQ_normal ?_
    refine J_condF rfl ?_
    refine J_skip ?_
    refine seqQ_normal ?_
    refine J_seq ?_
    refine J_region ?_
    refine L_o rfl rfl rfl (O_litP (τ := tKv) (m := 0) (sz := 2) [] rfl rfl rfl rfl rfl rfl (by decide) (fun U => ?_))
    refine JL.norm ?_
    refine L_q (Q_move rfl) rfl rfl rfl ?_
    refine L_o rfl rfl rfl (O_app (τ := tKv) 0 rfl (fun w h => h.rd 1 rfl) rfl rfl rfl rfl (by simp; omega) (by decide) (fun T => ?_))
    refine JL.norm ?_
    refine L_q (Q_assign rfl) rfl rfl rfl ?_
    refine JL_nil ?_
    refine seqQ_normal ?_
    refine J_ret ?_
    exact retQ_ret _ [slc tKv true S l, slc tKv true T l] (.cons (RV_tmp rfl) .nil) ⟨T, rfl, rfl⟩ (Ent.re [1, 0, 2] rfl)
theorem ndins_ok (E : World) (S T : SV) (l : List (Option Nat)) (x : Option Nat) (at' : Nat) (hat : at' ≤ l.length) (hl : l.length ≤ 100000) :
    Does Tryz.prog E 84 [S.v, .int .i64 (at' : Int), T.v] [slc tNd true S l, slcN tNd T [x]] fun v L => ∃ S' : SV, v = S'.v ∧ L = [slc tNd true S' (l.take at' ++ x :: l.drop at')] := by
  have hov : OvFn Tryz.prog 89 79 := ⟨_, 4, Tryz.func89, by kernel_rfl, by kernel_rfl, by kernel_rfl, by kernel_rfl⟩
  refine Does.of Tryz.func84 rfl Tryz.ntmps84 rfl rfl fun F => ?_
  refine J.norm ?_
  refine J.have (p := S.n = l.length ∧ S.n ≤ S.c ∧ (0 < S.c → ∃ g o, S.a = some ⟨g, o, none⟩) ∧ ∃ b, T = ⟨some ⟨b, 0, none⟩, 1, 1⟩) (fun w hs => ⟨(hs.rd 0 rfl).1, (hs.rd 0 rfl).2.1, hs.slcA 0 rfl, hs.slcT 1 rfl⟩) fun ⟨hSn, hSc, hSa, b, hT⟩ => ?_
  subst hT
  refine J_seq ?_
  refine J_region ?_
  refine L_q (Q_assign rfl) rfl rfl rfl ?_
  refine JL_nil ?_
  refine seqQ_normal ?_
  refine J_seq ?_
  refine J_region ?_
  refine L_q (Q_move rfl) rfl rfl rfl ?_
  refine L_q (Q_move rfl) rfl rfl rfl ?_
  refine L_q (Q_slLc (τ := tNd) at' l.length rfl rfl rfl hSn hat rfl) rfl rfl rfl ?_
  refine JL_nil ?_
  refine seqQ_normal ?_
  refine J_seq ?_
  refine J_region ?_
  refine L_q (Q_move rfl) rfl rfl rfl ?_
  refine L_q ((Q_lenV (S := ⟨some ⟨b, 0, none⟩, 1, 1⟩) rfl).as (v' := .int .i64 1) rfl) rfl rfl rfl ?_
  refine L_q (Q_assign rfl) rfl rfl rfl ?_
  refine JL_nil ?_
  refine seqQ_normal ?_
  refine J_seq ?_
  refine J_seq ?_
  refine J_region ?_
  refine L_q (Q_move rfl) rfl rfl rfl ?_
  refine L_q (Q_eql rfl rfl) rfl rfl rfl ?_
  refine JL_nil ?_
  refine seqQ_normal ?_
  refine J_condF rfl ?_
  refine J_skip ?_
  refine seqQ_normal ?_
  refine J_seq ?_
  refine J_region ?_
  refine L_q (Q_move rfl) rfl rfl rfl ?_
  refine L_q (Q_lenAt 0 rfl rfl) rfl rfl rfl ?_
  refine L_q (Q_assign rfl) rfl rfl rfl ?_
  refine JL_nil ?_
  refine seqQ_normal ?_
  refine J_seq ?_
  refine J_seq ?_
  refine J_region ?_
  refine L_q (Q_move rfl) rfl rfl rfl ?_
  refine L_q (Q_move rfl) rfl rfl rfl ?_
  refine L_q (Q_eql rfl rfl) rfl rfl rfl ?_
  refine JL_nil ?_
  refine seqQ_normal ?_
  refine J_condD rfl (fun h => ?_) (fun h => ?_)
  · obtain rfl : at' = l.length := by omega
    refine J_seq ?_
    refine J_region ?_
    refine L_q (Q_move rfl) rfl rfl rfl ?_
    refine L_q (Q_move rfl) rfl rfl rfl ?_
    refine L_o rfl rfl rfl (O_app (τ := tNd) 0 rfl (fun w h => h.rdN 1 rfl) rfl rfl rfl rfl (by simp only [List.length_singleton]; omega) (by decide) (fun S2 => ?_))
    refine JL.norm ?_
    refine L_q (Q_assign rfl) rfl rfl rfl ?_
    refine JL_nil ?_
    refine seqQ_normal ?_
    refine J_ret ?_
    refine seqQ_ret ?_
    exact retQ_ret _ [slc tNd true S2 (l ++ [x])] (.cons (RV_tmp rfl) .nil) ⟨S2, rfl, by rw [List.take_length, List.drop_length]⟩ (Ent.re [0, 2] rfl)
  have hlt : at' < l.length := by omega
  have hdl : (l.drop at').length = l.length - at' := by simp
  have htl : (l.take at').length = at' := by simp; omega
  refine J_skip ?_
  refine seqQ_normal ?_
  refine J_seq ?_
  refine J_seq ?_
  refine J_region ?_
  refine L_q (Q_move rfl) rfl rfl rfl ?_
  refine L_q (Q_move rfl) rfl rfl rfl ?_
  refine L_q (Q_add rfl rfl (by first | exact IntWalk.i64_in _ (by omega) | exact IntWalk.u8_in _ (by omega) | exact IntWalk.u32_in _ (by omega) | exact IntWalk.u64_in _ (by omega) | rfl)) rfl rfl rfl ?_
  refine L_q (Q_move rfl) rfl rfl rfl ?_
  refine L_q (Q_capV (S := S) rfl) rfl rfl rfl ?_
  refine L_q (Q_gtr rfl rfl) rfl rfl rfl ?_
  refine JL_nil ?_
  refine seqQ_normal ?_
  refine J_condD rfl (fun h => ?_) (fun h => ?_)
  · have hbig : S.c < l.length + 1 := by omega
    refine J_seq ?_
    refine J_region ?_
    refine L_q (Q_move rfl) rfl rfl rfl ?_
    refine L_q (Q_move rfl) rfl rfl rfl ?_
    refine L_q (Q_slHc (τ := tNd) at' rfl rfl rfl (by omega)) rfl rfl rfl ?_
    refine L_q (Q_move rfl) rfl rfl rfl ?_
    refine L_q (Q_move rfl) rfl rfl rfl ?_
    refine L_q (Q_add rfl rfl (by first | exact IntWalk.i64_in _ (by omega) | exact IntWalk.u8_in _ (by omega) | exact IntWalk.u32_in _ (by omega) | exact IntWalk.u64_in _ (by omega) | rfl)) rfl rfl rfl ?_
    refine L_q (Q_move rfl) rfl rfl rfl ?_
    refine L_q (Q_sub rfl rfl (by first | exact IntWalk.i64_in _ (by omega) | exact IntWalk.u8_in _ (by omega) | exact IntWalk.u32_in _ (by omega) | exact IntWalk.u64_in _ (by omega) | rfl)) rfl rfl rfl ?_
    refine L_o rfl rfl rfl (O_appZ (τ := tNd) 0 at' (l.length + 1 - at') (none : Option Nat) rfl rfl rfl (by omega) rfl rfl hat (by omega) (by omega) (by decide) (fun S2 => ?_))
    refine JL.norm ?_
    refine L_q (Q_assign rfl) rfl rfl rfl ?_
    refine JL_nil ?_
    refine seqQ_normal ?_
    refine J_seq ?_
    refine J.have (p := S2.n = l.length + 1) (fun w hs => by have := (hs.rd 0 rfl).1; rw [this]; simp; omega) fun hS2 => ?_
    obtain ⟨a2, n2, c2⟩ := S2
    simp only at hS2
    subst hS2
    refine J.have (p := l.length + 1 ≤ c2) (fun w hs => (hs.rd 0 rfl).2.1) fun hc2 => ?_
    refine J_region ?_
    refine L_q (Q_move rfl) rfl rfl rfl ?_
    refine L_q (Q_move rfl) rfl rfl rfl ?_
    refine L_q (Q_slLc (τ := tNd) at' (l.length + 1) rfl rfl rfl rfl (by omega) rfl) rfl rfl rfl ?_
    refine L_q (Q_move rfl) rfl rfl rfl ?_
    refine L_o rfl rfl rfl (O_copy (τ := tNd) (T := ⟨some ⟨b, 0, none⟩, 1, 1⟩) (m := [x]) 0 at' (l.length + 1) rfl (fun w h => h.rdN 2 rfl) rfl rfl rfl (by simp; omega) (by simp; omega) (by simp; omega) ?_)
    refine JL.norm ?_
    refine JL_nil ?_
    refine seqQ_normal ?_
    refine J_seq ?_
    have e1 : (l.take at' ++ List.replicate (l.length + 1 - at') (none : Option Nat)).take at' ++ [x] ++ (l.take at' ++ List.replicate (l.length + 1 - at') (none : Option Nat)).drop (at' + [x].length) = l.take at' ++ [x] ++ List.replicate (l.length - at') (none : Option Nat) := by
      rw [List.take_append_of_le_length (by omega), List.take_take, Nat.min_self, List.drop_append, List.drop_eq_nil_of_le (by rw [htl]; simp), htl, List.drop_replicate]
      simp
      omega
    have e2 : max (l.length + 1) (at' + [x].length) = l.length + 1 := by simp; omega
    rw [e1, e2]
    refine J_drawH [] [0, 1, 2, 3, 4, 5, 6, 7] (.quiet 0 (.quiet 1 (.quiet 2 (.quiet 3 (.quiet 4 (.quiet 5 (.quiet 6 (.quiet 7 (.loud 8 .done))))))))) Tryz.mixed (by kernel_rfl) (by kernel_rfl) (by repeat (first | exact retQ_noP | refine seqQ_noP ?_ | refine blockQ_noP ?_ | refine loopQ_noP ?_ | refine scopeQ_noP ?_ | (intro _ _ _ h; cases h.1))) ?_
    refine S_q (Ent.re [] rfl) rfl (Q_move rfl) rfl rfl rfl ?_
    refine S_q (Ent.re [] rfl) rfl (Q_move rfl) rfl rfl rfl ?_
    refine S_q (Ent.re [] rfl) rfl (Q_move rfl) rfl rfl rfl ?_
    refine S_q (Ent.re [] rfl) rfl (Q_add rfl rfl (by first | exact IntWalk.i64_in _ (by omega) | exact IntWalk.u8_in _ (by omega) | exact IntWalk.u32_in _ (by omega) | exact IntWalk.u64_in _ (by omega) | rfl)) rfl rfl rfl ?_
    refine S_q (Ent.re [] rfl) rfl (Q_slLc (τ := tNd) (at' + 1) (l.length + 1) rfl rfl (by omega) rfl (by omega) rfl) rfl rfl rfl ?_
    refine S_q (Ent.re [] rfl) rfl (Q_move rfl) rfl rfl rfl ?_
    refine S_q (Ent.re [] rfl) rfl (Q_move rfl) rfl rfl rfl ?_
    refine S_q (Ent.re [] rfl) rfl (Q_slLc (τ := tNd) at' l.length rfl rfl rfl hSn hat rfl) rfl rfl rfl ?_
    refine S_o rfl rfl rfl rfl (O_copy (τ := tNd) (T := S.sub tNd.sz at' l.length) (m := l.drop at') 0 (at' + 1) (l.length + 1) rfl (fun w h => (h.rd 1 rfl).dropN at' hat) rfl rfl rfl (by rw [hdl]; show min (l.length - at') _ = _; omega) (by simp; omega) (by rw [hdl]; simp only; omega) ⟨[], fun _ => ⟨Ent.re [] rfl, Ent.refl _⟩, ?_⟩)
    refine JS.norm ?_
    refine S_nil ?_
    refine seqQ_normal ?_
    refine J_seq ?_
    have e3 : (l.take at' ++ [x] ++ List.replicate (l.length - at') (none : Option Nat)).take (at' + 1) ++ l.drop at' ++ (l.take at' ++ [x] ++ List.replicate (l.length - at') (none : Option Nat)).drop (at' + 1 + (l.drop at').length) = l.take at' ++ x :: l.drop at' := by
      have a1 : (l.take at' ++ [x] ++ List.replicate (l.length - at') (none : Option Nat)).take (at' + 1) = l.take at' ++ [x] := List.take_left' (by simp; omega)
      have a2 : (l.take at' ++ [x] ++ List.replicate (l.length - at') (none : Option Nat)).drop (at' + 1 + (l.drop at').length) = [] := List.drop_eq_nil_of_le (by simp; omega)
      rw [a1, a2]
      simp
    have e4 : max (l.length + 1) (at' + 1 + (l.drop at').length) = l.length + 1 := by rw [hdl]; omega
    rw [e3, e4]
    refine J_region ?_
    refine L_q (Q_move rfl) rfl rfl rfl ?_
    refine L_q (Q_assign rfl) rfl rfl rfl ?_
    refine JL_nil ?_
    refine seqQ_normal ?_
    refine J_ret ?_
    refine seqQ_ret ?_
    exact retQ_ret _ [slc tNd true ⟨a2, l.length + 1, c2⟩ (l.take at' ++ x :: l.drop at')] (.cons (RV_tmp rfl) .nil) ⟨_, rfl, rfl⟩ (Ent.re [0, 3] rfl)
  · obtain ⟨g, o, hSA⟩ := hSa (by omega)
    clear hSa
    obtain ⟨aS, nS, cS⟩ := S
    simp only at hSn hSc hSA h
    subst hSn hSA
    have hroom : l.length + 1 ≤ cS := by omega
    refine J_skip ?_
    refine seqQ_normal ?_
    refine J_seq ?_
    refine J_region ?_
    refine L_q (Q_move rfl) rfl rfl rfl ?_
    refine L_q (Q_move rfl) rfl rfl rfl ?_
    refine L_q (Q_move rfl) rfl rfl rfl ?_
    refine L_q (Q_add rfl rfl (by first | exact IntWalk.i64_in _ (by omega) | exact IntWalk.u8_in _ (by omega) | exact IntWalk.u32_in _ (by omega) | exact IntWalk.u64_in _ (by omega) | rfl)) rfl rfl rfl ?_
    refine L_q ((Q_slHc (τ := tNd) (l.length + 1) rfl rfl rfl hroom).as (v' := SV.v ⟨some ⟨g, o, none⟩, l.length + 1, cS⟩) (by simp [SV.sub, addr_add])) rfl rfl rfl ?_
    refine L_q (Q_assign rfl) rfl rfl rfl ?_
    refine JL_nil ?_
    refine seqQ_normal ?_
    refine J_seq ?_
    refine J_seq ?_
    refine J_region ?_
    refine L_q (Q_move rfl) rfl rfl rfl ?_
    refine L_q (Q_move rfl) rfl rfl rfl ?_
    refine L_q (Q_move rfl) rfl rfl rfl ?_
    refine L_q (Q_move rfl) rfl rfl rfl ?_
    refine L_q (Q_add rfl rfl (by first | exact IntWalk.i64_in _ (by omega) | exact IntWalk.u8_in _ (by omega) | exact IntWalk.u32_in _ (by omega) | exact IntWalk.u64_in _ (by omega) | rfl)) rfl rfl rfl ?_
    refine L_q (Q_slLc (τ := tNd) (S := ⟨some ⟨g, o, none⟩, l.length + 1, cS⟩) (at' + 1) (l.length + 1) rfl rfl (by omega) rfl (by omega) rfl) rfl rfl rfl ?_
    refine L_o rfl rfl rfl (O_overlaps (τ := tNd) (S := ⟨some ⟨g, o, none⟩, l.length, cS⟩) (T := ⟨some ⟨b, 0, none⟩, 1, 1⟩) 1 0 (at' + 1) (l.length + 1) hov (by decide) rfl rfl rfl rfl rfl (by simp) (by simp only; omega) ?_)
    refine JL.norm ?_
    refine L_q (Q_not rfl) rfl rfl rfl ?_
    refine JL_nil ?_
    refine seqQ_normal ?_
    refine J_condT rfl ?_
    refine J_seq ?_
    refine J_drawH [] [0, 1, 2, 3, 4, 5, 6, 7] (.quiet 0 (.quiet 1 (.quiet 2 (.quiet 3 (.quiet 4 (.quiet 5 (.quiet 6 (.quiet 7 (.loud 8 .done))))))))) Tryz.mixed (by kernel_rfl) (by kernel_rfl) (by repeat (first | exact retQ_noP | refine seqQ_noP ?_ | refine blockQ_noP ?_ | refine loopQ_noP ?_ | refine scopeQ_noP ?_ | (intro _ _ _ h; cases h.1))) ?_
    refine S_q (Ent.re [] rfl) rfl (Q_move rfl) rfl rfl rfl ?_
    refine S_q (Ent.re [] rfl) rfl (Q_move rfl) rfl rfl rfl ?_
    refine S_q (Ent.re [] rfl) rfl (Q_move rfl) rfl rfl rfl ?_
    refine S_q (Ent.re [] rfl) rfl (Q_add rfl rfl (by first | exact IntWalk.i64_in _ (by omega) | exact IntWalk.u8_in _ (by omega) | exact IntWalk.u32_in _ (by omega) | exact IntWalk.u64_in _ (by omega) | rfl)) rfl rfl rfl ?_
    refine S_q (Ent.re [] rfl) rfl (Q_slLc (τ := tNd) (S := ⟨some ⟨g, o, none⟩, l.length + 1, cS⟩) (at' + 1) (l.length + 1) rfl rfl (by omega) rfl (by omega) rfl) rfl rfl rfl ?_
    refine S_q (Ent.re [] rfl) rfl (Q_move rfl) rfl rfl rfl ?_
    refine S_q (Ent.re [] rfl) rfl (Q_move rfl) rfl rfl rfl ?_
    refine S_q (Ent.re [] rfl) rfl (Q_slLc (τ := tNd) (S := ⟨some ⟨g, o, none⟩, l.length + 1, cS⟩) at' (l.length + 1) rfl rfl rfl rfl (by omega) rfl) rfl rfl rfl ?_
    refine S_o rfl rfl rfl rfl (O_copy (τ := tNd) (D := ⟨some ⟨g, o, none⟩, l.length, cS⟩) (T := SV.sub ⟨some ⟨g, o, none⟩, l.length + 1, cS⟩ tNd.sz at' (l.length + 1)) (m := l.drop at') 0 (at' + 1) (l.length + 1) rfl (fun w h => (h.rd 0 rfl).dropN at' hat) rfl rfl rfl (by rw [hdl]; show min (l.length + 1 - at') _ = _; omega) (by omega) (by rw [hdl]; simp only; omega) ⟨[], fun _ => ⟨Ent.re [] rfl, Ent.refl _⟩, ?_⟩)
    refine JS.norm ?_
    refine S_nil ?_
    refine seqQ_normal ?_
    refine J_seq ?_
    have e3 : l.take (at' + 1) ++ l.drop at' ++ l.drop (at' + 1 + (l.drop at').length) = l.take (at' + 1) ++ l.drop at' := by
      have a3 : l.drop (at' + 1 + (l.drop at').length) = [] := List.drop_eq_nil_of_le (by rw [hdl]; omega)
      rw [a3, List.append_nil]
    have e4 : max l.length (at' + 1 + (l.drop at').length) = l.length + 1 := by rw [hdl]; omega
    simp only [e3, e4]
    refine J_region ?_
    refine L_q (Q_move rfl) rfl rfl rfl ?_
    refine L_q (Q_move rfl) rfl rfl rfl ?_
    refine L_q (Q_slLc (τ := tNd) (S := ⟨some ⟨g, o, none⟩, l.length + 1, cS⟩) at' (l.length + 1) rfl rfl rfl rfl (by omega) rfl) rfl rfl rfl ?_
    refine L_q (Q_move rfl) rfl rfl rfl ?_
    refine L_o rfl rfl rfl (O_copy (τ := tNd) (T := ⟨some ⟨b, 0, none⟩, 1, 1⟩) (m := [x]) 0 at' (l.length + 1) rfl (fun w h => h.rdN 1 rfl) rfl rfl rfl (by simp; omega) (by simp; omega) (by simp; omega) ?_)
    refine JL.norm ?_
    refine JL_nil ?_
    refine seqQ_normal ?_
    refine J_seq ?_
    have e5 : (l.take (at' + 1) ++ l.drop at').take at' ++ [x] ++ (l.take (at' + 1) ++ l.drop at').drop (at' + [x].length) = l.take at' ++ x :: l.drop at' := by
      rw [List.take_append_of_le_length (by simp; omega), List.take_take, Nat.min_eq_left (by omega), List.drop_left' (by simp; omega)]
      simp
    have e6 : max (l.length + 1) (at' + [x].length) = l.length + 1 := by simp; omega
    simp only [e5, e6]
    refine J_region ?_
    refine L_q (Q_move rfl) rfl rfl rfl ?_
    refine L_q (Q_assign rfl) rfl rfl rfl ?_
    refine JL_nil ?_
    refine seqQ_normal ?_
    refine J_ret ?_
    refine seqQ_ret ?_
    exact retQ_ret _ [slc tNd true ⟨some ⟨g, o, none⟩, l.length + 1, cS⟩ (l.take at' ++ x :: l.drop at')] (.cons (RV_tmp rfl) .nil) ⟨_, rfl, rfl⟩ (Ent.re [0, 2] rfl)
theorem nddel_ok (E : World) (S : SV) (l : List (Option Nat)) (i j : Nat) (hij : i ≤ j) (hj : j ≤ l.length) (hl : l.length ≤ 100000) :
    Does Tryz.prog E 123 [S.v, .int .i64 (i : Int), .int .i64 (j : Int)] [slc tNd true S l] fun v L => ∃ S' : SV, v = S'.v ∧ L = [slc tNd true S' (l.take i ++ l.drop j)] := by
  refine Does.of Tryz.func123 rfl Tryz.ntmps123 rfl rfl fun F => ?_
  refine J.norm ?_
  refine J.have (p := S.n = l.length ∧ S.n ≤ S.c) (fun w hs => ⟨(hs.rd 0 rfl).1, (hs.rd 0 rfl).2.1⟩) fun hS => ?_
  refine J_seq ?_
  refine J_region ?_
  refine L_q (Q_assign rfl) rfl rfl rfl ?_
  refine JL_nil ?_
  refine seqQ_normal ?_
  refine J_seq ?_
  refine J_region ?_
  refine L_q (Q_move rfl) rfl rfl rfl ?_
  refine L_q (Q_move rfl) rfl rfl rfl ?_
  refine L_q (Q_move rfl) rfl rfl rfl ?_
  refine L_q (Q_move rfl) rfl rfl rfl ?_
  refine L_q (Q_lenAt 0 rfl rfl) rfl rfl rfl ?_
  refine L_q (Q_sl3 (τ := tNd) i j l.length rfl rfl rfl rfl rfl rfl rfl hij hj (by omega) rfl) rfl rfl rfl ?_
  refine JL_nil ?_
  refine seqQ_normal ?_
  refine J_seq ?_
  refine J_seq ?_
  refine J_region ?_
  refine L_q (Q_move rfl) rfl rfl rfl ?_
  refine L_q (Q_move rfl) rfl rfl rfl ?_
  refine L_q (Q_eql rfl rfl) rfl rfl rfl ?_
  refine JL_nil ?_
  refine seqQ_normal ?_
  refine J_condD rfl (fun h => ?_) (fun h => ?_)
  · obtain rfl : i = j := by omega
    refine J_seq ?_
    refine J_region ?_
    refine L_q (Q_move rfl) rfl rfl rfl ?_
    refine L_q (Q_assign rfl) rfl rfl rfl ?_
    refine JL_nil ?_
    refine seqQ_normal ?_
    refine J_ret ?_
    refine seqQ_ret ?_
    exact retQ_ret _ [slc tNd true S l] (.cons (RV_tmp rfl) .nil) ⟨S, rfl, by rw [List.take_append_drop]⟩ (Ent.refl _)
  · have hm : (l.take l.length).drop j = l.drop j := by rw [List.take_length]
    have hlen : (l.take i ++ l.drop j).length = i + (l.length - j) := by simp; omega
    refine J_skip ?_
    refine seqQ_normal ?_
    refine J_seq ?_
    refine J_region ?_
    refine L_q (Q_move rfl) rfl rfl rfl ?_
    refine L_q (Q_lenAt 0 rfl rfl) rfl rfl rfl ?_
    refine L_q (Q_assign rfl) rfl rfl rfl ?_
    refine JL_nil ?_
    refine seqQ_normal ?_
    refine J_seq ?_
    refine J_drawH [] [0, 1, 2, 3, 4, 5, 7] (.quiet 0 (.quiet 1 (.quiet 2 (.quiet 3 (.quiet 4 (.quiet 5 (.loud 6 (.quiet 7 .done)))))))) Tryz.mixed (by kernel_rfl) (by kernel_rfl) (by repeat (first | exact retQ_noP | refine seqQ_noP ?_ | refine blockQ_noP ?_ | refine loopQ_noP ?_ | refine scopeQ_noP ?_ | (intro _ _ _ h; cases h.1))) ?_
    refine S_q (Ent.re [] rfl) rfl (Q_move rfl) rfl rfl rfl ?_
    refine S_q (Ent.re [] rfl) rfl (Q_move rfl) rfl rfl rfl ?_
    refine S_q (Ent.re [] rfl) rfl (Q_slHc (τ := tNd) i rfl rfl rfl (by omega)) rfl rfl rfl ?_
    refine S_q (Ent.re [] rfl) rfl (Q_move rfl) rfl rfl rfl ?_
    refine S_q (Ent.re [] rfl) rfl (Q_move rfl) rfl rfl rfl ?_
    refine S_q (Ent.re [] rfl) rfl (Q_slLc (τ := tNd) j l.length rfl rfl rfl hS.1 hj rfl) rfl rfl rfl ?_
    refine S_o rfl rfl rfl rfl (O_appIn (τ := tNd) 0 i rfl (fun w h => (h.rd 0 rfl).sub j l.length hj (Nat.le_refl _)) rfl rfl rfl (by omega) (by simp; omega) ⟨[], fun _ => ⟨Ent.re [] rfl, Ent.refl _⟩, ?_⟩)
    refine JS.norm ?_
    refine S_q (Ent.re [] rfl) rfl (Q_assign rfl) rfl rfl rfl ?_
    refine S_nil ?_
    refine seqQ_normal ?_
    refine J_seq ?_
    rw [hm]
    have hS' : (⟨(S.sub tNd.sz 0 i).a, i + (l.drop j).length, S.c⟩ : SV).c = S.c := rfl
    generalize (⟨(S.sub tNd.sz 0 i).a, i + (l.drop j).length, S.c⟩ : SV) = T at hS' ⊢
    refine J_region ?_
    refine L_q (Q_move rfl) rfl rfl rfl ?_
    refine L_q (Q_move rfl) rfl rfl rfl ?_
    refine L_q (Q_lenAt 0 rfl rfl) rfl rfl rfl ?_
    refine L_q (Q_move rfl) rfl rfl rfl ?_
    refine L_q (Q_slLHc (τ := tNd) (i + (l.length - j)) l.length rfl rfl rfl (by rw [hlen]) rfl (by omega) (by omega) rfl) rfl rfl rfl ?_
    refine L_s rfl rfl (O_clear (τ := tNd) 0 (i + (l.length - j)) l.length rfl rfl rfl rfl (by simp [Value.cells, Value.oneCell']) (by omega) (by omega) (by omega) ?_)
    refine JL.norm ?_
    refine JL_nil ?_
    refine seqQ_normal ?_
    refine J_seq ?_
    refine J_region ?_
    refine L_q (Q_move rfl) rfl rfl rfl ?_
    refine L_q (Q_assign rfl) rfl rfl rfl ?_
    refine JL_nil ?_
    refine seqQ_normal ?_
    refine J_ret ?_
    exact retQ_ret _ [slc tNd true T (l.take i ++ l.drop j)] (.cons (RV_tmp rfl) .nil) ⟨T, rfl, rfl⟩ (Ent.refl _)
theorem ndclone_ok (E : World) (S : SV) (l : List (Option Nat)) (hl : l.length ≤ 100000000) : Does Tryz.prog E 82 [S.v] [slc tNd true S l] fun v L => ∃ T : SV, v = T.v ∧ L = [slc tNd true S l, slc tNd true T l] := by
  refine Does.of Tryz.func82 rfl Tryz.ntmps82 rfl rfl fun F => ?_
  refine J.norm ?_
  refine J.have (p := S.n = l.length ∧ S.n ≤ S.c ∧ (0 < S.c → ∃ g o, S.a = some ⟨g, o, none⟩)) (fun w hs => ⟨(hs.rd 0 rfl).1, (hs.rd 0 rfl).2.1, hs.slcA 0 rfl⟩) fun ⟨hn, hc, ha⟩ => ?_
  refine J_seq ?_
  refine J_region ?_
  refine L_q (Q_assign rfl) rfl rfl rfl ?_
  refine JL_nil ?_
  refine seqQ_normal ?_
  refine J_seq ?_
  refine J_seq ?_
  cases h : S.a with
  | none =>
    have h0 : l = [] := List.eq_nil_of_length_eq_zero (by
      rcases Nat.eq_zero_or_pos S.c with h0 | h0
      · omega
      · obtain ⟨g, o, e⟩ := ha h0; rw [h] at e; cases e)
    subst h0
    refine J_region ?_
    refine L_q (Q_move rfl) rfl rfl rfl ?_
    refine L_q ((Q_slnil (S := S) rfl rfl).as (v' := .bool true) (by rw [h]; rfl)) rfl rfl rfl ?_
    refine JL_nil ?_
    refine seqQ_normal ?_
    refine J_condT rfl ?_
    refine J_seq ?_
    refine J_region ?_
    refine L_q (Q_assign rfl) rfl rfl rfl ?_
    refine JL_nil ?_
    refine seqQ_normal ?_
    refine J_ret ?_
    refine seqQ_ret ?_
    refine retQ_ret _ [slc tNd true S [], slc tNd true SV.nil []] (.cons (RV_tmp rfl) .nil) ⟨SV.nil, rfl, rfl⟩ ?_
    exact (Ent.mk fun _ _ h => (h.lay_nil tNd true : Sat _ _ (slc tNd true SV.nil [] :: _))).trans (Ent.re [1, 0, 2] rfl)
  | some a =>
    refine J_region ?_
    refine L_q (Q_move rfl) rfl rfl rfl ?_
    refine L_q ((Q_slnil (S := S) rfl rfl).as (v' := .bool false) (by rw [h]; rfl)) rfl rfl rfl ?_
    refine JL_nil ?_
    refine seqQ_normal ?_
    refine J_condF rfl ?_
    refine J_skip ?_
    refine seqQ_normal ?_
    refine J_seq ?_
    refine J_region ?_
    refine L_o rfl rfl rfl (O_litP (τ := tNd) (m := 0) (sz := 1) [] rfl rfl rfl rfl rfl rfl (by decide) (fun U => ?_))
    refine JL.norm ?_
    refine L_q (Q_move rfl) rfl rfl rfl ?_
    refine L_o rfl rfl rfl (O_app (τ := tNd) 0 rfl (fun w h => h.rd 1 rfl) rfl rfl rfl rfl (by simp; omega) (by decide) (fun T => ?_))
    refine JL.norm ?_
    refine L_q (Q_assign rfl) rfl rfl rfl ?_
    refine JL_nil ?_
    refine seqQ_normal ?_
    refine J_ret ?_
    exact retQ_ret _ [slc tNd true S l, slc tNd true T l] (.cons (RV_tmp rfl) .nil) ⟨T, rfl, rfl⟩ (Ent.re [1, 0, 2] rfl)
theorem kvcloneG (E : World) (C : HProp) (U : SV) (m : List Kv) (hC : ∀ w L, Sat E w (C :: L) → Rd tKv w U m) (hl : m.length ≤ 100000000) : Does Tryz.prog E 81 [U.v] [C] fun v L => ∃ V : SV, v = V.v ∧ L = [C, slc tKv true V m] := by
  refine Does.of Tryz.func81 rfl Tryz.ntmps81 rfl rfl fun F => ?_
  refine J.norm ?_
  refine J.have (p := U.n = m.length ∧ U.n ≤ U.c ∧ ((U.a = none ∧ U.c = 0) ∨ ∃ a, U.a = some a)) (fun w hs => ⟨(hC w _ hs).1, (hC w _ hs).2.1, (hC w _ hs).2.2.imp id fun ⟨a, h, _⟩ => ⟨a, h⟩⟩) fun ⟨hn, hc, ha⟩ => ?_
  refine J_seq ?_
  refine J_region ?_
  refine L_q (Q_assign rfl) rfl rfl rfl ?_
  refine JL_nil ?_
  refine seqQ_normal ?_
  refine J_seq ?_
  refine J_seq ?_
  cases h : U.a with
  | none =>
    have h0 : m = [] := List.eq_nil_of_length_eq_zero (by
      rcases ha with ⟨_, h0⟩ | ⟨a, h1⟩
      · omega
      · rw [h] at h1; cases h1)
    subst h0
    refine J_region ?_
    refine L_q (Q_move rfl) rfl rfl rfl ?_
    refine L_q ((Q_slnil (S := U) rfl rfl).as (v' := .bool true) (by rw [h]; rfl)) rfl rfl rfl ?_
    refine JL_nil ?_
    refine seqQ_normal ?_
    refine J_condT rfl ?_
    refine J_seq ?_
    refine J_region ?_
    refine L_q (Q_assign rfl) rfl rfl rfl ?_
    refine JL_nil ?_
    refine seqQ_normal ?_
    refine J_ret ?_
    refine seqQ_ret ?_
    refine retQ_ret _ [C, slc tKv true SV.nil []] (.cons (RV_tmp rfl) .nil) ⟨SV.nil, rfl, rfl⟩ ?_
    exact (Ent.mk fun _ _ h => (h.lay_nil tKv true : Sat _ _ (slc tKv true SV.nil [] :: _))).trans (Ent.re [1, 0, 2] rfl)
  | some a =>
    refine J_region ?_
    refine L_q (Q_move rfl) rfl rfl rfl ?_
    refine L_q ((Q_slnil (S := U) rfl rfl).as (v' := .bool false) (by rw [h]; rfl)) rfl rfl rfl ?_
    refine JL_nil ?_
    refine seqQ_normal ?_
    refine J_condF rfl ?_
    refine J_skip ?_
    refine seqQ_normal ?_
    refine J_seq ?_
    refine J_region ?_
    refine L_o rfl rfl rfl (O_litP (τ := tKv) (m := 0) (sz := 2) [] rfl rfl rfl rfl rfl rfl (by decide) (fun V => ?_))
    refine JL.norm ?_
    refine L_q (Q_move rfl) rfl rfl rfl ?_
    refine L_o rfl rfl rfl (O_app (τ := tKv) 0 rfl (fun w h => hC w _ ((h.pick [1] rfl) : Sat E w (pick [1] _))) rfl rfl rfl rfl (by simp; omega) (by decide) (fun W => ?_))
    refine JL.norm ?_
    refine L_q (Q_assign rfl) rfl rfl rfl ?_
    refine JL_nil ?_
    refine seqQ_normal ?_
    refine J_ret ?_
    exact retQ_ret _ [C, slc tKv true W m] (.cons (RV_tmp rfl) .nil) ⟨W, rfl, rfl⟩ (Ent.re [1, 0, 2] rfl)
theorem ndcloneG (E : World) (C : HProp) (U : SV) (m : List (Option Nat)) (hC : ∀ w L, Sat E w (C :: L) → Rd tNd w U m) (hl : m.length ≤ 100000000) : Does Tryz.prog E 82 [U.v] [C] fun v L => ∃ V : SV, v = V.v ∧ L = [C, slc tNd true V m] := by
  refine Does.of Tryz.func82 rfl Tryz.ntmps82 rfl rfl fun F => ?_
  refine J.norm ?_
  refine J.have (p := U.n = m.length ∧ U.n ≤ U.c ∧ ((U.a = none ∧ U.c = 0) ∨ ∃ a, U.a = some a)) (fun w hs => ⟨(hC w _ hs).1, (hC w _ hs).2.1, (hC w _ hs).2.2.imp id fun ⟨a, h, _⟩ => ⟨a, h⟩⟩) fun ⟨hn, hc, ha⟩ => ?_
  refine J_seq ?_
  refine J_region ?_
  refine L_q (Q_assign rfl) rfl rfl rfl ?_
  refine JL_nil ?_
  refine seqQ_normal ?_
  refine J_seq ?_
  refine J_seq ?_
  cases h : U.a with
  | none =>
    have h0 : m = [] := List.eq_nil_of_length_eq_zero (by
      rcases ha with ⟨_, h0⟩ | ⟨a, h1⟩
      · omega
      · rw [h] at h1; cases h1)
    subst h0
    refine J_region ?_
    refine L_q (Q_move rfl) rfl rfl rfl ?_
    refine L_q ((Q_slnil (S := U) rfl rfl).as (v' := .bool true) (by rw [h]; rfl)) rfl rfl rfl ?_
    refine JL_nil ?_
    refine seqQ_normal ?_
    refine J_condT rfl ?_
    refine J_seq ?_
    refine J_region ?_
    refine L_q (Q_assign rfl) rfl rfl rfl ?_
    refine JL_nil ?_
    refine seqQ_normal ?_
    refine J_ret ?_
    refine seqQ_ret ?_
    refine retQ_ret _ [C, slc tNd true SV.nil []] (.cons (RV_tmp rfl) .nil) ⟨SV.nil, rfl, rfl⟩ ?_
    exact (Ent.mk fun _ _ h => (h.lay_nil tNd true : Sat _ _ (slc tNd true SV.nil [] :: _))).trans (Ent.re [1, 0, 2] rfl)
  | some a =>
    refine J_region ?_
    refine L_q (Q_move rfl) rfl rfl rfl ?_
    refine L_q ((Q_slnil (S := U) rfl rfl).as (v' := .bool false) (by rw [h]; rfl)) rfl rfl rfl ?_
    refine JL_nil ?_
    refine seqQ_normal ?_
    refine J_condF rfl ?_
    refine J_skip ?_
    refine seqQ_normal ?_
    refine J_seq ?_
    refine J_region ?_
    refine L_o rfl rfl rfl (O_litP (τ := tNd) (m := 0) (sz := 1) [] rfl rfl rfl rfl rfl rfl (by decide) (fun V => ?_))
    refine JL.norm ?_
    refine L_q (Q_move rfl) rfl rfl rfl ?_
    refine L_o rfl rfl rfl (O_app (τ := tNd) 0 rfl (fun w h => hC w _ ((h.pick [1] rfl) : Sat E w (pick [1] _))) rfl rfl rfl rfl (by simp; omega) (by decide) (fun W => ?_))
    refine JL.norm ?_
    refine L_q (Q_assign rfl) rfl rfl rfl ?_
    refine JL_nil ?_
    refine seqQ_normal ?_
    refine J_ret ?_
    exact retQ_ret _ [C, slc tNd true W m] (.cons (RV_tmp rfl) .nil) ⟨W, rfl, rfl⟩ (Ent.re [1, 0, 2] rfl)
end Go.Proofs.Bt
