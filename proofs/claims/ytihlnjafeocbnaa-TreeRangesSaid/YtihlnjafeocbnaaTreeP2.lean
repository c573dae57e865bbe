/- Balanced trees, in plain Lean: their pairs in order, their shape. -/
import Derived.Test.YtihlnjafeocbnaaTreeP1
set_option autoImplicit false
namespace Go.Proofs
def ileave : List Kv → List (List Kv) → List Kv
  | _, [] => []
  | [], f :: _ => f
  | k :: ks, f :: fs => f ++ k :: ileave ks fs
def preI : List Kv → List (List Kv) → List Kv
  | k :: ks, f :: fs => f ++ k :: preI ks fs
  | _, _ => []
def postI : List Kv → List (List Kv) → List Kv
  | [], _ => []
  | k :: ks, fs => k :: ileave ks fs
theorem ileave_post (ks : List Kv) (f : List Kv) (fs : List (List Kv)) : ileave ks (f :: fs) = f ++ postI ks fs := by
  cases ks with
  | nil => simp [ileave, postI]
  | cons k ks => rfl
theorem ileave_pre : ∀ (K1 K2 : List Kv) (F1 F2 : List (List Kv)), K1.length = F1.length → ileave (K1 ++ K2) (F1 ++ F2) = preI K1 F1 ++ ileave K2 F2
  | [], K2, [], F2, _ => rfl
  | [], _, _ :: _, _, h => by simp at h
  | _ :: _, _, [], _, h => by simp at h
  | k :: K1, K2, f :: F1, F2, h => by
    simp only [List.cons_append, ileave, preI, ileave_pre K1 K2 F1 F2 (by simpa using h), List.append_assoc]
theorem ileave_join : ∀ (K K' : List Kv) (m : Kv) (F F' : List (List Kv)), F.length = K.length + 1 → ileave (K ++ m :: K') (F ++ F') = ileave K F ++ m :: ileave K' F'
  | _, _, _, [], _, h => by simp at h
  | [], K', m, [f], F', _ => by simp [ileave]
  | [], _, _, _ :: _ :: _, _, h => by simp at h
  | k :: K, K', m, f :: F, F', h => by
    simp only [List.cons_append, ileave, ileave_join K K' m F F' (by simpa using h), List.append_assoc]
theorem ileave_len : ∀ (ks : List Kv) (fs : List (List Kv)), fs.length = ks.length + 1 → (ileave ks fs).length = ks.length + (fs.map List.length).sum
  | _, [], h => by simp at h
  | [], [f], _ => by simp [ileave]
  | [], _ :: _ :: _, h => by simp at h
  | k :: ks, f :: fs, h => by
    simp only [ileave, List.length_append, List.length_cons, ileave_len ks fs (by simpa using h), List.map_cons, List.sum_cons]; omega
def T : Nat → Type
  | 0 => List Kv
  | d + 1 => List Kv × List (T d)
def tks : (d : Nat) → T d → List Kv
  | 0, t => t
  | _ + 1, t => t.1
def flat : (d : Nat) → T d → List Kv
  | 0, t => t
  | d + 1, t => ileave t.1 (t.2.map (flat d))
def wf (m : Nat) : (d : Nat) → T d → Prop
  | 0, t => m ≤ List.length t ∧ List.length t ≤ 7
  | d + 1, t => m ≤ t.1.length ∧ t.1.length ≤ 7 ∧ t.2.length = t.1.length + 1 ∧ ∀ c ∈ t.2, wf 3 d c
theorem wf_ks {m d : Nat} {t : T d} (h : wf m d t) : m ≤ (tks d t).length ∧ (tks d t).length ≤ 7 := by
  cases d with
  | zero => exact h
  | succ d => exact ⟨h.1, h.2.1⟩
theorem wf_mk {m n d : Nat} {t : T d} (h : wf m d t) (h2 : n ≤ (tks d t).length) : wf n d t := by
  cases d with
  | zero => exact ⟨h2, h.2⟩
  | succ d => exact ⟨h2, h.2⟩
def preF (d : Nat) (K : List Kv) (A : List (T d)) : List Kv := preI K (A.map (flat d))
def postF (d : Nat) (K : List Kv) (B : List (T d)) : List Kv := postI K (B.map (flat d))
theorem flat_at {d : Nat} (K1 K2 : List Kv) (A B : List (T d)) (c : T d) (h : K1.length = A.length) : flat (d + 1) (K1 ++ K2, A ++ c :: B) = preF d K1 A ++ flat d c ++ postF d K2 B := by
  simp only [flat, List.map_append, List.map_cons]
  rw [ileave_pre K1 K2 _ _ (by simpa using h), ileave_post, List.append_assoc]; rfl
theorem postF_cons {d : Nat} (k : Kv) (K : List Kv) (c : T d) (B : List (T d)) : postF d (k :: K) (c :: B) = k :: (flat d c ++ postF d K B) := by
  show k :: ileave K (flat d c :: B.map (flat d)) = _
  rw [ileave_post]; rfl
theorem flat_2 {d : Nat} (K1 K2 : List Kv) (k : Kv) (A B : List (T d)) (c c' : T d) (h : K1.length = A.length) : flat (d + 1) (K1 ++ k :: K2, A ++ c :: c' :: B) = preF d K1 A ++ (flat d c ++ k :: flat d c') ++ postF d K2 B := by
  rw [flat_at K1 (k :: K2) A (c' :: B) c h, postF_cons]; simp
theorem pre_bel {k : Ky} : ∀ (K : List Kv) (F : List (List Kv)), Up (preI K F) → Bel K k → Bel (preI K F) k
  | [], _, _, _ => by intro y hy; simp [preI] at hy
  | _ :: _, [], _, _ => by intro y hy; simp [preI] at hy
  | x :: K, f :: F, h, hk => by
    simp only [preI] at h ⊢
    obtain ⟨h1, _, _, h4⟩ := up_mid h
    have hx := hk x (by simp)
    intro y hy
    rcases List.mem_append.1 hy with hy | hy
    · exact kl_trans (h1 y hy) hx
    · rcases List.mem_cons.1 hy with rfl | hy
      · exact hx
      · exact pre_bel K F h4 (fun z hz => hk z (by simp [hz])) y hy
theorem post_abv {k : Ky} : ∀ (K : List Kv) (F : List (List Kv)), Up (postI K F) → Abv K k → Abv (postI K F) k
  | [], _, _, _ => by intro y hy; simp [postI] at hy
  | x :: K, F, h, hk => by
    simp only [postI] at h ⊢
    have h1 := (List.pairwise_cons.1 h).1
    have hx := hk x (by simp)
    intro y hy
    rcases List.mem_cons.1 hy with rfl | hy
    · exact hx
    · exact kl_trans hx (h1 y hy)
theorem ks_sub : ∀ (K : List Kv) (F : List (List Kv)), F.length = K.length + 1 → K.Sublist (ileave K F)
  | [], _, _ => List.nil_sublist _
  | k :: K, [], h => by simp at h
  | k :: K, f :: F, h => by
    simp only [ileave]
    exact ((ks_sub K F (by simpa using h)).cons_cons k).trans (List.sublist_append_right f _)
theorem ks_up {m d : Nat} {t : T d} (hw : wf m d t) (h : Up (flat d t)) : Up (tks d t) := by
  cases d with
  | zero => exact h
  | succ d => exact h.sublist (ks_sub t.1 (t.2.map (flat d)) (by rw [List.length_map]; exact hw.2.2.1))
/-- How many pairs a tree has. -/
theorem flat_size {m : Nat} : ∀ (d : Nat) (t : T d), wf m d t → (flat d t).length + 1 ≤ 8 ^ (d + 1) ∧ (m + 1) * 4 ^ d ≤ (flat d t).length + 1
  | 0, t, h => by
    have h1 : m ≤ List.length t := h.1
    have h2 : List.length t ≤ 7 := h.2
    simp only [flat]
    exact ⟨by show List.length t + 1 ≤ 8 ^ 1; omega, by show (m + 1) * 1 ≤ List.length t + 1; omega⟩
  | d + 1, t, h => by
    obtain ⟨h1, h2, h3, h4⟩ := h
    have hlen := ileave_len t.1 (t.2.map (flat d)) (by rw [List.length_map]; exact h3)
    have key : ∀ cs : List (T d), (∀ c ∈ cs, wf 3 d c) → ((cs.map (flat d)).map List.length).sum + cs.length ≤ cs.length * 8 ^ (d + 1) ∧ cs.length * 4 ^ (d + 1) ≤ ((cs.map (flat d)).map List.length).sum + cs.length := by
      intro cs
      induction cs with
      | nil => intro _; simp
      | cons c cs ih =>
        intro hc
        obtain ⟨i1, i2⟩ := ih fun x hx => hc x (by simp [hx])
        obtain ⟨j1, j2⟩ := flat_size d c (hc c (by simp))
        simp only [List.map_cons, List.sum_cons, List.length_cons]
        rw [Nat.add_mul, Nat.add_mul, Nat.one_mul, Nat.one_mul]
        have e : (3 + 1) * 4 ^ d = 4 ^ (d + 1) := by rw [Nat.pow_succ, Nat.mul_comm]
        rw [e] at j2
        omega
    obtain ⟨k1, k2⟩ := key t.2 h4
    simp only [flat]
    rw [hlen]
    have e1 : t.2.length * 8 ^ (d + 1) ≤ 8 ^ (d + 1 + 1) := by
      rw [Nat.pow_succ 8 (d + 1), Nat.mul_comm]; exact Nat.mul_le_mul_left _ (by omega)
    have e2 : (m + 1) * 4 ^ (d + 1) ≤ t.2.length * 4 ^ (d + 1) := Nat.mul_le_mul_right _ (by omega)
    omega
theorem flat_ne {m d : Nat} {t : T d} (h : wf m d t) (hm : 1 ≤ m) : flat d t ≠ [] := by
  have := (flat_size d t h).2
  have h2 : 1 ≤ 4 ^ d := Nat.pow_pos (by decide)
  have h3 : 2 * 1 ≤ (m + 1) * 4 ^ d := Nat.mul_le_mul (by omega) h2
  intro e
  rw [e] at this
  simp at this
  omega
end Go.Proofs
