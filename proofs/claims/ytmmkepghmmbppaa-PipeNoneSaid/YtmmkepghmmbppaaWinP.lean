/- A window, in plain Lean. -/
import Derived.Test.YtmmkepghmmbppaaSl20
set_option autoImplicit false
namespace Go.Proofs
open Go.SL
theorem pigeon (L : List Int) (n : Nat) (h : ∀ k : Nat, k < n → (k : Int) ∈ L) : n ≤ L.length := by
  induction n generalizing L with
  | zero => exact Nat.zero_le _
  | succ n ih =>
    have hn := h n (by omega)
    have := ih (L.erase (n : Int)) fun k hk => (List.mem_erase_of_ne (by omega)).2 (h k (by omega))
    rw [List.length_erase_of_mem hn] at this
    have hp := List.length_pos_of_mem hn
    omega
/-- The least number that was not taken. -/
def baseF (L : List Int) : Nat → Nat → Nat
  | 0, n => n
  | f + 1, n => if (n : Int) ∈ L then baseF L f (n + 1) else n
def baseOf (L : List Int) : Nat := baseF L (L.length + 1) 0
theorem baseF_ok (L : List Int) : ∀ (f n : Nat), L.length < n + f → (∀ k : Nat, k < n → (k : Int) ∈ L) → (∀ k : Nat, k < baseF L f n → (k : Int) ∈ L) ∧ ((baseF L f n : Nat) : Int) ∉ L
  | 0, n, h, hk => by have := pigeon L n hk; omega
  | f + 1, n, h, hk => by
    simp only [baseF]
    split
    · rename_i hm
      exact baseF_ok L f (n + 1) (by omega) fun k hk2 => by
        by_cases e : k = n
        · rw [e]; exact hm
        · exact hk k (by omega)
    · rename_i hm; exact ⟨hk, hm⟩
theorem baseOf_ok (L : List Int) : (∀ k : Nat, k < baseOf L → (k : Int) ∈ L) ∧ ((baseOf L : Nat) : Int) ∉ L := baseF_ok L _ 0 (by omega) (by simp)
theorem baseOf_le (L : List Int) : baseOf L ≤ L.length := pigeon L _ (baseOf_ok L).1
theorem baseOf_eq (L : List Int) (b : Nat) (h1 : ∀ k : Nat, k < b → (k : Int) ∈ L) (h2 : (b : Int) ∉ L) : b = baseOf L := by
  obtain ⟨h3, h4⟩ := baseOf_ok L
  rcases Nat.lt_trichotomy b (baseOf L) with h | h | h
  · exact absurd (h3 b h) h2
  · exact h
  · exact absurd (h1 _ h) h4
def takeB (size : Nat) (L : List Int) (z : Int) : Bool := decide (z ∉ L ∧ 0 ≤ z ∧ z - (baseOf L : Int) < (size : Int))
def takeL (size : Nat) (L : List Int) (z : Int) : List Int := if takeB size L z = true then L ++ [z] else L
/-- The map holds what was taken from the base on. -/
structure Beyond (b : Nat) (m : List (Int × Bool)) (L : List Int) : Prop where
  nd : (m.map (·.1)).Nodup
  at' : ∀ k : Int, mget m k = if (b : Int) ≤ k ∧ k ∈ L then some true else none
  below : ∀ k : Nat, k < b → (k : Int) ∈ L
theorem Beyond.new : Beyond 0 [] [] := ⟨by simp, fun k => by simp [mget], by simp⟩
theorem Beyond.add {b : Nat} {m : List (Int × Bool)} {L : List Int} (h : Beyond b m L) (z : Int) (hz : (b : Int) ≤ z) : Beyond b (mset m z true) (L ++ [z]) := by
  refine ⟨mset_nodup m z true h.nd, fun k => ?_, fun k hk => by simp [h.below k hk]⟩
  rw [mget_mset, h.at']
  by_cases e : z = k
  · subst e; rw [if_pos rfl, if_pos ⟨hz, by simp⟩]
  · rw [if_neg e]
    have : (k ∈ L ++ [z]) ↔ k ∈ L := by
      rw [List.mem_append, List.mem_singleton]
      exact ⟨fun h2 => h2.resolve_right fun e2 => e e2.symm, .inl⟩
    simp only [this]
theorem Beyond.step {b : Nat} {m : List (Int × Bool)} {L : List Int} (h : Beyond b m L) (hb : (b : Int) ∈ L) : Beyond (b + 1) (mdel m (b : Int)) L := by
  refine ⟨mdel_nodup m _ h.nd, fun k => ?_, fun k hk => ?_⟩
  · rw [mget_mdel m _ _ h.nd, h.at']
    by_cases e : (b : Int) = k
    · subst e; rw [if_pos rfl, if_neg (by omega)]
    · rw [if_neg e]
      have : ((b : Int) ≤ k ∧ k ∈ L) ↔ (((b + 1 : Nat) : Int) ≤ k ∧ k ∈ L) := by
        constructor <;> rintro ⟨h1, h2⟩ <;> exact ⟨by omega, h2⟩
      simp only [this]
  · by_cases e : k = b
    · rw [e]; exact hb
    · exact h.below k (by omega)
theorem mdel_len (m : List (Int × Bool)) (k : Int) (h : (mget m k).isSome = true) : (mdel m k).length + 1 = m.length := by
  induction m with
  | nil => simp [mget] at h
  | cons x m ih =>
    rw [mget_cons] at h
    simp only [mdel]
    split
    · simp
    · rename_i hx; rw [if_neg hx] at h; simp [ih h]
theorem has_eq {b : Nat} {m : List (Int × Bool)} {L : List Int} (h : Beyond b m L) (hL : ∀ x ∈ L, 0 ≤ x) (z : Int) : decide (z ∈ L) = (decide (0 ≤ z) && (decide (z < (b : Int)) || (mget m z).isSome)) := by
  rw [h.at']
  by_cases h0 : 0 ≤ z
  · by_cases h1 : z < (b : Int)
    · have : z ∈ L := by have := h.below z.toNat (by omega); rwa [show ((z.toNat : Nat) : Int) = z by omega] at this
      simp [this, h0, h1]
    · by_cases h2 : z ∈ L
      · rw [if_pos ⟨by omega, h2⟩]; simp [h0, h2]
      · rw [if_neg (fun h => h2 h.2)]; simp [h2, h1]
  · have : z ∉ L := fun hz => h0 (hL z hz)
    simp [this, h0]
theorem takeL_nonneg {size : Nat} {L : List Int} (hL : ∀ x ∈ L, 0 ≤ x) (z : Int) : ∀ x ∈ takeL size L z, 0 ≤ x := by
  intro x hx
  unfold takeL at hx
  split at hx
  · rename_i h
    simp only [takeB, decide_eq_true_eq] at h
    rw [List.mem_append, List.mem_singleton] at hx
    rcases hx with hx | rfl
    · exact hL x hx
    · exact h.2.1
  · exact hL x hx
theorem takeL_len (size : Nat) (L : List Int) (z : Int) : (takeL size L z).length ≤ L.length + 1 := by
  unfold takeL; split <;> simp
end Go.Proofs
