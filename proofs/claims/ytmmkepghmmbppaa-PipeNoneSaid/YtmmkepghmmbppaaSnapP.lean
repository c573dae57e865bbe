/- Slots, in plain Lean: their words, whether they are right, which is told. -/
import Derived.Test.YtmmkepghmmbppaaCrcP
set_option autoImplicit false
namespace Go.Proofs
def be (s : List UInt8) : Nat := s.foldl (fun a b => a * 256 + b.toNat) 0
theorem be_snoc (s : List UInt8) (b : UInt8) : be (s ++ [b]) = be s * 256 + b.toNat := by simp [be, List.foldl_append]
theorem be_lt_aux (s : List UInt8) : ∀ a m : Nat, a < m → s.foldl (fun a b => a * 256 + b.toNat) a < m * 256 ^ s.length := by
  induction s with
  | nil => intro a m h; simpa using h
  | cons b s ih =>
    intro a m h
    have hb := b.toNat_lt
    have := ih (a * 256 + b.toNat) (m * 256) (by omega)
    rw [List.length_cons, Nat.pow_succ, Nat.mul_comm (256 ^ s.length) 256, ← Nat.mul_assoc]
    exact this
theorem be_lt (s : List UInt8) : be s < 256 ^ s.length := by have := be_lt_aux s 0 1 (by omega); rwa [Nat.one_mul] at this
theorem be_lt4 (s : List UInt8) (n : Nat) (h : s.length ≤ n) : be s < 256 ^ n := Nat.lt_of_lt_of_le (be_lt s) (Nat.pow_le_pow_right (by decide) h)

/-- The word j when k bytes have been taken. -/
def wd (l : List UInt8) (k j : Nat) : Nat := be (((l.take k).drop (4 * j)).take 4)
theorem wd_lt (l : List UInt8) (k j : Nat) : wd l k j < 2 ^ 32 := be_lt4 _ 4 (by simp; omega)
theorem wd_lt24 (l : List UInt8) (k : Nat) : wd l k (k / 4) < 2 ^ 24 := be_lt4 _ 3 (by simp; omega)
theorem wd_at (l : List UInt8) (k : Nat) (h : k < l.length) : wd l (k + 1) (k / 4) = wd l k (k / 4) * 256 + l[k].toNat := by
  unfold wd
  have e : l.take (k + 1) = l.take k ++ [l[k]] := List.take_succ_eq_append_getElem h
  have hlen : (l.take k).length = k := by simp; omega
  have e1 : ((l.take k).drop (4 * (k / 4))).take 4 = (l.take k).drop (4 * (k / 4)) := List.take_of_length_le (by rw [List.length_drop, hlen]; omega)
  have e2 : ((l.take k).drop (4 * (k / 4)) ++ [l[k]]).take 4 = (l.take k).drop (4 * (k / 4)) ++ [l[k]] := List.take_of_length_le (by rw [List.length_append, List.length_drop, hlen]; simp; omega)
  rw [e, List.drop_append_of_le_length (by omega), e1, e2, be_snoc]
theorem wd_other (l : List UInt8) (k j : Nat) (h : k < l.length) (hj : j ≠ k / 4) : wd l (k + 1) j = wd l k j := by
  unfold wd
  have e : l.take (k + 1) = l.take k ++ [l[k]] := List.take_succ_eq_append_getElem h
  have hlen : (l.take k).length = k := by simp; omega
  by_cases hlt : j < k / 4
  · rw [e, List.drop_append_of_le_length (by omega), List.take_append_of_le_length (by simp; omega)]
  · rw [List.drop_of_length_le (by simp; omega), List.drop_of_length_le (by simp; omega)]
theorem wd_or (l : List UInt8) (k : Nat) (h : k < l.length) : (wd l k (k / 4) * 2 ^ 8 % 2 ^ 32 ||| l[k].toNat % 2 ^ 32) = wd l (k + 1) (k / 4) := by
  have h1 := wd_lt24 l k
  have h2 := l[k].toNat_lt
  rw [wd_at l k h, Nat.mod_eq_of_lt (by omega), Nat.mod_eq_of_lt (by omega), Nat.mul_comm]
  have := Nat.two_pow_add_eq_or_of_lt (i := 8) (b := l[k].toNat) (by omega) (wd l k (k / 4))
  rw [← this]
/-- The word j. -/
def nw (l : List UInt8) (j : Nat) : Nat := be ((l.drop (4 * j)).take 4)
theorem nw_lt (l : List UInt8) (j : Nat) : nw l j < 2 ^ 32 := be_lt4 _ 4 (by simp; omega)
theorem wd_12 (l : List UInt8) (j : Nat) (h : j < 3) : wd l 12 j = nw l j := by
  unfold wd nw
  rw [List.drop_take, List.take_take, Nat.min_eq_left (by omega)]
def rightB (l : List UInt8) : Bool := decide (12 ≤ l.length) && (decide (nw l 0 = crc (l.drop 4)) && decide (nw l 2 = (l.length - 12) % 2 ^ 32))
def told (a b : List UInt8) : Int := if rightB b = true ∧ (rightB a = false ∨ nw a 1 < nw b 1) then 1 else if rightB a = true then 0 else -1
def four (n : Nat) : List UInt8 := [UInt8.ofNat (n / 2 ^ 24), UInt8.ofNat (n / 2 ^ 16), UInt8.ofNat (n / 2 ^ 8), UInt8.ofNat n]
end Go.Proofs
