/- Texts one behind the other, in plain Lean. -/
import Derived.Test.YtmmkepghmmbppaaSnapP
set_option autoImplicit false
namespace Go.Proofs
def texts (l : List (List UInt8)) : List UInt8 := l.flatMap fun s => four s.length ++ s
theorem texts_succ (l : List (List UInt8)) (k : Nat) (h : k < l.length) : texts (l.take (k + 1)) = texts (l.take k) ++ (four l[k].length ++ l[k]) := by
  unfold texts
  rw [List.take_succ_eq_append_getElem h, List.flatMap_append]
  simp
theorem texts_le (l : List (List UInt8)) (k : Nat) : (texts (l.take k)).length ≤ (texts l).length := by
  have e : texts l = texts (l.take k) ++ texts (l.drop k) := by
    unfold texts
    rw [← List.flatMap_append, List.take_append_drop]
  rw [e, List.length_append]; omega
theorem or4 (a b c d : Nat) (hb : b < 256) (hc : c < 256) (hd : d < 256) : (a * 2 ^ 24 ||| b * 2 ^ 16 ||| c * 2 ^ 8 ||| d) = ((a * 256 + b) * 256 + c) * 256 + d := by
  have h1 := Nat.two_pow_add_eq_or_of_lt (i := 24) (b := b * 2 ^ 16) (by omega) a
  have h2 := Nat.two_pow_add_eq_or_of_lt (i := 16) (b := c * 2 ^ 8) (by omega) (a * 2 ^ 8 + b)
  have h3 := Nat.two_pow_add_eq_or_of_lt (i := 8) (b := d) (by omega) ((a * 2 ^ 8 + b) * 2 ^ 8 + c)
  rw [Nat.mul_comm a, ← h1, show 2 ^ 24 * a + b * 2 ^ 16 = 2 ^ 16 * (a * 2 ^ 8 + b) by omega, ← h2, show 2 ^ 16 * (a * 2 ^ 8 + b) + c * 2 ^ 8 = 2 ^ 8 * ((a * 2 ^ 8 + b) * 2 ^ 8 + c) by omega, ← h3]
  omega
theorem be4 (s : List UInt8) (h : 4 ≤ s.length) : be (s.take 4) = ((s[0].toNat * 256 + s[1].toNat) * 256 + s[2].toNat) * 256 + s[3].toNat := by
  match s, h with
  | a :: b :: c :: d :: r, _ => simp [be]
/-- The text at the beginning, and the rest. -/
def nextT (s : List UInt8) : Option (List UInt8 × List UInt8) :=
  if s.length < 4 then none else if (s.drop 4).length < be (s.take 4) then none else some ((s.drop 4).take (be (s.take 4)), (s.drop 4).drop (be (s.take 4)))
theorem nextT_lt {s t r : List UInt8} (h : nextT s = some (t, r)) : r.length < s.length ∧ t.length ≤ s.length := by
  unfold nextT at h
  split at h
  · cases h
  · split at h
    · cases h
    · simp only [Option.some.injEq, Prod.mk.injEq] at h
      obtain ⟨rfl, rfl⟩ := h
      simp; omega
def readT (s : List UInt8) : Option (List (List UInt8)) :=
  if s = [] then some [] else match h : nextT s with
    | none => none
    | some (t, r) => (readT r).map (t :: ·)
termination_by s.length
decreasing_by exact (nextT_lt h).1
theorem readT_nil : readT [] = some [] := by rw [readT]; rfl
theorem readT_none {s : List UInt8} (h : s ≠ []) (h2 : nextT s = none) : readT s = none := by
  rw [readT, if_neg h]
  split
  · rfl
  · rename_i h3; rw [h2] at h3; cases h3
theorem readT_some {s t r : List UInt8} (h : s ≠ []) (h2 : nextT s = some (t, r)) : readT s = (readT r).map (t :: ·) := by
  rw [readT, if_neg h]
  split
  · rename_i h3; rw [h2] at h3; cases h3
  · rename_i t' r' h3; rw [h2] at h3; cases h3; rfl
def readL (s : List UInt8) : List (List UInt8) := (readT s).getD []
def readE (s : List UInt8) : Int := if (readT s).isNone then 3 else 0
end Go.Proofs
