/- A byte that is another one, in plain Lean. -/
import Derived.Test.YtjpkeibhimimpaaFew37
set_option autoImplicit false
namespace Go.Proofs
open Go.SL
theorem and_255 (z : Int) : IntKind.i64.wrap (((BitVec.ofInt IntKind.i64.bits z &&& BitVec.ofInt IntKind.i64.bits 255).toNat : Nat) : Int) = ((by8 z).toNat : Int) := by
  have h1 : (BitVec.ofInt 64 255).toNat = 2 ^ 8 - 1 := by decide
  have h2 : (by8 z).toNat = (z % 256).toNat % 256 := rfl
  have h3 : (BitVec.ofInt IntKind.i64.bits z &&& BitVec.ofInt IntKind.i64.bits 255).toNat = (by8 z).toNat := by
    show (BitVec.ofInt 64 z &&& BitVec.ofInt 64 255).toNat = _
    rw [BitVec.toNat_and, h1, Nat.and_two_pow_sub_one_eq_mod, BitVec.toNat_ofInt, h2]
    have : ((2 ^ 64 : Nat) : Int) = 18446744073709551616 := by decide
    rw [this]
    omega
  rw [h3]
  have h4 := (by8 z).toNat_lt
  generalize (by8 z).toNat = m at h4
  simp only [IntKind.wrap, show IntKind.i64.signed = true from rfl]
  simp [IntKind.bits]
  omega
theorem xor_ne (x z : UInt8) (h : z ≠ 0) : x ^^^ z ≠ x := by
  intro h2
  apply h
  have : x ^^^ (x ^^^ z) = x ^^^ x := by rw [h2]
  rwa [← UInt8.xor_assoc, UInt8.xor_self, UInt8.zero_xor] at this
theorem spoilAt_zero (l : List UInt8) (n z : Int) (hn : n.toNat < l.length) (h : by8 z = 0) : spoilAt l n z = l := by
  unfold spoilAt
  rw [h, UInt8.xor_zero]
  simp [List.getD_eq_getElem?_getD, List.getElem?_eq_getElem hn]
theorem spoilAt_right (l : List UInt8) (n z : Int) (hn : n.toNat < l.length) (h : by8 z ≠ 0) (hr : rightB l = true) : rightB (spoilAt l n z) = false := by
  unfold spoilAt
  refine spoil_right l n.toNat _ hr hn ?_
  have e : l.getD n.toNat 0 = l[n.toNat] := by simp [List.getD_eq_getElem?_getD, List.getElem?_eq_getElem hn]
  rw [e]
  exact xor_ne _ _ h
theorem two_writes (a b : List UInt8) (ha : a.length ≤ 32768) (hb : b.length ≤ 32768) : doW [] [] a (-1) = (whole 1 a, [], 0) ∧ doW (whole 1 a) [] b (-1) = (whole 1 a, whole 2 b, 0) := by
  have hr := whole_right 1 a
  have h1 := whole_nw1 1 a
  have ht : told (whole 1 a) [] = 0 := by
    unfold told
    rw [if_neg (by simp [show rightB [] = false from rfl]), if_pos hr]
  have hn : loadN (whole 1 a) [] = 1 := by unfold loadN; rw [ht, if_neg (by decide), if_pos rfl, h1]
  constructor
  · unfold doW
    rw [if_neg (by omega), if_neg (by decide), wrote_eq, if_neg (by omega)]; rfl
  · unfold doW
    rw [if_neg (by omega), ht, if_pos rfl, wrote_eq, if_neg (by omega), hn]
theorem load_b (X Y : List UInt8) (hY : rightB Y = true) (h : rightB X = false ∨ nw X 1 < nw Y 1) : loadT X Y = Y.drop 12 ∧ loadN X Y = nw Y 1 := by
  have ht : told X Y = 1 := by unfold told; rw [if_pos ⟨hY, h⟩]
  simp [loadT, loadN, ht]
theorem load_a (X Y : List UInt8) (hX : rightB X = true) (h : rightB Y = false) : loadT X Y = X.drop 12 ∧ loadN X Y = nw X 1 := by
  have ht : told X Y = 0 := by unfold told; rw [if_neg (by simp [h]), if_pos hX]
  simp [loadT, loadN, ht]
/-- What is told behind the byte. -/
theorem turned_tells (a b : List UInt8) (d : De) : let r := doSpoil (whole 1 a) (whole 2 b) d.slot d.n d.by';
    (r.2.2 = false ∨ by8 d.by' = 0 ∨ d.slot = 0 → loadT r.1 r.2.1 = b ∧ loadN r.1 r.2.1 = 2) ∧ (r.2.2 = true → by8 d.by' ≠ 0 → d.slot ≠ 0 → loadT r.1 r.2.1 = a ∧ loadN r.1 r.2.1 = 1) := by
  have hX := whole_right 1 a
  have hY := whole_right 2 b
  have nX : nw (whole 1 a) 1 = 1 := whole_nw1 1 a
  have nY : nw (whole 2 b) 1 = 2 := whole_nw1 2 b
  have dX := whole_drop12 1 a
  have dY := whole_drop12 2 b
  generalize whole 1 a = X at *
  generalize whole 2 b = Y at *
  have base : loadT X Y = b ∧ loadN X Y = 2 := by
    have := load_b X Y hY (.inr (by omega)); rwa [dY, nY] at this
  dsimp only
  unfold doSpoil
  by_cases h1 : d.slot < 0 ∨ 1 < d.slot ∨ d.n < 0
  · rw [if_pos h1]; exact ⟨fun _ => base, fun h => by cases h⟩
  rw [if_neg h1]
  by_cases h2 : d.slot = 0
  · rw [if_pos h2]
    by_cases h3 : (X.length : Int) ≤ d.n
    · rw [if_pos h3]; exact ⟨fun _ => base, fun h => by cases h⟩
    · rw [if_neg h3]
      refine ⟨fun _ => ?_, fun _ _ h => absurd h2 h⟩
      by_cases hz : by8 d.by' = 0
      · rw [spoilAt_zero X _ _ (by omega) hz]; exact base
      · have := load_b (spoilAt X d.n d.by') Y hY (.inl (spoilAt_right X _ _ (by omega) hz hX)); rwa [dY, nY] at this
  · rw [if_neg h2]
    by_cases h3 : (Y.length : Int) ≤ d.n
    · rw [if_pos h3]; exact ⟨fun _ => base, fun h => by cases h⟩
    · rw [if_neg h3]
      refine ⟨fun h => ?_, fun _ hz _ => ?_⟩
      · rcases h with h | h | h
        · cases h
        · rw [spoilAt_zero Y _ _ (by omega) h]; exact base
        · exact absurd h h2
      · have := load_a X (spoilAt Y d.n d.by') hX (spoilAt_right Y _ _ (by omega) hz hY); rwa [dX, nX] at this
theorem doSpoil_len (X Y : List UInt8) (i n z : Int) : (doSpoil X Y i n z).1.length = X.length ∧ (doSpoil X Y i n z).2.1.length = Y.length := by
  unfold doSpoil spoilAt
  split
  · exact ⟨rfl, rfl⟩
  · split <;> split <;> simp
end Go.Proofs
