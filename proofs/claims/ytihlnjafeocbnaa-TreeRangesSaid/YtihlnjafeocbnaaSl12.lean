/- Unsigned numbers, as natural ones. -/
import Derived.Test.YtihlnjafeocbnaaSl11
set_option autoImplicit false
namespace Go.SL
/-- An unsigned kind. -/
class Uns (k : IntKind) : Prop where
  h : k.signed = false
instance : Uns .u8 := ⟨rfl⟩
instance : Uns .u32 := ⟨rfl⟩
instance : Uns .u64 := ⟨rfl⟩
theorem wrapN (k : IntKind) [u : Uns k] (m : Nat) : k.wrap (m : Int) = ((m % 2 ^ k.bits : Nat) : Int) := by
  have h := u.h
  simp only [IntKind.wrap, h]
  simp [BitVec.ofInt_natCast]
theorem wrap_lt (k : IntKind) [Uns k] (m : Nat) (h : m < 2 ^ k.bits) : k.wrap (m : Int) = (m : Int) := by rw [wrapN, Nat.mod_eq_of_lt h]
section
variable {P : Program} {E : World} {n : Nat} {ρ : Env} {L : List HProp} {dst : Option Tmp} {ty : TypeId} {pos : String} {after : Array Edge} {g : Option (Nat × Bool)} {t t' : Nat} {x y : Operand} {k k' : IntKind} [Uns k] {za zb : Int}
theorem Q_andN (a b : Nat) (hx : ρ.ev x = some (.int k za)) (hy : ρ.ev y = some (.int k zb)) (ha : za = (a : Int)) (hb : zb = (b : Int)) (h1 : a < 2 ^ k.bits) (h2 : b < 2 ^ k.bits) :
    QOp P E n ⟨dst, .binOp .and t x y t', ty, pos, after, g⟩ ρ L (.int k ((a &&& b : Nat) : Int)) := by
  subst ha hb
  refine Q_and hx hy ?_
  rw [BitVec.ofInt_natCast, BitVec.ofInt_natCast, BitVec.toNat_and, BitVec.toNat_ofNat, BitVec.toNat_ofNat, Nat.mod_eq_of_lt h1, Nat.mod_eq_of_lt h2]
  exact wrap_lt k _ (Nat.lt_of_le_of_lt Nat.and_le_left h1)
theorem Q_orN (a b : Nat) (hx : ρ.ev x = some (.int k za)) (hy : ρ.ev y = some (.int k zb)) (ha : za = (a : Int)) (hb : zb = (b : Int)) (h1 : a < 2 ^ k.bits) (h2 : b < 2 ^ k.bits) :
    QOp P E n ⟨dst, .binOp .or t x y t', ty, pos, after, g⟩ ρ L (.int k ((a ||| b : Nat) : Int)) := by
  subst ha hb
  refine Q_or hx hy ?_
  rw [BitVec.ofInt_natCast, BitVec.ofInt_natCast, BitVec.toNat_or, BitVec.toNat_ofNat, BitVec.toNat_ofNat, Nat.mod_eq_of_lt h1, Nat.mod_eq_of_lt h2]
  exact wrap_lt k _ (Nat.or_lt_two_pow h1 h2)
theorem Q_xorN (a b : Nat) (hx : ρ.ev x = some (.int k za)) (hy : ρ.ev y = some (.int k zb)) (ha : za = (a : Int)) (hb : zb = (b : Int)) (h1 : a < 2 ^ k.bits) (h2 : b < 2 ^ k.bits) :
    QOp P E n ⟨dst, .binOp .xor t x y t', ty, pos, after, g⟩ ρ L (.int k ((a ^^^ b : Nat) : Int)) := by
  subst ha hb
  refine Q_xor hx hy ?_
  rw [BitVec.ofInt_natCast, BitVec.ofInt_natCast, BitVec.toNat_xor, BitVec.toNat_ofNat, BitVec.toNat_ofNat, Nat.mod_eq_of_lt h1, Nat.mod_eq_of_lt h2]
  exact wrap_lt k _ (Nat.xor_lt_two_pow h1 h2)
theorem Q_addN (a b : Nat) (hx : ρ.ev x = some (.int k za)) (hy : ρ.ev y = some (.int k zb)) (ha : za = (a : Int)) (hb : zb = (b : Int)) :
    QOp P E n ⟨dst, .binOp .add t x y t', ty, pos, after, g⟩ ρ L (.int k (((a + b) % 2 ^ k.bits : Nat) : Int)) := by
  subst ha hb
  exact Q_add hx hy (by rw [← Int.natCast_add, wrapN])
theorem Q_shlN (a j : Nat) (hx : ρ.ev x = some (.int k za)) (hy : ρ.ev y = some (.int k' zb)) (ha : za = (a : Int)) (hb : zb = (j : Int)) (hj : j ≤ k.bits) :
    QOp P E n ⟨dst, .binOp .shl t x y t', ty, pos, after, g⟩ ρ L (.int k ((a * 2 ^ j % 2 ^ k.bits : Nat) : Int)) := by
  subst ha hb
  refine Q_shl hx hy (by omega) ?_
  rw [← wrapN, Int.toNat_natCast, Nat.min_eq_left hj]
  simp
theorem Q_shrN (a j : Nat) (hx : ρ.ev x = some (.int k za)) (hy : ρ.ev y = some (.int k' zb)) (ha : za = (a : Int)) (hb : zb = (j : Int)) (hj : j ≤ k.bits) :
    QOp P E n ⟨dst, .binOp .shr t x y t', ty, pos, after, g⟩ ρ L (.int k ((a / 2 ^ j : Nat) : Int)) := by
  have _ : k.signed = false := Uns.h
  subst ha hb
  refine Q_shr hx hy (by omega) ?_
  rw [Int.toNat_natCast, Nat.min_eq_left hj, Int.fdiv_eq_ediv_of_nonneg _ (by exact_mod_cast Nat.zero_le _)]
  simp
theorem Q_cvtN (a : Nat) {d : Nat} {s : TypeDesc} [u : TyU P t s] [u' : TyU P d (.int k)] (hx : ρ.ev x = some (.int k' za)) (ha : za = (a : Int)) :
    QOp P E n ⟨dst, .convert t d x, ty, pos, after, g⟩ ρ L (.int k ((a % 2 ^ k.bits : Nat) : Int)) := by
  subst ha
  exact Q_cvt hx (wrapN k a)
theorem Q_compl (a : Nat) (hx : ρ.ev x = some (.int k za)) (ha : za = (a : Int)) (h1 : a < 2 ^ k.bits) (hm : k.max = ((2 ^ k.bits - 1 : Nat) : Int)) :
    QOp P E n ⟨dst, .unOp .xor t x, ty, pos, after, g⟩ ρ L (.int k (((2 ^ k.bits - 1) ^^^ a : Nat) : Int)) := fun c w hc _ => by
  subst ha
  have u : k.signed = false := Uns.h
  have e : ((BitVec.ofInt k.bits ((2 ^ k.bits - 1 : Nat) : Int) ^^^ BitVec.ofInt k.bits (a : Int)).toNat : Int) = (((2 ^ k.bits - 1) ^^^ a : Nat) : Int) := by
    rw [BitVec.ofInt_natCast, BitVec.ofInt_natCast, BitVec.toNat_xor, BitVec.toNat_ofNat, BitVec.toNat_ofNat, Nat.mod_eq_of_lt h1, Nat.mod_eq_of_lt (by have := Nat.two_pow_pos k.bits; omega)]
  have h3 : (2 ^ k.bits - 1) ^^^ a < 2 ^ k.bits := Nat.xor_lt_two_pow (by have := Nat.two_pow_pos k.bits; omega) h1
  simp only [execOp, hc.ev hx, Op.unary, u, hm, Op.intBits, e]
  simp
  rw [Nat.mod_eq_of_lt h1, wrap_lt k _ h3]
end
end Go.SL
