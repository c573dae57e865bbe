/- Shifts of whole numbers that are not below zero. -/
import Derived.Test.YtmmkepghmmbppaaSl13
set_option autoImplicit false
namespace Go.SL
section
variable {P : Program} {E : World} {n : Nat} {ρ : Env} {L : List HProp} {dst : Option Tmp} {ty : TypeId} {pos : String} {after : Array Edge} {g : Option (Nat × Bool)} {t t' : Nat} {x y : Operand} {k k' : IntKind} {za zb : Int}
theorem Q_shrZ (a j : Nat) (hx : ρ.ev x = some (.int k za)) (hy : ρ.ev y = some (.int k' zb)) (ha : za = (a : Int)) (hb : zb = (j : Int)) (hj : j ≤ k.bits) :
    QOp P E n ⟨dst, .binOp .shr t x y t', ty, pos, after, g⟩ ρ L (.int k ((a / 2 ^ j : Nat) : Int)) := by
  subst ha hb
  refine Q_shr hx hy (by omega) ?_
  rw [Int.toNat_natCast, Nat.min_eq_left hj, Int.fdiv_eq_ediv_of_nonneg _ (by exact_mod_cast Nat.zero_le _)]
  simp
theorem Q_shlZ (a j : Nat) (hx : ρ.ev x = some (.int .i64 za)) (hy : ρ.ev y = some (.int k' zb)) (ha : za = (a : Int)) (hb : zb = (j : Int)) (hj : j ≤ 64) (h : a * 2 ^ j < 9223372036854775808) :
    QOp P E n ⟨dst, .binOp .shl t x y t', ty, pos, after, g⟩ ρ L (.int .i64 ((a * 2 ^ j : Nat) : Int)) := by
  subst ha hb
  refine Q_shl hx hy (by omega) ?_
  rw [Int.toNat_natCast, Nat.min_eq_left (show j ≤ IntKind.i64.bits from hj)]
  have e : ((a : Int) * 2 ^ j) = ((a * 2 ^ j : Nat) : Int) := by simp
  rw [e]
  exact IntWalk.i64_in _ (by omega)
theorem Q_orZ (a b : Nat) (hx : ρ.ev x = some (.int .i64 za)) (hy : ρ.ev y = some (.int .i64 zb)) (ha : za = (a : Int)) (hb : zb = (b : Int)) (h1 : a < 2 ^ 63) (h2 : b < 2 ^ 63) :
    QOp P E n ⟨dst, .binOp .or t x y t', ty, pos, after, g⟩ ρ L (.int .i64 ((a ||| b : Nat) : Int)) := by
  subst ha hb
  refine Q_or hx hy ?_
  have h3 : a ||| b < 2 ^ 63 := Nat.or_lt_two_pow h1 h2
  show IntKind.i64.wrap ((BitVec.ofInt 64 _ ||| BitVec.ofInt 64 _).toNat : Int) = _
  rw [BitVec.ofInt_natCast, BitVec.ofInt_natCast, BitVec.toNat_or, BitVec.toNat_ofNat, BitVec.toNat_ofNat, Nat.mod_eq_of_lt (by omega), Nat.mod_eq_of_lt (by omega)]
  exact IntWalk.i64_in _ (by omega)
end
end Go.SL
