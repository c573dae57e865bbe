/- Pieces of strings. -/
import Derived.Laws.Strings3
import Derived.Laws.DeepStrings4
import Derived.Test.YtihlnjafeocbnaaSl8
set_option autoImplicit false
namespace Go.SL
theorem str_extract (s : List UInt8) (lo hi : Nat) : (⟨s.toArray⟩ : ByteArray).extract lo hi = ⟨((s.take hi).drop lo).toArray⟩ := by
  apply ByteArray.ext
  rw [ByteArray.data_extract, List.extract_toArray, List.extract_eq_take_drop, List.drop_take]
theorem str_size (s : List UInt8) : (⟨s.toArray⟩ : ByteArray).size = s.length := rfl
section
variable {P : Program} {E : World} {n : Nat} {ρ : Env} {L : List HProp} {dst : Option Tmp} {ty : TypeId} {pos : String} {after : Array Edge} {g : Option (Nat × Bool)} {t : Nat} {x a b : Operand} {s : List UInt8} {k k' : IntKind} {i j : Int}
theorem Q_ssLH (lo hi : Nat) [u : TyU P t .string] (hx : ρ.ev x = some (str s)) (ha : ρ.ev a = some (.int k i)) (hb : ρ.ev b = some (.int k' j)) (hi' : i = (lo : Int)) (hj : j = (hi : Int)) (h1 : lo ≤ hi) (h2 : hi ≤ s.length) :
    QOp P E n ⟨dst, .slice t x (some a) (some b) none, ty, pos, after, g⟩ ρ L (str ((s.take hi).drop lo)) := fun c w hc _ => by
  subst hi' hj
  simp only [execOp, hc.ev hx, Option.map_some, hc.ev ha, hc.ev hb, Option.map_none]
  rw [Sem.run_bind, run_sliceAt_string (h := u.h), str, run_slice_string_if w t ⟨s.toArray⟩ k k' lo hi u.h, if_pos ⟨by omega, by rw [str_size]; omega⟩, if_pos ⟨by omega, by omega⟩, Int.toNat_natCast, Int.toNat_natCast, str_extract]; rfl
theorem Q_ssH (hi : Nat) [u : TyU P t .string] (hx : ρ.ev x = some (str s)) (hb : ρ.ev b = some (.int k' j)) (hj : j = (hi : Int)) (h2 : hi ≤ s.length) :
    QOp P E n ⟨dst, .slice t x none (some b) none, ty, pos, after, g⟩ ρ L (str (s.take hi)) := fun c w hc _ => by
  subst hj
  simp only [execOp, hc.ev hx, Option.map_some, hc.ev hb, Option.map_none]
  rw [Sem.run_bind, run_sliceAt_string (h := u.h), str, run_slice_string_to_if w t ⟨s.toArray⟩ k' hi u.h, if_pos ⟨by omega, by rw [str_size]; omega⟩, Int.toNat_natCast, str_extract, List.drop_zero]; rfl
theorem Q_ssL (lo : Nat) [u : TyU P t .string] (hx : ρ.ev x = some (str s)) (ha : ρ.ev a = some (.int k i)) (hi : i = (lo : Int)) (h2 : lo ≤ s.length) :
    QOp P E n ⟨dst, .slice t x (some a) none none, ty, pos, after, g⟩ ρ L (str (s.drop lo)) := fun c w hc _ => by
  subst hi
  simp only [execOp, hc.ev hx, Option.map_some, hc.ev ha, Option.map_none]
  rw [Sem.run_bind, run_sliceAt_string (h := u.h), str, run_slice_string_from_if w t ⟨s.toArray⟩ k lo u.h, if_pos ⟨by omega, by rw [str_size]; omega⟩, Int.toNat_natCast, str_extract, str_size, List.take_length]; rfl
end
end Go.SL
