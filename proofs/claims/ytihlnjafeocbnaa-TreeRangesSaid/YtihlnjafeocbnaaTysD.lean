/- How bytes lie in cells. -/
import Derived.Test.YtihlnjafeocbnaaFacts
set_option autoImplicit false
namespace Go.Proofs
open Go.SL
def tB : Ty UInt8 := ⟨5, 1, fun b => [.int .u8 (b.toNat : Int)], fun _ => rfl, by decide, fun a v hv => by simp at hv; subst hv; rfl⟩
theorem tB_enc (b : UInt8) : tB.enc b = [.int .u8 (b.toNat : Int)] := rfl
instance : TyU Try.prog tB.e (.int .u8) := inferInstanceAs (TyU Try.prog 5 (.int .u8))
instance : TyI Try.prog tB.e 1 (.int .u8 0) 1 := inferInstanceAs (TyI Try.prog 5 1 (.int .u8 0) 1)
instance : TyU Try.prog 46 (.slice tB.e) := inferInstanceAs (TyU Try.prog 46 (.slice 5))
end Go.Proofs
