/- Texts one behind the other, walked. -/
import Derived.Test.YtogjhcelmbhooaaTysD
import Derived.Test.YtogjhcelmbhooaaSl14
import Derived.Test.YtogjhcelmbhooaaWireP
set_option autoImplicit false
namespace Go.Proofs
open Go.SL
attribute [local irreducible] J JL QOp JOp seqQ blockQ loopQ retQ slc cel hex star pur stars Does RV Ent pAt
def tS : Ty (List UInt8) := ⟨9, 1, fun s => [str s], fun _ => rfl, by decide, fun a v hv => by simp at hv; subst hv; rfl⟩
instance : TyU Try.prog tS.e .string := inferInstanceAs (TyU Try.prog 9 .string)
instance : TyI Try.prog tS.e 1 (.string ⟨#[]⟩) 16 := inferInstanceAs (TyI Try.prog 9 1 (.string ⟨#[]⟩) 16)
instance : TyU Try.prog 52 (.slice tS.e) := inferInstanceAs (TyU Try.prog 52 (.slice 9))
end Go.Proofs
