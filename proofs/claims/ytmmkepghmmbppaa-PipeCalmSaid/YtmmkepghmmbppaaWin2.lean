/- The document's window, walked; numbers compared. -/
import Derived.Test.YtmmkepghmmbppaaWin1
import Derived.Test.YtmmkepghmmbppaaSl17
import Derived.Test.YtmmkepghmmbppaaSl13
set_option autoImplicit false
namespace Go.Proofs
open Go.SL
def tZ : Ty Int := ⟨3, 1, fun n => [.int .i64 n], fun _ => rfl, by decide, fun a v hv => by simp at hv; subst hv; rfl⟩
instance : TyU Try.prog tZ.e (.int .i64) := inferInstanceAs (TyU Try.prog 3 (.int .i64))
instance : TyI Try.prog tZ.e 1 (.int .i64 0) 8 := inferInstanceAs (TyI Try.prog 3 1 (.int .i64 0) 8)
instance : TyU Try.prog 54 (.slice tZ.e) := inferInstanceAs (TyU Try.prog 54 (.slice 3))
attribute [local irreducible] J JL QOp JOp seqQ blockQ loopQ retQ slc cel hex star pur stars Does RV Ent pAt scopeQ
abbrev refW (size : Nat) (X : SV) : Value := .agg #[.int .i64 (size : Int), X.v]
end Go.Proofs
