/- How acts lie in cells. -/
import Derived.Test.YtlaemkgdffgmhaaRef18
set_option autoImplicit false
namespace Go.Proofs
open Go.SL
def tAct : Ty Ac := ⟨33, 3, fun a => [.int .i64 a.kind, str a.text, .int .u64 (a.keep : Int)], fun _ => rfl, by decide, fun a v hv => by simp at hv; rcases hv with rfl | rfl | rfl <;> rfl⟩
instance : TyI Try.prog tAct.e 3 (.agg #[.int .i64 0, .string ⟨#[]⟩, .int .u64 0]) 32 := inferInstanceAs (TyI Try.prog 33 3 (.agg #[.int .i64 0, .string ⟨#[]⟩, .int .u64 0]) 32)
instance : TyU Try.prog 22 (.slice tAct.e) := inferInstanceAs (TyU Try.prog 22 (.slice 33))
def okAct (a : Ac) : Prop := a.keep < 2 ^ 64
end Go.Proofs
