/- The document's sum, walked. -/
import Derived.Test.YtmmkepghmmbppaaSl14
import Derived.Test.YtmmkepghmmbppaaTysD
import Derived.Test.YtmmkepghmmbppaaCrcP
set_option autoImplicit false
namespace Go.Proofs
open Go.SL
attribute [local irreducible] J JL QOp JOp seqQ blockQ loopQ retQ slc cel hex star pur stars Does RV Ent pAt
end Go.Proofs
