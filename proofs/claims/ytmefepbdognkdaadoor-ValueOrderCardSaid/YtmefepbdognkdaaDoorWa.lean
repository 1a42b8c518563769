/- Itoa, for the abstract walk. -/
import Derived.Test.YtmefepbdognkdaaDoorWz
namespace Go.A
open Go.Proofs
end Go.A
