/- Itoa, for the abstract walk. -/
import Derived.Test.YtmefepbdognkdaaGreatDoorWz
namespace Go.A
open Go.Proofs
end Go.A
