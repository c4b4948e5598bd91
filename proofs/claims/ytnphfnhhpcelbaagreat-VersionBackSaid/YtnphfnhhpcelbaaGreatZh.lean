/- A part. -/
import Derived.Test.YtnphfnhhpcelbaaGreatZe
namespace Go.DD
open Go
set_option maxRecDepth 100000
end Go.DD
