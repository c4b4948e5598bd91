/- A part. -/
import Derived.Test.YtnphfnhhpcelbaaGreatYf
namespace Go.DD
open Go
set_option maxRecDepth 100000
end Go.DD
