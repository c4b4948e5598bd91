/- The code of functions, as it is run (part 2): printed by a program out of the translation. -/
import Derived.Test.YtnphfnhhpcelbaaGreatYe
namespace Go.DD
open Go
set_option maxRecDepth 100000
end Go.DD
