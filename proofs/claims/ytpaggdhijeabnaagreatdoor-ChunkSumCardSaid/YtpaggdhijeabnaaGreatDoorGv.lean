/- The package-level variables that are read as what they hold, by number. -/
import GoSem.Core.Program
namespace Go.DD
def glv : Nat → Option (List Value) := fun g => if g = 0 then some [.int .u32 0, .int .u32 274646895, .int .u32 549293790, .int .u32 820201905, .int .u32 1098587580, .int .u32 1361435347, .int .u32 1640403810, .int .u32 1905808397, .int .u32 2197175160, .int .u32 2460548119, .int .u32 2722870694, .int .u32 2987750089, .int .u32 3280807620, .int .u32 3553878443, .int .u32 3811616794, .int .u32 4084100981] else none
end Go.DD
