/- The printed code is the program's. -/
import Derived.Test.YtpaggdhijeabnaaGreatDoorRa
import Derived.Test.YtpaggdhijeabnaaGreatDoorProg
import Derived.KernelRfl
namespace Go.DD
open Go Go.Proofs
set_option maxRecDepth 100000
noncomputable def te : Nat → Option FE := tbP Tryz.prog 1000000
theorem t3 : te 3 = some e3 := by kernel_rfl
theorem t8 : te 8 = some e8 := by kernel_rfl
theorem t9 : te 9 = some e9 := by kernel_rfl
end Go.DD
