/- The printed code is the program's. -/
import Derived.Test.YthapfggabbdbcaaGreatRa
import Derived.Test.YthapfggabbdbcaaGreatProg
import Derived.KernelRfl
namespace Go.DD
open Go Go.Proofs
set_option maxRecDepth 100000
noncomputable def te : Nat → Option FE := tbP Tryz.prog 1000000
theorem t3 : te 3 = some e3 := by kernel_rfl
theorem t5 : te 5 = some e5 := by kernel_rfl
theorem t6 : te 6 = some e6 := by kernel_rfl
theorem t23 : te 23 = some e23 := by kernel_rfl
theorem t24 : te 24 = some e24 := by kernel_rfl
end Go.DD
