/- The printed code is the program's. -/
import Derived.Test.YtpaggdhijeabnaaGreatDoorUj
import Derived.Test.YtpaggdhijeabnaaGreatDoorProg
import Derived.KernelRfl
namespace Go.DD
open Go Go.Proofs
set_option maxRecDepth 100000
noncomputable def te : Nat → Option FE := tbP Tryz.prog 1000000
theorem ta36_1 : evalE 1000000 46 true da36_1 = ca36_1 := by kernel_rfl
theorem tb36_1 : evalE 1000000 46 true db36_1 = cb36_1 := by kernel_rfl
theorem ta68_1 : evalE 1000000 91 true da68_1 = ca68_1 := by kernel_rfl
theorem tb68_1 : evalE 1000000 91 true db68_1 = cb68_1 := by kernel_rfl
theorem t4 : te 4 = some e4 := by kernel_rfl
theorem t5 : te 5 = some e5 := by kernel_rfl
theorem t6 : te 6 = some e6 := by kernel_rfl
theorem t10 : te 10 = some e10 := by kernel_rfl
theorem t11 : te 11 = some e11 := by kernel_rfl
theorem t12 : te 12 = some e12 := by kernel_rfl
theorem t13 : te 13 = some e13 := by kernel_rfl
theorem t19 : te 19 = some e19 := by kernel_rfl
theorem t20 : te 20 = some e20 := by kernel_rfl
theorem t21 : te 21 = some e21 := by kernel_rfl
theorem t22 : te 22 = some e22 := by kernel_rfl
theorem t28 : te 28 = some e28 := by kernel_rfl
theorem t32 : te 32 = some e32 := by kernel_rfl
theorem t33 : te 33 = some e33 := by kernel_rfl
theorem t34 : te 34 = some e34 := by kernel_rfl
theorem t35 : te 35 = some e35 := by kernel_rfl
theorem t36 : te 36 = some e36 := by kernel_rfl
theorem t37 : te 37 = some e37 := by kernel_rfl
theorem t38 : te 38 = some e38 := by kernel_rfl
theorem t39 : te 39 = some e39 := by kernel_rfl
theorem t40 : te 40 = some e40 := by kernel_rfl
theorem t41 : te 41 = some e41 := by kernel_rfl
theorem t42 : te 42 = some e42 := by kernel_rfl
theorem t43 : te 43 = some e43 := by kernel_rfl
theorem t44 : te 44 = some e44 := by kernel_rfl
theorem t45 : te 45 = some e45 := by kernel_rfl
theorem t46 : te 46 = some e46 := by kernel_rfl
theorem t47 : te 47 = some e47 := by kernel_rfl
theorem t64 : te 64 = some e64 := by kernel_rfl
theorem t65 : te 65 = some e65 := by kernel_rfl
theorem t66 : te 66 = some e66 := by kernel_rfl
theorem t67 : te 67 = some e67 := by kernel_rfl
theorem t68 : te 68 = some e68 := by kernel_rfl
theorem t69 : te 69 = some e69 := by kernel_rfl
theorem t70 : te 70 = some e70 := by kernel_rfl
theorem t92 : te 92 = some e92 := by kernel_rfl
theorem t93 : te 93 = some e93 := by kernel_rfl
theorem t114 : te 114 = some e114 := by kernel_rfl
end Go.DD
