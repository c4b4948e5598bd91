/- A part. -/
import Derived.Test.YtnphfnhhpcelbaaGreatYm
import Derived.Test.YtnphfnhhpcelbaaGreatYi
import Derived.Test.YtnphfnhhpcelbaaGreatProg
import Derived.KernelRfl
namespace Go.DD
open Go Go.Proofs
set_option maxRecDepth 100000
theorem t25:te 25=some e25:=by kernel_rfl
theorem t59:te 59=some e59:=by kernel_rfl
theorem t78:te 78=some e78:=by kernel_rfl
theorem t79:te 79=some e79:=by kernel_rfl
theorem XB:te 127=some pg:=by kernel_rfl
theorem XA:te 128=some pf:=by kernel_rfl
theorem WZ:te 129=some pd:=by kernel_rfl
theorem WK:te 164=some nz:=by kernel_rfl
theorem WJ:te 165=some ny:=by kernel_rfl
theorem WI:te 166=some nw:=by kernel_rfl
theorem VW:te 187=some ng:=by kernel_rfl
theorem VT:te 211=some mz:=by kernel_rfl
theorem E4:te 212=some my:=by kernel_rfl
end Go.DD
