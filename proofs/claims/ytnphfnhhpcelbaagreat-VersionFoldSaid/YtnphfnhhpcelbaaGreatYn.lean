/- A part. -/
import Derived.Test.YtnphfnhhpcelbaaGreatYm
import Derived.Test.YtnphfnhhpcelbaaGreatYi
import Derived.Test.YtnphfnhhpcelbaaGreatProg
import Derived.KernelRfl
namespace Go.DD
open Go Go.Proofs
set_option maxRecDepth 100000
theorem t25:te 25=some e25:=by kernel_rfl
theorem t59:te 59=some e59:=by kernel_rfl
theorem t78:te 78=some e78:=by kernel_rfl
theorem t79:te 79=some e79:=by kernel_rfl
theorem YF:te 127=some ri:=by kernel_rfl
theorem YE:te 128=some rf:=by kernel_rfl
theorem YD:te 129=some re:=by kernel_rfl
theorem XN:te 164=some qf:=by kernel_rfl
theorem XM:te 165=some qe:=by kernel_rfl
theorem XL:te 166=some qd:=by kernel_rfl
theorem XC:te 187=some pf:=by kernel_rfl
theorem WZ:te 211=some ow:=by kernel_rfl
theorem G9:te 212=some ov:=by kernel_rfl
end Go.DD
