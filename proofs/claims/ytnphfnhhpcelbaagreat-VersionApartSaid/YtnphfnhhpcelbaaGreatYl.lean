/- A part. -/
import Derived.Test.YtnphfnhhpcelbaaGreatYk
import Derived.Test.YtnphfnhhpcelbaaGreatYg
import Derived.Test.YtnphfnhhpcelbaaGreatProg
import Derived.KernelRfl
namespace Go.DD
open Go Go.Proofs
set_option maxRecDepth 100000
theorem Cy0:En 1000000 105 true CR=zj:=by kernel_rfl
theorem Cy1:En 1000000 105 true CQ=zi:=by kernel_rfl
theorem t20:te 20=some e20:=by kernel_rfl
theorem t25:te 25=some e25:=by kernel_rfl
theorem t59:te 59=some e59:=by kernel_rfl
theorem t78:te 78=some e78:=by kernel_rfl
theorem t79:te 79=some e79:=by kernel_rfl
theorem dk:te 127=some xm:=by kernel_rfl
theorem dj:te 128=some xk:=by kernel_rfl
theorem di:te 129=some xj:=by kernel_rfl
theorem cf:te 164=some wj:=by kernel_rfl
theorem cd:te 165=some wi:=by kernel_rfl
theorem cb:te 166=some wh:=by kernel_rfl
theorem bg:te 187=some vt:=by kernel_rfl
theorem ai:te 211=some vh:=by kernel_rfl
theorem K7:te 212=some vg:=by kernel_rfl
end Go.DD
