/- A part. -/
import Derived.Test.YtnphfnhhpcelbaaGreatYt
import Derived.Test.YtnphfnhhpcelbaaGreatYr
import Derived.Test.YtnphfnhhpcelbaaGreatProg
import Derived.KernelRfl
namespace Go.DD
open Go Go.Proofs
set_option maxRecDepth 100000
theorem t27:te 27=some e27:=by kernel_rfl
theorem VS:te 28=some e28:=by kernel_rfl
theorem t29:te 29=some e29:=by kernel_rfl
theorem t37:te 37=some e37:=by kernel_rfl
theorem t82:te 82=some e82:=by kernel_rfl
theorem t84:te 84=some e84:=by kernel_rfl
theorem t85:te 85=some e85:=by kernel_rfl
theorem t86:te 86=some e86:=by kernel_rfl
theorem t87:te 87=some e87:=by kernel_rfl
theorem VR:te 97=some e97:=by kernel_rfl
theorem t98:te 98=some e98:=by kernel_rfl
theorem t99:te 99=some e99:=by kernel_rfl
theorem WS:te 143=some oo:=by kernel_rfl
end Go.DD
