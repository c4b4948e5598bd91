/- A part. -/
import Derived.Test.YtnphfnhhpcelbaaGreatYp
import Derived.Test.YtnphfnhhpcelbaaGreatYq
import Derived.Test.YtnphfnhhpcelbaaGreatYn
import Derived.Test.YtnphfnhhpcelbaaGreatProg
import Derived.KernelRfl
namespace Go.DD
open Go Go.Proofs
set_option maxRecDepth 100000
theorem Cs1:Dv 1000000 13 true Y6=vq:=by kernel_rfl
theorem Cs2:Dv 1000000 13 true Y5=vp:=by kernel_rfl
theorem t14:te 14=some e14:=by kernel_rfl
theorem t17:te 17=some e17:=by kernel_rfl
theorem t58:te 58=some e58:=by kernel_rfl
theorem t60:te 60=some e60:=by kernel_rfl
theorem YI:te 124=some rq:=by kernel_rfl
theorem YH:te 125=some rn:=by kernel_rfl
theorem YG:te 126=some rm:=by kernel_rfl
theorem YC:te 130=some qz:=by kernel_rfl
theorem YB:te 131=some qy:=by kernel_rfl
theorem XQ:te 159=some qk:=by kernel_rfl
theorem CY:te 160=some qj:=by kernel_rfl
theorem XO:te 161=some qi:=by kernel_rfl
theorem XJ:te 176=some pw:=by kernel_rfl
theorem XD:te 185=some ph:=by kernel_rfl
theorem CU:te 186=some pg:=by kernel_rfl
theorem XB:te 201=some pd:=by kernel_rfl
theorem CT:te 203=some ox:=by kernel_rfl
end Go.DD
