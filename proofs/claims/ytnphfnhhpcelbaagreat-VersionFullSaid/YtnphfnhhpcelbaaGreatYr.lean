/- A part. -/
import Derived.Test.YtnphfnhhpcelbaaGreatYp
import Derived.Test.YtnphfnhhpcelbaaGreatYq
import Derived.Test.YtnphfnhhpcelbaaGreatYn
import Derived.Test.YtnphfnhhpcelbaaGreatProg
import Derived.KernelRfl
namespace Go.DD
open Go Go.Proofs
set_option maxRecDepth 100000
theorem Cq2:Dt 1000000 13 true W3=tu:=by kernel_rfl
theorem Cq3:Dt 1000000 13 true W2=tt:=by kernel_rfl
theorem t17:te 17=some e17:=by kernel_rfl
theorem t58:te 58=some e58:=by kernel_rfl
theorem t60:te 60=some e60:=by kernel_rfl
theorem XE:te 124=some pk:=by kernel_rfl
theorem XD:te 125=some pj:=by kernel_rfl
theorem XC:te 126=some ph:=by kernel_rfl
theorem WY:te 130=some oy:=by kernel_rfl
theorem WX:te 131=some ox:=by kernel_rfl
theorem WM:te 159=some og:=by kernel_rfl
theorem BL:te 160=some oe:=by kernel_rfl
theorem WL:te 161=some od:=by kernel_rfl
theorem WG:te 176=some nq:=by kernel_rfl
theorem VX:te 185=some ni:=by kernel_rfl
theorem BH:te 186=some nh:=by kernel_rfl
theorem VV:te 201=some nf:=by kernel_rfl
theorem BG:te 203=some na:=by kernel_rfl
end Go.DD
