/- A part. -/
import Derived.Test.YtnphfnhhpcelbaaGreatXn
import Derived.Test.YtnphfnhhpcelbaaGreatXo
import Derived.Test.YtnphfnhhpcelbaaGreatXl
import Derived.Test.YtnphfnhhpcelbaaGreatProg
import Derived.KernelRfl
namespace Go.DD
open Go Go.Proofs
set_option maxRecDepth 100000
theorem Cg9:evalE 1000000 13 true Ar2=A88:=by kernel_rfl
theorem Ch0:evalE 1000000 13 true Ar3=A89:=by kernel_rfl
theorem t3:te 3=some e3:=by kernel_rfl
theorem t14:te 14=some e14:=by kernel_rfl
theorem t17:te 17=some e17:=by kernel_rfl
theorem t18:te 18=some e18:=by kernel_rfl
theorem t58:te 58=some e58:=by kernel_rfl
theorem t60:te 60=some e60:=by kernel_rfl
theorem t62:te 62=some e62:=by kernel_rfl
theorem t63:te 63=some e63:=by kernel_rfl
theorem t124:te 124=some e124:=by kernel_rfl
theorem t125:te 125=some e125:=by kernel_rfl
theorem t126:te 126=some e126:=by kernel_rfl
theorem t130:te 130=some e130:=by kernel_rfl
theorem t131:te 131=some e131:=by kernel_rfl
theorem t135:te 135=some e135:=by kernel_rfl
theorem t137:te 137=some e137:=by kernel_rfl
theorem t159:te 159=some e159:=by kernel_rfl
theorem t160:te 160=some e160:=by kernel_rfl
theorem t161:te 161=some e161:=by kernel_rfl
theorem t176:te 176=some e176:=by kernel_rfl
theorem t185:te 185=some e185:=by kernel_rfl
theorem t186:te 186=some e186:=by kernel_rfl
theorem t201:te 201=some e201:=by kernel_rfl
theorem t203:te 203=some e203:=by kernel_rfl
theorem t204:te 204=some e204:=by kernel_rfl
theorem t205:te 205=some e205:=by kernel_rfl
theorem t206:te 206=some e206:=by kernel_rfl
theorem t207:te 207=some e207:=by kernel_rfl
theorem t208:te 208=some e208:=by kernel_rfl
theorem t209:te 209=some e209:=by kernel_rfl
theorem t210:te 210=some e210:=by kernel_rfl
theorem t218:te 218=some e218:=by kernel_rfl
theorem t219:te 219=some e219:=by kernel_rfl
theorem t223:te 223=some e223:=by kernel_rfl
theorem t224:te 224=some e224:=by kernel_rfl
theorem t225:te 225=some e225:=by kernel_rfl
theorem t229:te 229=some e229:=by kernel_rfl
end Go.DD
