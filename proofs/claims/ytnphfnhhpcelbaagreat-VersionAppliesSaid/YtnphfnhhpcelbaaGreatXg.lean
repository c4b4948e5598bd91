/- A part. -/
import Derived.Test.YtnphfnhhpcelbaaGreatXf
import Derived.Test.YtnphfnhhpcelbaaGreatProg
import Derived.KernelRfl
namespace Go.DD
open Go Go.Proofs
set_option maxRecDepth 100000
noncomputable def te:Nat→Option FE:=tbP Tryz.prog 1000000
theorem t13:te 13=some e13:=by kernel_rfl
theorem t22:te 22=some e22:=by kernel_rfl
theorem t24:te 24=some e24:=by kernel_rfl
theorem t51:te 51=some e51:=by kernel_rfl
theorem t52:te 52=some e52:=by kernel_rfl
theorem t57:te 57=some e57:=by kernel_rfl
theorem t61:te 61=some e61:=by kernel_rfl
theorem t64:te 64=some e64:=by kernel_rfl
theorem t65:te 65=some e65:=by kernel_rfl
theorem t70:te 70=some e70:=by kernel_rfl
theorem t74:te 74=some e74:=by kernel_rfl
theorem t75:te 75=some e75:=by kernel_rfl
theorem t83:te 83=some e83:=by kernel_rfl
theorem t120:te 120=some e120:=by kernel_rfl
theorem t121:te 121=some e121:=by kernel_rfl
theorem t122:te 122=some e122:=by kernel_rfl
theorem t123:te 123=some e123:=by kernel_rfl
theorem t132:te 132=some e132:=by kernel_rfl
theorem t133:te 133=some e133:=by kernel_rfl
theorem t134:te 134=some e134:=by kernel_rfl
theorem t136:te 136=some e136:=by kernel_rfl
theorem t141:te 141=some e141:=by kernel_rfl
theorem t142:te 142=some e142:=by kernel_rfl
theorem t151:te 151=some e151:=by kernel_rfl
theorem t156:te 156=some e156:=by kernel_rfl
theorem t157:te 157=some e157:=by kernel_rfl
theorem t158:te 158=some e158:=by kernel_rfl
theorem t162:te 162=some e162:=by kernel_rfl
theorem t163:te 163=some e163:=by kernel_rfl
theorem t167:te 167=some e167:=by kernel_rfl
theorem t168:te 168=some e168:=by kernel_rfl
theorem t169:te 169=some e169:=by kernel_rfl
theorem t170:te 170=some e170:=by kernel_rfl
theorem t171:te 171=some e171:=by kernel_rfl
theorem t173:te 173=some e173:=by kernel_rfl
theorem t177:te 177=some e177:=by kernel_rfl
theorem t178:te 178=some e178:=by kernel_rfl
theorem t180:te 180=some e180:=by kernel_rfl
theorem t181:te 181=some e181:=by kernel_rfl
theorem t182:te 182=some e182:=by kernel_rfl
theorem t183:te 183=some e183:=by kernel_rfl
theorem t184:te 184=some e184:=by kernel_rfl
theorem t188:te 188=some e188:=by kernel_rfl
theorem t189:te 189=some e189:=by kernel_rfl
theorem t190:te 190=some e190:=by kernel_rfl
theorem t202:te 202=some e202:=by kernel_rfl
theorem t213:te 213=some e213:=by kernel_rfl
theorem t214:te 214=some e214:=by kernel_rfl
theorem t215:te 215=some e215:=by kernel_rfl
theorem t216:te 216=some e216:=by kernel_rfl
theorem t227:te 227=some e227:=by kernel_rfl
theorem t231:te 231=some e231:=by kernel_rfl
theorem t235:te 235=some e235:=by kernel_rfl
end Go.DD
