/- A part. -/
import Derived.Test.YtnphfnhhpcelbaaGreatZg
import Derived.Test.YtnphfnhhpcelbaaGreatZh
import Derived.Test.YtnphfnhhpcelbaaGreatProg
import Derived.KernelRfl
namespace Go.DD
open Go Go.Proofs
set_option maxRecDepth 100000
noncomputable def te:Nat→Option FE:=tbP Tryz.prog 1000000
theorem Cs0:evalE 1000000 33 true Az0=Bs0:=by kernel_rfl
theorem Cs1:evalE 1000000 33 true Az1=Bs1:=by kernel_rfl
theorem t13:te 13=some e13:=by kernel_rfl
theorem t24:te 24=some e24:=by kernel_rfl
theorem t32:te 32=some e32:=by kernel_rfl
theorem t51:te 51=some e51:=by kernel_rfl
theorem t52:te 52=some e52:=by kernel_rfl
theorem t57:te 57=some e57:=by kernel_rfl
theorem t67:te 67=some e67:=by kernel_rfl
theorem t68:te 68=some e68:=by kernel_rfl
theorem t69:te 69=some e69:=by kernel_rfl
theorem t70:te 70=some e70:=by kernel_rfl
theorem t75:te 75=some e75:=by kernel_rfl
theorem t76:te 76=some e76:=by kernel_rfl
theorem t77:te 77=some e77:=by kernel_rfl
theorem t80:te 80=some e80:=by kernel_rfl
theorem t81:te 81=some e81:=by kernel_rfl
theorem t83:te 83=some e83:=by kernel_rfl
theorem t120:te 120=some e120:=by kernel_rfl
theorem t121:te 121=some e121:=by kernel_rfl
theorem t122:te 122=some e122:=by kernel_rfl
theorem t123:te 123=some e123:=by kernel_rfl
theorem t138:te 138=some e138:=by kernel_rfl
theorem t139:te 139=some e139:=by kernel_rfl
theorem t141:te 141=some e141:=by kernel_rfl
theorem t142:te 142=some e142:=by kernel_rfl
theorem t156:te 156=some e156:=by kernel_rfl
theorem t157:te 157=some e157:=by kernel_rfl
theorem t158:te 158=some e158:=by kernel_rfl
theorem t162:te 162=some e162:=by kernel_rfl
theorem t163:te 163=some e163:=by kernel_rfl
theorem t173:te 173=some e173:=by kernel_rfl
theorem t180:te 180=some e180:=by kernel_rfl
theorem t181:te 181=some e181:=by kernel_rfl
theorem t182:te 182=some e182:=by kernel_rfl
theorem t183:te 183=some e183:=by kernel_rfl
theorem t184:te 184=some e184:=by kernel_rfl
theorem t202:te 202=some e202:=by kernel_rfl
end Go.DD
