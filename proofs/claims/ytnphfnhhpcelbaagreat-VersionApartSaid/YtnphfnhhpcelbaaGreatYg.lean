/- A part. -/
import Derived.Test.YtnphfnhhpcelbaaGreatYf
import Derived.Test.YtnphfnhhpcelbaaGreatProg
import Derived.KernelRfl
namespace Go.DD
open Go Go.Proofs
set_option maxRecDepth 100000
noncomputable def te:Nat->Option FE:=ZX Tryz.prog 1000000
theorem Cw2:En 1000000 33 true CX=zm:=by kernel_rfl
theorem Cw3:En 1000000 33 true CV=zl:=by kernel_rfl
theorem t13:te 13=some e13:=by kernel_rfl
theorem t24:te 24=some e24:=by kernel_rfl
theorem t51:te 51=some e51:=by kernel_rfl
theorem t52:te 52=some e52:=by kernel_rfl
theorem t57:te 57=some e57:=by kernel_rfl
theorem t67:te 67=some e67:=by kernel_rfl
theorem t68:te 68=some e68:=by kernel_rfl
theorem t69:te 69=some e69:=by kernel_rfl
theorem t70:te 70=some e70:=by kernel_rfl
theorem t75:te 75=some e75:=by kernel_rfl
theorem t76:te 76=some e76:=by kernel_rfl
theorem t77:te 77=some e77:=by kernel_rfl
theorem t80:te 80=some e80:=by kernel_rfl
theorem t81:te 81=some e81:=by kernel_rfl
theorem t83:te 83=some e83:=by kernel_rfl
theorem ee:te 120=some xx:=by kernel_rfl
theorem ec:te 121=some xw:=by kernel_rfl
theorem eb:te 122=some xv:=by kernel_rfl
theorem dv:te 123=some xu:=by kernel_rfl
theorem de:te 138=some xf:=by kernel_rfl
theorem db:te 139=some xe:=by kernel_rfl
theorem cu:te 141=some xd:=by kernel_rfl
theorem EZ:te 142=some xb:=by kernel_rfl
theorem cr:te 156=some wz:=by kernel_rfl
theorem cq:te 157=some wy:=by kernel_rfl
theorem cn:te 158=some wx:=by kernel_rfl
theorem EX:te 162=some wm:=by kernel_rfl
theorem EV:te 163=some wk:=by kernel_rfl
theorem bz:te 173=some wg:=by kernel_rfl
theorem bt:te 180=some wc:=by kernel_rfl
theorem bp:te 181=some wa:=by kernel_rfl
theorem bn:te 182=some vz:=by kernel_rfl
theorem bm:te 183=some vy:=by kernel_rfl
theorem bk:te 184=some vx:=by kernel_rfl
theorem bd:te 202=some vq:=by kernel_rfl
end Go.DD
