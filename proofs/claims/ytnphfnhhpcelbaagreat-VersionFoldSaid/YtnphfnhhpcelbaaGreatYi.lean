/- A part. -/
import Derived.Test.YtnphfnhhpcelbaaGreatYh
import Derived.Test.YtnphfnhhpcelbaaGreatProg
import Derived.KernelRfl
namespace Go.DD
open Go Go.Proofs
set_option maxRecDepth 100000
noncomputable def te:Nat->Option FE:=WX Tryz.prog 1000000
theorem C18:Dv 1000000 33 true AQ=uc:=by kernel_rfl
theorem C19:Dv 1000000 33 true AP=ua:=by kernel_rfl
theorem t13:te 13=some e13:=by kernel_rfl
theorem t24:te 24=some e24:=by kernel_rfl
theorem t51:te 51=some e51:=by kernel_rfl
theorem t52:te 52=some e52:=by kernel_rfl
theorem t57:te 57=some e57:=by kernel_rfl
theorem t68:te 68=some e68:=by kernel_rfl
theorem t69:te 69=some e69:=by kernel_rfl
theorem t70:te 70=some e70:=by kernel_rfl
theorem t75:te 75=some e75:=by kernel_rfl
theorem t76:te 76=some e76:=by kernel_rfl
theorem t77:te 77=some e77:=by kernel_rfl
theorem t80:te 80=some e80:=by kernel_rfl
theorem t81:te 81=some e81:=by kernel_rfl
theorem t83:te 83=some e83:=by kernel_rfl
theorem YM:te 120=some sd:=by kernel_rfl
theorem YL:te 121=some sb:=by kernel_rfl
theorem YK:te 122=some sa:=by kernel_rfl
theorem YJ:te 123=some ru:=by kernel_rfl
theorem YA:te 138=some qx:=by kernel_rfl
theorem XZ:te 139=some qw:=by kernel_rfl
theorem XY:te 141=some qv:=by kernel_rfl
theorem CZ:te 142=some qu:=by kernel_rfl
theorem XT:te 156=some qn:=by kernel_rfl
theorem XS:te 157=some qm:=by kernel_rfl
theorem XR:te 158=some ql:=by kernel_rfl
theorem CX:te 162=some qh:=by kernel_rfl
theorem CV:te 163=some qg:=by kernel_rfl
theorem XK:te 173=some pz:=by kernel_rfl
theorem XI:te 180=some pq:=by kernel_rfl
theorem XH:te 181=some po:=by kernel_rfl
theorem XG:te 182=some pn:=by kernel_rfl
theorem XF:te 183=some pk:=by kernel_rfl
theorem XE:te 184=some pj:=by kernel_rfl
theorem XA:te 202=some oy:=by kernel_rfl
end Go.DD
