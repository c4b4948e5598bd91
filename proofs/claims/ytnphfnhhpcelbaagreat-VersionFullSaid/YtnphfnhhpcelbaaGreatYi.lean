/- A part. -/
import Derived.Test.YtnphfnhhpcelbaaGreatYh
import Derived.Test.YtnphfnhhpcelbaaGreatProg
import Derived.KernelRfl
namespace Go.DD
open Go Go.Proofs
set_option maxRecDepth 100000
noncomputable def te:Nat->Option FE:=VQ Tryz.prog 1000000
theorem Cz4:Dt 1000000 33 true Z1=sa:=by kernel_rfl
theorem Cz5:Dt 1000000 33 true Z0=ru:=by kernel_rfl
theorem t24:te 24=some e24:=by kernel_rfl
theorem t57:te 57=some e57:=by kernel_rfl
theorem t68:te 68=some e68:=by kernel_rfl
theorem t69:te 69=some e69:=by kernel_rfl
theorem ya:te 70=some e70:=by kernel_rfl
theorem t75:te 75=some e75:=by kernel_rfl
theorem t76:te 76=some e76:=by kernel_rfl
theorem t77:te 77=some e77:=by kernel_rfl
theorem t80:te 80=some e80:=by kernel_rfl
theorem t81:te 81=some e81:=by kernel_rfl
theorem t83:te 83=some e83:=by kernel_rfl
theorem XH:te 121=some pq:=by kernel_rfl
theorem XG:te 122=some po:=by kernel_rfl
theorem XF:te 123=some pn:=by kernel_rfl
theorem WW:te 138=some ow:=by kernel_rfl
theorem WU:te 139=some ov:=by kernel_rfl
theorem WT:te 141=some ou:=by kernel_rfl
theorem BM:te 142=some ot:=by kernel_rfl
theorem WQ:te 156=some oj:=by kernel_rfl
theorem WO:te 157=some oi:=by kernel_rfl
theorem WN:te 158=some oh:=by kernel_rfl
theorem BK:te 162=some oc:=by kernel_rfl
theorem BI:te 163=some oa:=by kernel_rfl
theorem WH:te 173=some nv:=by kernel_rfl
theorem WD:te 180=some np:=by kernel_rfl
theorem WC:te 181=some nn:=by kernel_rfl
theorem WA:te 182=some nm:=by kernel_rfl
theorem VZ:te 183=some nk:=by kernel_rfl
theorem VY:te 184=some nj:=by kernel_rfl
theorem VU:te 202=some nb:=by kernel_rfl
end Go.DD
