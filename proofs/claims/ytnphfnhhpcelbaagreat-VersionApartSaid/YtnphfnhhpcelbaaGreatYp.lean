/- A part. -/
import Derived.Test.YtnphfnhhpcelbaaGreatYn
import Derived.Test.YtnphfnhhpcelbaaGreatYo
import Derived.Test.YtnphfnhhpcelbaaGreatYl
import Derived.Test.YtnphfnhhpcelbaaGreatProg
import Derived.KernelRfl
namespace Go.DD
open Go Go.Proofs
set_option maxRecDepth 100000
theorem Co8:En 1000000 13 true BQ=Be6:=by kernel_rfl
theorem Co9:En 1000000 13 true BP=Be7:=by kernel_rfl
theorem t14:te 14=some e14:=by kernel_rfl
theorem t17:te 17=some e17:=by kernel_rfl
theorem t58:te 58=some e58:=by kernel_rfl
theorem t60:te 60=some e60:=by kernel_rfl
theorem du:te 124=some xt:=by kernel_rfl
theorem dn:te 125=some xq:=by kernel_rfl
theorem dm:te 126=some xp:=by kernel_rfl
theorem dh:te 130=some xi:=by kernel_rfl
theorem dg:te 131=some xg:=by kernel_rfl
theorem cj:te 159=some wu:=by kernel_rfl
theorem EY:te 160=some wq:=by kernel_rfl
theorem cg:te 161=some wo:=by kernel_rfl
theorem bu:te 176=some we:=by kernel_rfl
theorem bh:te 185=some vv:=by kernel_rfl
theorem EU:te 186=some vu:=by kernel_rfl
theorem bf:te 201=some vr:=by kernel_rfl
theorem ET:te 203=some vp:=by kernel_rfl
theorem ax:te 204=some vo:=by kernel_rfl
theorem av:te 205=some vn:=by kernel_rfl
theorem au:te 206=some vm:=by kernel_rfl
theorem aq:te 207=some vl:=by kernel_rfl
theorem ao:te 208=some vk:=by kernel_rfl
theorem ak:te 209=some vj:=by kernel_rfl
theorem aj:te 210=some vi:=by kernel_rfl
theorem ah:te 218=some vf:=by kernel_rfl
theorem ag:te 219=some ve:=by kernel_rfl
theorem af:te 223=some vd:=by kernel_rfl
theorem ae:te 224=some vb:=by kernel_rfl
theorem ab:te 225=some va:=by kernel_rfl
theorem ZZ:te 229=some uz:=by kernel_rfl
end Go.DD
