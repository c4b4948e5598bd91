/- A part. -/
import Derived.Test.YtnphfnhhpcelbaaGreatXk
import Derived.Test.YtnphfnhhpcelbaaGreatXg
import Derived.Test.YtnphfnhhpcelbaaGreatProg
import Derived.KernelRfl
namespace Go.DD
open Go Go.Proofs
set_option maxRecDepth 100000
theorem t16:te 16=some e16:=by kernel_rfl
theorem t19:te 19=some e19:=by kernel_rfl
theorem t55:te 55=some e55:=by kernel_rfl
theorem t56:te 56=some e56:=by kernel_rfl
theorem t59:te 59=some e59:=by kernel_rfl
theorem t66:te 66=some e66:=by kernel_rfl
theorem t127:te 127=some e127:=by kernel_rfl
theorem t128:te 128=some e128:=by kernel_rfl
theorem t129:te 129=some e129:=by kernel_rfl
theorem t164:te 164=some e164:=by kernel_rfl
theorem t165:te 165=some e165:=by kernel_rfl
theorem t166:te 166=some e166:=by kernel_rfl
theorem t187:te 187=some e187:=by kernel_rfl
theorem t211:te 211=some e211:=by kernel_rfl
theorem t212:te 212=some e212:=by kernel_rfl
end Go.DD
