/- A part. -/
import Derived.Test.YtnphfnhhpcelbaaGreatYd
import Derived.Test.YtnphfnhhpcelbaaGreatProg
import Derived.KernelRfl
namespace Go.DD
open Go Go.Proofs
theorem mixed:Tryz.prog.follows .mixedOrders=true:=by kernel_rfl
theorem Bb3:N0 (kK (ZX Tryz.prog 1000000) 10000 40 (.fn 15) [] .e 0)=true:=by kernel_rfl
theorem EG:DCall Tryz.prog 15 [] λd=>d=.v (.bool true):=(Bj5 mixed (zw _ _) Bb3).2
theorem Cw4:Known Tryz.prog 15 [] (.v (.bool true)):=⟨(Bj5 mixed (zw _ _) Bb3).1,λ_ h=>(by cases h),EG⟩
end Go.DD
