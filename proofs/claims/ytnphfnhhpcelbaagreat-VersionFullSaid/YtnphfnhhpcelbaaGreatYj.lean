/- A part. -/
import Derived.Test.YtnphfnhhpcelbaaGreatYf
import Derived.Test.YtnphfnhhpcelbaaGreatProg
import Derived.KernelRfl
namespace Go.DD
open Go Go.Proofs
theorem mixed:Tryz.prog.follows .mixedOrders=true:=by kernel_rfl
theorem Ba4:G6 (jL (VQ Tryz.prog 1000000) 10000 40 (.fn 15) [] .e 0)=true:=by kernel_rfl
theorem AM:DCall Tryz.prog 15 [] λd=>d=.v (.bool true):=(Bk5 mixed (sg _ _) Ba4).2
theorem Cz6:Known Tryz.prog 15 [] (.v (.bool true)):=⟨(Bk5 mixed (sg _ _) Ba4).1,λ_ h=>(by cases h),AM⟩
end Go.DD
