/- A part. -/
import Derived.Test.YtnphfnhhpcelbaaGreatYf
import Derived.Test.YtnphfnhhpcelbaaGreatProg
import Derived.KernelRfl
namespace Go.DD
open Go Go.Proofs
theorem mixed:Tryz.prog.follows .mixedOrders=true:=by kernel_rfl
theorem Bb0:J2 (iQ (WX Tryz.prog 1000000) 10000 40 (.fn 15) [] .e 0)=true:=by kernel_rfl
theorem BS:DCall Tryz.prog 15 [] λd=>d=.v (.bool true):=(Bk5 mixed (um _ _) Bb0).2
theorem C20:Known Tryz.prog 15 [] (.v (.bool true)):=⟨(Bk5 mixed (um _ _) Bb0).1,λ_ h=>(by cases h),BS⟩
end Go.DD
