/- The chapter's examples hold: the program's run of works, in the kernel. -/
import Derived.Test.YtnphfnhhpcelbaaGreatYe
import Derived.Test.YtnphfnhhpcelbaaGreatProg
import Derived.KernelRfl
namespace Go.DD
open Go Go.Proofs
theorem mixed:Tryz.prog.follows .mixedOrders=true:=by kernel_rfl
theorem A53:okBE (callE (tbP Tryz.prog 1000000) 10000 40 (.fn 15) [] .e 0)=true:=by kernel_rfl
theorem works:DCall Tryz.prog 15 [] fun d=>d=.v (.bool true):=(Bd0 mixed (Bm4 _ _) A53).2
theorem Ci1:Known Tryz.prog 15 [] (.v (.bool true)):=⟨(Bd0 mixed (Bm4 _ _) A53).1,fun _ h=>(by cases h),works⟩
end Go.DD
