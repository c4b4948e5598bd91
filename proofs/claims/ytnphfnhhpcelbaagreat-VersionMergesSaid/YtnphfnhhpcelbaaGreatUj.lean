/- The chapter's examples hold: the program's run of works, in the kernel. -/
import Derived.Test.YtnphfnhhpcelbaaGreatUe
import Derived.Test.YtnphfnhhpcelbaaGreatProg
import Derived.KernelRfl
namespace Go.DD
open Go Go.Proofs
theorem mixed:Tryz.prog.follows .mixedOrders=true:=by kernel_rfl
theorem A76:okBE (callE (tbP Tryz.prog 1000000) 10000 40 (.fn 15) [] .e 0)=true:=by kernel_rfl
theorem works:DCall Tryz.prog 15 [] fun d=>d=.v (.bool true):=(Bf6 mixed (Bq1 _ _) A76).2
theorem Co8:Known Tryz.prog 15 [] (.v (.bool true)):=⟨(Bf6 mixed (Bq1 _ _) A76).1,fun _ h=>(by cases h),works⟩
end Go.DD
