/- A part. -/
import Derived.Test.YtnphfnhhpcelbaaGreatXd
import Derived.Test.YtnphfnhhpcelbaaGreatProg
import Derived.KernelRfl
namespace Go.DD
open Go Go.Proofs
theorem mixed:Tryz.prog.follows .mixedOrders=true:=by kernel_rfl
theorem A62:okBE (callE (tbP Tryz.prog 1000000) 10000 40 (.fn 15) [] .e 0)=true:=by kernel_rfl
theorem works:DCall Tryz.prog 15 [] fun d=>d=.v (.bool true):=(Bd5 mixed (Bn6 _ _) A62).2
theorem Co3:Known Tryz.prog 15 [] (.v (.bool true)):=⟨(Bd5 mixed (Bn6 _ _) A62).1,fun _ h=>(by cases h),works⟩
end Go.DD
