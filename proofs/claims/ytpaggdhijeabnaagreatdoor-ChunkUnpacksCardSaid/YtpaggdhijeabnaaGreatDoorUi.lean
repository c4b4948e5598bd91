/- Chapter 03: the examples hold: the program's run of works, in the kernel. Conditions: the package's variable half holds what the text lays. -/
import Derived.Test.YtpaggdhijeabnaaGreatDoorUg
import Derived.Test.YtpaggdhijeabnaaGreatDoorProg
import Derived.KernelRfl
namespace Go.DD
open Go Go.Proofs
theorem mixed : Tryz.prog.follows .mixedOrders = true := by kernel_rfl
theorem works_run : okBE (callR (tbP Tryz.prog 1000000) .e 10000 40 (.fn 7) [] .e 0) = true := by kernel_rfl
theorem works : Known Tryz.prog 7 [] (.v (.bool true)) :=
  ⟨(run_trueM mixed (tbP_ok _ _) (MemoOK.nil _) works_run).1, fun _ h => (by cases h), (run_trueM mixed (tbP_ok _ _) (MemoOK.nil _) works_run).2⟩
end Go.DD
