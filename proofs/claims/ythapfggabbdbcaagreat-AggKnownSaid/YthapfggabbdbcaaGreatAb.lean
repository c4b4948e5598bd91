/- Chapter 05: the examples hold: the program's runs of works and of AggKnown, in the kernel. -/
import Derived.Test.YthapfggabbdbcaaGreatAa
namespace Go.DD
open Go Go.Proofs
theorem works_run : okBE (callR (tbP Tryz.prog 1000000) mm 10000 40 (.fn 7) [] .e 0) = true := by kernel_rfl
theorem works : Known Tryz.prog 7 [] (.v (.bool true)) :=
  ⟨(run_trueM mixed (tbP_ok _ _) mm_ok works_run).1, fun _ h => (by cases h), (run_trueM mixed (tbP_ok _ _) mm_ok works_run).2⟩
end Go.DD
