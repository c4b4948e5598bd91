/- Chapter 05: AggKnown's run. -/
import Derived.Test.YthapfggabbdbcaaGreatAb
namespace Go.DD
open Go Go.Proofs
def mmw : Memo := Tr.set mm 7 (some [([], .v (.bool true))])
theorem mmw_ok : MemoOK Tryz.prog mmw := mm_ok.add fun e he => by
  rw [List.mem_singleton] at he
  subst he
  exact works
theorem known_run : okBE (callR (tbP Tryz.prog 1000000) mmw 10000 40 (.fn 4) [] .e 0) = true := by kernel_rfl
theorem known : DCall Tryz.prog 4 [] fun d => d = .v (.bool true) := (run_trueM mixed (tbP_ok _ _) mmw_ok known_run).2
end Go.DD
