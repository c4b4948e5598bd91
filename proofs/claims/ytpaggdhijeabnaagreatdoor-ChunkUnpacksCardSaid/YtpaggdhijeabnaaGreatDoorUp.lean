/- Chapter 03, the statements' arguments: the package's variable, bytes. Conditions: those that each theorem states. -/
import Derived.Test.YtpaggdhijeabnaaGreatDoorUg
import Derived.Test.YtpaggdhijeabnaaGreatDoorUh
import Derived.Test.YtpaggdhijeabnaaGreatDoorRows
import Derived.Test.YtpaggdhijeabnaaGreatDoorCards
import Derived.Test.YtpaggdhijeabnaaGreatDoorTie
import Derived.WalkKit
import Derived.ProofKit
import Derived.OpenShut
import Derived.LaidMore
import Derived.Lay
import Derived.SevenTiedAt
import Derived.Stop.Joined
import Derived.ChangeSlices
import Derived.Carry
namespace Go.Proofs.YtpaggdhijeabnaaGreatDoor.chunkArgs
open Go.ChangeShapes Go.WideShapes Go.ChangeAt Go.RowKit Go.DD
set_option linter.unusedVariables false

theorem own : ownKnob Tryz.prog.godebug = none := by kernel_rfl
theorem u49 : Tryz.prog.underlying 49 = some (.array 16 24) := by kernel_rfl
theorem u24 : Tryz.prog.underlying 24 = some (.int .u32) := by kernel_rfl
theorem u22 : Tryz.prog.underlying 22 = some (.slice 5) := by kernel_rfl
theorem u5 : Tryz.prog.underlying 5 = some (.int .u8) := by kernel_rfl
theorem u4 : Tryz.prog.underlying 4 = some .bool := by kernel_rfl
theorem c24 : Tryz.prog.cellsOf 24 = 1 := by kernel_rfl
theorem c5 : Tryz.prog.cellsOf 5 = 1 := by kernel_rfl

def halfZ : List Int := [0, 274646895, 549293790, 820201905, 1098587580, 1361435347, 1640403810, 1905808397, 2197175160, 2460548119, 2722870694, 2987750089, 3280807620, 3553878443, 3811616794, 4084100981]
theorem halfZ_laid : (Rows.laid_tesseract_chunk_half : DataW Unit) = .agg (halfZ.map fun n => .lit (.int .u32 n)) := rfl
theorem glv_eq : glv 0 = some (halfZ.map fun n => .int .u32 n) := rfl

theorem half_cell {W : World} (h : laidMetH Tryz.prog [("tesseract/chunk.half", Rows.laid_tesseract_chunk_half)] W) (r : Nat) (hr : r < 16) : W.cell? ⟨0, r, none⟩ = some (.int .u32 (halfZ.getD r 0)) := by
  rw [MakeChecks.laidMetH_plain _ _ _ (by kernel_rfl)] at h
  obtain ⟨ps, ⟨g, t, cs, fuel, p, q, hg, ht, hv, hd, _, _⟩, _, _⟩ := h
  obtain rfl := Option.some.inj ((show Tryz.prog.globalNamed "tesseract/chunk.half" = some 0 by kernel_rfl).symm.trans hg)
  obtain rfl := Option.some.inj ((show (Tryz.prog.globals[0]?).map (·.type) = some 49 by kernel_rfl).symm.trans ht)
  obtain ⟨xs, m, _, ex, _, hl, hel⟩ := DataW.trod_array u49 hd
  have hE := hel r hr
  rw [c24, Nat.mul_one, List.getElem?_eq_getElem (by omega)] at hE
  obtain ⟨z, e1, e2, _⟩ := DataW.trod_int u24 hE
  have hlen : halfZ.length = 16 := by kernel_rfl
  have e3 : (xs.map (·.1)) = halfZ.map fun n => .lit (.int .u32 n) := (DataW.agg.inj (Prod.mk.inj ex).1).symm
  have e4 : (xs.map (·.1))[r]? = (halfZ.map fun n => (DataW.lit (.int .u32 n) : DataW Unit))[r]? := by rw [e3]
  rw [List.getElem?_map, List.getElem?_map, List.getElem?_eq_getElem (by omega : r < xs.length), List.getElem?_eq_getElem (by omega : r < halfZ.length), e2] at e4
  have hz : z = halfZ.getD r 0 := by
    simp only [Option.map_some, Option.some.injEq, DataW.lit.injEq, Lit.int.injEq, true_and] at e4
    rw [e4, List.getD, List.getElem?_eq_getElem (by omega : r < halfZ.length)]; rfl
  rw [World.var?_cell hg hv r, ← hz]
  have : cs.toList[r]? = some (.int .u32 z) := by
    have h0 : ((cs.toList.drop r).take 1)[0]? = some (.int .u32 z) := by rw [e1]; rfl
    simpa using h0
  simpa using this

theorem lt_of_cell {W : World} {a : Addr} {v : Value} (h : W.cell? a = some v) : a.block < W.heap.size := by
  rcases Nat.lt_or_ge a.block W.heap.size with h' | h'
  · exact h'
  · simp [World.cell?, Array.getElem?_eq_none h'] at h

/-- The variable reads as what it holds. -/
theorem glv_rel {W : World} (h : laidMetH Tryz.prog [("tesseract/chunk.half", Rows.laid_tesseract_chunk_half)] W) (x : Value) (d : DV) (hx : GLV x d) : RelI W (fun b => b < W.heap.size) x d := by
  obtain ⟨g, cs, hg, rfl, rfl⟩ := hx
  have hg0 : g = 0 := by
    unfold glv at hg
    split at hg
    · assumption
    · cases hg
  subst hg0
  rw [glv_eq] at hg
  cases hg
  refine .ia ⟨0, 0, none⟩ (halfZ.map fun n => .int .u32 n) _ (by simp) (lt_of_cell (half_cell h 0 (by decide))) (fun u hu => ?_) (fun j u hu => ?_) (fun j u d hu hd => ?_)
  · obtain ⟨n, _, rfl⟩ := List.mem_map.1 hu
    rfl
  · have hj : j < 16 := by have := (List.getElem?_eq_some_iff.1 hu).1; simpa [halfZ] using this
    rw [Addr.add_lit, Nat.zero_add, half_cell h j hj, ← hu, List.getElem?_map, List.getD, List.getElem?_eq_getElem (by simpa [halfZ] using hj)]
    rfl
  · rw [List.getElem?_map, hu] at hd
    cases hd
    exact .v _

set_option maxRecDepth 100000 in
/-- An argument of bytes. -/
theorem bytes_rel {H : Type} {enc : TypeId × Value → H} {W : World} {base : Nat} {v : Value} {d : DataW H} {p : List MemPlace} (hval : Value.okWide Tryz.prog W .any base 22 v) (h : DataW.Trod enc Tryz.prog W 0 (fun _ => true) true 22 v d p) :
    ∃ l : List Nat, (∀ x ∈ l, x < 256) ∧ RelI W (fun b => b < W.heap.size) v (.sl (l.map ub) l.length) := by
  obtain ⟨a1, len, cap, rfl⟩ := okWide_slice u22 hval
  obtain ⟨fuel, hf⟩ := h
  rcases open_ints u22 u5 c5 hf with ⟨hcs, hx⟩ | ⟨a, len', cap', zs, hcs, _, hl, hm, hz, hx, hcell, hwz⟩
  · simp [Value.cells] at hcs
    obtain ⟨rfl, rfl, rfl⟩ := hcs
    exact ⟨[], fun _ h => (by cases h), .sl0 _ _⟩
  · simp [Value.cells] at hcs
    obtain ⟨rfl, rfl, rfl⟩ := hcs
    simp only [if_true] at hz
    have hlen : (zs.take len).length = len := by simp; omega
    refine ⟨(zs.take len).map fun z => z.toNat, fun x hx => ?_, ?_⟩
    · obtain ⟨z, hz', rfl⟩ := List.mem_map.1 hx
      have := bounds_u8 (hwz z (List.mem_of_mem_take hz'))
      omega
    by_cases h0 : len = 0
    · subst h0
      exact .sl0 _ _
    · rw [List.length_map, hlen]
      refine .sl a len cap ((zs.take len).map fun z => .int .u8 z) _ (by simp) hl (by have := lt_of_cell (hcell 0 (by omega)); rwa [Go.DD.block_add] at this) (fun u hu => ?_) (fun j u hu => ?_) (fun j u d hu hd => ?_)
      · obtain ⟨n, _, rfl⟩ := List.mem_map.1 hu
        rfl
      · have hj : j < len := by have := (List.getElem?_eq_some_iff.1 hu).1; rw [List.length_map, hlen] at this; exact this
        rw [hcell j (by omega), ← hu, List.getElem?_map, List.getElem?_take_of_lt hj, List.getD, List.getElem?_eq_getElem (by omega)]
        rfl
      · rw [List.getElem?_map] at hu
        rw [List.getElem?_map, List.getElem?_map] at hd
        cases hzj : (zs.take len)[j]? with
        | none => rw [hzj] at hu; cases hu
        | some z =>
          rw [hzj] at hu hd
          cases hu
          cases hd
          have hmem : z ∈ zs := List.mem_of_mem_take (List.mem_of_getElem? hzj)
          obtain ⟨b1, b2⟩ := bounds_u8 (hwz z hmem)
          have e : ((z.toNat : Nat) : Int) = z := by omega
          show RelI W _ (.int .u8 z) (.v (.int .u8 ((z.toNat : Nat) : Int)))
          rw [e]
          exact .v _

end Go.Proofs.YtpaggdhijeabnaaGreatDoor.chunkArgs
