/- Numbers of 32 bits in the evaluator: what its operations do to them. Conditions: none beyond those that each theorem states. -/
import Derived.Test.YtpaggdhijeabnaaGreatDoorCa
import Derived.Test.YtpaggdhijeabnaaGreatDoorJe
namespace Go.DD
open Go

/-- A number of 32 bits. -/
def W (x : BitVec 32) : DV := .v (.int .u32 x.toNat)
theorem W_inj {x y : BitVec 32} : (W x = W y) ↔ x = y := by
  refine ⟨fun h => ?_, fun h => by rw [h]⟩
  unfold W at h
  simp only [DV.v.injEq, Value.int.injEq, true_and] at h
  exact BitVec.eq_of_toNat_eq (by omega)
theorem wrap32 (x : BitVec 32) : IntKind.u32.wrap (x.toNat : Int) = x.toNat := by
  have := x.isLt
  exact IntWalk.u32_in _ (by omega)
theorem ofInt32 (x : BitVec 32) : BitVec.ofInt 32 (x.toNat : Int) = x := by
  rw [BitVec.ofInt_natCast, BitVec.ofNat_toNat, BitVec.setWidth_eq]
theorem b_xorW (x y : BitVec 32) : binD .xor (W x) (W y) = some (W (x ^^^ y)) := by
  show some (DV.v (.int .u32 (IntKind.u32.wrap (((BitVec.ofInt 32 (x.toNat : Int) ^^^ BitVec.ofInt 32 (y.toNat : Int)).toNat : Nat) : Int)))) = _
  rw [ofInt32, ofInt32, wrap32]; rfl
theorem b_andW (x : BitVec 32) : binD .and (W x) (.v (.int .u32 15)) = some (.v (.int .u32 ((x.toNat % 16 : Nat) : Int))) := by
  have e2 : ((x &&& 15#32).toNat) = x.toNat % 16 := by
    rw [BitVec.toNat_and]
    show x.toNat &&& (2 ^ 4 - 1) = _
    rw [Nat.and_two_pow_sub_one_eq_mod]
  show some (DV.v (.int .u32 (IntKind.u32.wrap (((BitVec.ofInt 32 (x.toNat : Int) &&& 15#32).toNat : Nat) : Int)))) = _
  rw [ofInt32, wrap32, e2]
theorem b_shrW (x : BitVec 32) : binD .shr (W x) (.v (.int .u64 4)) = some (W (x >>> 4)) := by
  have e : (x >>> 4).toNat = x.toNat / 16 := by rw [BitVec.toNat_ushiftRight, Nat.shiftRight_eq_div_pow]
  have e2 : (x.toNat : Int).fdiv 16 = ((x.toNat / 16 : Nat) : Int) := by
    rw [Int.fdiv_eq_ediv_of_nonneg _ (by omega)]; omega
  show some (DV.v (.int .u32 ((x.toNat : Int).fdiv 16))) = _
  rw [e2, ← e]; rfl
theorem b_remW (x : BitVec 32) : binD .rem (W x) (.v (.int .u32 2)) = some (.v (.int .u32 ((x.toNat % 2 : Nat) : Int))) := rfl
theorem b_quoW (x : BitVec 32) : binD .quo (W x) (.v (.int .u32 2)) = some (W (x >>> 1)) := by
  have e : (x >>> 1).toNat = x.toNat / 2 := by rw [BitVec.toNat_ushiftRight, Nat.shiftRight_eq_div_pow]
  have h := x.isLt
  show some (DV.v (.int .u32 (IntKind.u32.wrap ((x.toNat / 2 : Nat) : Int)))) = _
  rw [← e, wrap32]; rfl
theorem un_xorW (x : BitVec 32) : unD .xor (W x) = some (W (0xffffffff#32 ^^^ x)) := by
  show some (DV.v (.int .u32 (IntKind.u32.wrap (((BitVec.ofInt 32 4294967295 ^^^ BitVec.ofInt 32 (x.toNat : Int)).toNat : Nat) : Int)))) = _
  rw [ofInt32, show BitVec.ofInt 32 4294967295 = 0xffffffff#32 from rfl, wrap32]; rfl
/-- A byte. -/
def B (b : BitVec 8) : DV := .v (.int .u8 b.toNat)
theorem wrapB (b : BitVec 8) : IntKind.u32.wrap (b.toNat : Int) = (b.setWidth 32).toNat := by
  have := b.isLt
  rw [IntWalk.u32_in _ (by omega), BitVec.toNat_setWidth, Nat.mod_eq_of_lt (by omega)]
end Go.DD
