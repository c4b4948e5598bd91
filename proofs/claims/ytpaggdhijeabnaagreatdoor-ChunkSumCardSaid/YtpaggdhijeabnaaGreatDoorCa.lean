/- Four bits of a checksum at a time, or one: plain Lean. Conditions: none. -/
import Init
namespace Go.DD

def poly : BitVec 32 := 2197175160#32
/-- One bit. -/
def step1 (x : BitVec 32) : BitVec 32 := (x >>> 1) ^^^ (if x.getLsbD 0 = true then poly else 0#32)
def tab (k : Nat) : BitVec 32 := match k with
  | 0 => 0#32 | 1 => 0x105ec76f#32 | 2 => 0x20bd8ede#32 | 3 => 0x30e349b1#32 | 4 => 0x417b1dbc#32 | 5 => 0x5125dad3#32 | 6 => 0x61c69362#32 | 7 => 0x7198540d#32
  | 8 => 0x82f63b78#32 | 9 => 0x92a8fc17#32 | 10 => 0xa24bb5a6#32 | 11 => 0xb21572c9#32 | 12 => 0xc38d26c4#32 | 13 => 0xd3d3e1ab#32 | 14 => 0xe330a81a#32 | _ => 0xf36e6f75#32
/-- Four bits. -/
def step4 (x : BitVec 32) : BitVec 32 := tab (x.toNat % 16) ^^^ (x >>> 4)

theorem xlc (a b c : BitVec 32) : a ^^^ (b ^^^ c) = b ^^^ (a ^^^ c) := by rw [← BitVec.xor_assoc, BitVec.xor_comm a b, BitVec.xor_assoc]
theorem xxs (a b : BitVec 32) : a ^^^ (a ^^^ b) = b := by rw [← BitVec.xor_assoc, BitVec.xor_self, BitVec.zero_xor]
theorem step1_xor (x y : BitVec 32) : step1 (x ^^^ y) = step1 x ^^^ step1 y := by
  unfold step1
  rw [BitVec.ushiftRight_xor_distrib, BitVec.getLsbD_xor]
  cases x.getLsbD 0 <;> cases y.getLsbD 0 <;> simp only [Bool.xor_false, Bool.xor_true, Bool.not_true, Bool.not_false, Bool.false_eq_true, if_true, if_false, BitVec.xor_zero]
  · rw [BitVec.xor_assoc]
  · rw [BitVec.xor_assoc, BitVec.xor_assoc, BitVec.xor_comm poly]
  · rw [BitVec.xor_assoc, BitVec.xor_comm (y >>> 1) poly, xxs]
theorem step1_even {x : BitVec 32} (h : x.getLsbD 0 = false) : step1 x = x >>> 1 := by
  unfold step1; rw [h]; simp
theorem low (k : Fin 16) : step1 (step1 (step1 (step1 (BitVec.ofNat 32 k.val)))) = tab k.val := by
  revert k; decide
theorem split16 (x : BitVec 32) : x = ((x >>> 4) <<< 4) ^^^ BitVec.ofNat 32 (x.toNat % 16) := by
  apply BitVec.eq_of_getLsbD_eq
  intro i hi
  have h16 : x.toNat % 16 = x.toNat % 2 ^ 4 := rfl
  rw [BitVec.getLsbD_xor, BitVec.getLsbD_shiftLeft, BitVec.getLsbD_ushiftRight, BitVec.getLsbD_ofNat, h16, Nat.testBit_mod_two_pow]
  by_cases h : i < 4
  · simp [h, hi, BitVec.getLsbD]
  · have : 4 + (i - 4) = i := by omega
    simp [h, hi, this]
theorem high (z : BitVec 32) (hz : z.toNat < 2 ^ 28) : step1 (step1 (step1 (step1 (z <<< 4)))) = z := by
  have e : ∀ n, n ≤ 4 → (z <<< 4) >>> n = z <<< (4 - n) := fun n hn => by
    apply BitVec.eq_of_getLsbD_eq
    intro i hi
    simp only [BitVec.getLsbD_ushiftRight, BitVec.getLsbD_shiftLeft]
    by_cases h : n + i < 32
    · by_cases h2 : n + i < 4
      · have h3 : i < 4 - n := by omega
        simp [h, h2, h3, hi]
      · have h3 : ¬ i < 4 - n := by omega
        have h4 : n + i - 4 = i - (4 - n) := by omega
        simp [h, h2, h3, hi, h4]
    · have h3 : ¬ i < 4 - n := by omega
      have h5 : z.getLsbD (i - (4 - n)) = false := by
        apply Nat.testBit_lt_two_pow
        exact Nat.lt_of_lt_of_le hz (Nat.pow_le_pow_right (by omega) (by omega))
      simp [h, h3, h5]
  have l0 : ∀ m, 0 < m → (z <<< m).getLsbD 0 = false := fun m hm => by simp [BitVec.getLsbD_shiftLeft, hm]
  have s1 : ∀ m, step1 (z <<< (m + 1)) = (z <<< (m + 1)) >>> 1 := fun m => step1_even (l0 _ (by omega))
  have r1 : step1 (z <<< 4) = z <<< 3 := by rw [s1 3, e 1 (by omega)]
  have sh : ∀ m, m < 4 → (z <<< (m + 1)) >>> 1 = z <<< m := fun m hm => by
    have h1 := e (4 - (m + 1)) (by omega)
    rw [show 4 - (4 - (m + 1)) = m + 1 by omega] at h1
    rw [← h1, ← BitVec.shiftRight_add, show 4 - (m + 1) + 1 = 4 - m by omega, e (4 - m) (by omega), show 4 - (4 - m) = m by omega]
  rw [s1 3, sh 3 (by omega), s1 2, sh 2 (by omega), s1 1, sh 1 (by omega), s1 0, sh 0 (by omega)]
  simp
theorem step4_eq (x : BitVec 32) : step1 (step1 (step1 (step1 x))) = step4 x := by
  have h := split16 x
  have hz : (x >>> 4).toNat < 2 ^ 28 := by
    rw [BitVec.toNat_ushiftRight, Nat.shiftRight_eq_div_pow]
    have := x.isLt
    omega
  have hl := low ⟨x.toNat % 16, Nat.mod_lt _ (by decide)⟩
  unfold step4
  conv => lhs; rw [h]
  rw [step1_xor, step1_xor, step1_xor, step1_xor, high _ hz, hl, BitVec.xor_comm]
end Go.DD
