/- Packing by items: what the program and the reference compute, in plain Lean. Conditions: none beyond those that each theorem states. -/
import Init.Data.List.Basic
import Init.Omega
import Derived.Test.YtpaggdhijeabnaaGreatDoorUh
import Derived.Test.YtpaggdhijeabnaaGreatDoorUk
import Derived.Test.YtpaggdhijeabnaaGreatDoorUi
namespace Go.DD

/-- How many bytes from i on are equal to those from j on: so many more at most, after n. -/
def sameN (b : List Nat) (j i : Nat) : Nat → Nat → Nat
  | 0, n => n
  | k + 1, n => if i + n < b.length ∧ b.getD (j + n) 0 = b.getD (i + n) 0 then sameN b j i k (n + 1) else n
def same (b : List Nat) (j i most : Nat) : Nat := sameN b j i most 0
theorem sameN_ge (b : List Nat) (j i : Nat) : ∀ k n, n ≤ sameN b j i k n
  | 0, n => Nat.le_refl n
  | k + 1, n => by
    unfold sameN
    split
    · exact Nat.le_trans (Nat.le_succ n) (sameN_ge b j i k (n + 1))
    · exact Nat.le_refl n
theorem sameN_le (b : List Nat) (j i : Nat) : ∀ k n, sameN b j i k n ≤ n + k
  | 0, n => Nat.le_refl n
  | k + 1, n => by
    unfold sameN
    split
    · have := sameN_le b j i k (n + 1); omega
    · omega
theorem same_le (b : List Nat) (j i most : Nat) : same b j i most ≤ most := by have := sameN_le b j i most 0; unfold same; omega
theorem sameN_at (b : List Nat) (j i : Nat) : ∀ k n m, n ≤ m → m < sameN b j i k n → i + m < b.length ∧ b.getD (j + m) 0 = b.getD (i + m) 0
  | 0, n, m, h1, h2 => by unfold sameN at h2; omega
  | k + 1, n, m, h1, h2 => by
    unfold sameN at h2
    split at h2
    · rename_i hc
      by_cases he : n = m
      · subst he; exact hc
      · exact sameN_at b j i k (n + 1) m (by omega) h2
    · omega
theorem same_at {b : List Nat} {j i most m : Nat} (h : m < same b j i most) : i + m < b.length ∧ b.getD (j + m) 0 = b.getD (i + m) 0 := sameN_at b j i most 0 m (Nat.zero_le _) h
theorem sameN_ext (b : List Nat) (j i : Nat) : ∀ k n q, q ≤ n + k → n ≤ q → (∀ m, n ≤ m → m < q → i + m < b.length ∧ b.getD (j + m) 0 = b.getD (i + m) 0) → q ≤ sameN b j i k n
  | 0, n, q, h1, h2, _ => by unfold sameN; omega
  | k + 1, n, q, h1, h2, h3 => by
    unfold sameN
    by_cases he : n = q
    · subst he; split
      · exact Nat.le_trans (Nat.le_succ _) (sameN_ge b j i k _)
      · exact Nat.le_refl _
    · rw [if_pos (h3 n (Nat.le_refl n) (by omega))]
      exact sameN_ext b j i k (n + 1) q (by omega) (by omega) fun m hm => h3 m (by omega)
theorem same_ext {b : List Nat} {j i most q : Nat} (h1 : q ≤ most) (h3 : ∀ m, m < q → i + m < b.length ∧ b.getD (j + m) 0 = b.getD (i + m) 0) : q ≤ same b j i most :=
  sameN_ext b j i most 0 q (by omega) (by omega) fun m _ => h3 m

/-- An item at i: how many bytes it packs, and its bytes. -/
def itemR (b : List Nat) (i : Nat) : Nat × List Nat := if 3 ≤ same b i (i + 1) 129 + 1 then (same b i (i + 1) 129 + 1, [same b i (i + 1) 129 + 1 + 125, b.getD i 0]) else (1, [b.getD i 0])
def lzStep (b : List Nat) (i : Nat) (s : Nat × Nat) (d : Nat) : Nat × Nat := if 4 ≤ same b (i - d) i 131 ∧ s.1 < same b (i - d) i 131 then (same b (i - d) i 131, d) else s
def lz (b : List Nat) (i : Nat) : Nat × Nat := (List.range' 1 (min 1024 i)).foldl (lzStep b i) (1, 0)
def itemL (b : List Nat) (i : Nat) : Nat × List Nat := if 0 < (lz b i).2 then ((lz b i).1, [(lz b i).1 + 124, (lz b i).2 / 256, (lz b i).2 % 256]) else (1, [b.getD i 0])

/-- What is packed, and where its last item of literals begins. -/
structure PS where
  out : List Nat
  head : Option Nat
def PS.step (s : PS) (x : List Nat) : PS :=
  if 1 < x.length then ⟨s.out ++ x, none⟩ else
  match s.head with
  | some h => if s.out.getD h 0 < 127 then ⟨s.out.set h (s.out.getD h 0 + 1) ++ [x.getD 0 0], some h⟩ else ⟨s.out ++ [0, x.getD 0 0], some s.out.length⟩
  | none => ⟨s.out ++ [0, x.getD 0 0], some s.out.length⟩
def packS (item : List Nat → Nat → Nat × List Nat) (b : List Nat) : Nat → Nat → PS → PS
  | 0, _, s => s
  | k + 1, i, s => if i < b.length then packS item b k (i + (item b i).1) (s.step (item b i).2) else s
def pack (item : List Nat → Nat → Nat × List Nat) (b : List Nat) : List Nat := (packS item b b.length 0 ⟨[], none⟩).out
theorem packS_succ {item : List Nat → Nat → Nat × List Nat} {b : List Nat} (h1 : ∀ i, 1 ≤ (item b i).1) : ∀ (k i : Nat) (s : PS), b.length ≤ i + k → packS item b (k + 1) i s = packS item b k i s
  | 0, i, s, h => by
    unfold packS
    rw [if_neg (by omega)]
  | k + 1, i, s, h => by
    rw [packS]
    conv => rhs; rw [packS]
    by_cases hi : i < b.length
    · rw [if_pos hi, if_pos hi]
      have := h1 i
      exact packS_succ h1 k _ _ (by omega)
    · rw [if_neg hi, if_neg hi]
theorem packS_ge {item : List Nat → Nat → Nat × List Nat} {b : List Nat} (h1 : ∀ i, 1 ≤ (item b i).1) {k i : Nat} {s : PS} (h : b.length ≤ i + k) : ∀ d, packS item b (k + d) i s = packS item b k i s
  | 0 => rfl
  | d + 1 => by rw [← Nat.add_assoc, packS_succ h1 _ _ _ (by omega), packS_ge h1 h d]
theorem itemR_1 (b : List Nat) (i : Nat) : 1 ≤ (itemR b i).1 := by unfold itemR; split <;> simp
theorem lzStep_1 (b : List Nat) (i : Nat) (s : Nat × Nat) (d : Nat) (h : 1 ≤ s.1) : 1 ≤ (lzStep b i s d).1 := by
  unfold lzStep; split
  · simp only; omega
  · exact h
theorem lz_fold (b : List Nat) (i : Nat) : ∀ (l : List Nat) (s : Nat × Nat), 1 ≤ s.1 → 1 ≤ (l.foldl (lzStep b i) s).1
  | [], _, h => h
  | d :: l, s, h => lz_fold b i l _ (lzStep_1 b i s d h)
theorem itemL_1 (b : List Nat) (i : Nat) : 1 ≤ (itemL b i).1 := by
  unfold itemL; split
  · exact lz_fold b i _ _ (by simp)
  · simp
/-- The state at i: what is packed then does not depend on how. -/
def packAt (item : List Nat → Nat → Nat × List Nat) (b : List Nat) (i : Nat) (s : PS) : PS := packS item b (b.length - i) i s
theorem packAt_end {item : List Nat → Nat → Nat × List Nat} {b : List Nat} {i : Nat} (h : b.length ≤ i) (s : PS) : packAt item b i s = s := by
  unfold packAt; rw [show b.length - i = 0 by omega]; rfl
theorem packAt_step {item : List Nat → Nat → Nat × List Nat} {b : List Nat} {i : Nat} (h1 : ∀ i, 1 ≤ (item b i).1) (h : i < b.length) (s : PS) : packAt item b i s = packAt item b (i + (item b i).1) (s.step (item b i).2) := by
  unfold packAt
  obtain ⟨m, hm⟩ : ∃ m, b.length - i = m + 1 := ⟨b.length - i - 1, by omega⟩
  rw [hm, packS, if_pos h]
  have := h1 i
  obtain ⟨d, hd⟩ : ∃ d, m = (b.length - (i + (item b i).1)) + d := ⟨m - (b.length - (i + (item b i).1)), by omega⟩
  rw [hd]
  exact packS_ge h1 (by omega) d
theorem pack_at (item : List Nat → Nat → Nat × List Nat) (b : List Nat) : pack item b = (packAt item b 0 ⟨[], none⟩).out := rfl
end Go.DD

/- Packing by items, as the reference does it. Conditions: none beyond those that each theorem states. -/
namespace Go.DD

def litF : Nat → List Nat → List Nat
  | 0, _ => []
  | k + 1, l => if l.length = 0 then [] else (min l.length 128 - 1) :: (l.take (min l.length 128) ++ litF k (l.drop (min l.length 128)))
def litD (l : List Nat) : List Nat := litF l.length l
theorem litF_fuel : ∀ (k : Nat) (l : List Nat), l.length ≤ k → litF k l = litD l := by
  intro k
  induction k using Nat.strongRecOn with
  | _ k ih =>
    intro l h
    by_cases he : l.length = k
    · subst he; rfl
    · obtain ⟨m, rfl⟩ : ∃ m, k = m + 1 := ⟨k - 1, by omega⟩
      rcases Nat.eq_zero_or_pos l.length with h0 | h0
      · unfold litD litF
        rw [h0]; simp
      · obtain ⟨q, hq⟩ : ∃ q, l.length = q + 1 := ⟨l.length - 1, by omega⟩
        unfold litD
        rw [hq]
        unfold litF
        rw [if_neg (by omega), if_neg (by omega)]
        rw [ih m (by omega) _ (by rw [List.length_drop]; omega), ih q (by omega) _ (by rw [List.length_drop]; omega)]
theorem litD_nil : litD [] = [] := rfl
theorem litD_step {l : List Nat} (h : 0 < l.length) : litD l = (min l.length 128 - 1) :: (l.take (min l.length 128) ++ litD (l.drop (min l.length 128))) := by
  obtain ⟨q, hq⟩ : ∃ q, l.length = q + 1 := ⟨l.length - 1, by omega⟩
  conv => lhs; unfold litD
  rw [hq, litF, if_neg (by omega), hq, litF_fuel q _ (by rw [List.length_drop]; omega)]
theorem litD_small {l : List Nat} (h : 0 < l.length) (h2 : l.length ≤ 128) : litD l = (l.length - 1) :: l := by
  rw [litD_step h, show min l.length 128 = l.length by omega, List.take_length, List.drop_length, litD_nil, List.append_nil]
theorem litD_big {l : List Nat} (h : 128 < l.length) : litD l = 127 :: (l.take 128 ++ litD (l.drop 128)) := by
  rw [litD_step (by omega), show min l.length 128 = 128 by omega]
/-- Where the last item begins. -/
def litH (l : List Nat) : Nat := (l.length - 1) / 128 * 129
theorem litD_snoc : ∀ (n : Nat) (l : List Nat), l.length = n → 0 < n → ∃ pre tl, litD l = pre ++ ((n - 1) % 128) :: tl ∧ pre.length = litH l ∧
    ∀ x, litD (l ++ [x]) = if (n - 1) % 128 = 127 then litD l ++ [0, x] else pre ++ ((n - 1) % 128 + 1) :: (tl ++ [x]) := by
  intro n
  induction n using Nat.strongRecOn with
  | _ n ih =>
    intro l hl h0
    by_cases hs : n ≤ 128
    · refine ⟨[], l, ?_, by simp [litH]; omega, fun x => ?_⟩
      · rw [litD_small (by omega) (by omega), hl, Nat.mod_eq_of_lt (by omega)]; rfl
      · rw [Nat.mod_eq_of_lt (by omega)]
        by_cases h8 : n = 128
        · rw [if_pos (by omega), litD_big (by simp; omega), litD_small (l := l) (by omega) (by omega)]
          rw [List.take_append_of_le_length (by omega), List.drop_append_of_le_length (by omega), show l.drop 128 = [] from List.drop_eq_nil_of_le (by omega), show l.take 128 = l from List.take_of_length_le (by omega)]
          rw [List.nil_append, litD_small (l := [x]) (by simp) (by simp), hl, h8]; rfl
        · rw [if_neg (by omega), litD_small (by simp) (by simp; omega)]
          simp [hl]; omega
    · obtain ⟨pre, tl, h1, h2, h3⟩ := ih (n - 128) (by omega) (l.drop 128) (by rw [List.length_drop]; omega) (by omega)
      have hm : (n - 128 - 1) % 128 = (n - 1) % 128 := by omega
      rw [hm] at h1 h3
      refine ⟨127 :: (l.take 128 ++ pre), tl, ?_, ?_, fun x => ?_⟩
      · rw [litD_big (by omega), h1]; simp
      · simp only [List.length_cons, List.length_append, List.length_take, h2, litH, List.length_drop]
        omega
      · rw [litD_big (by simp; omega), List.take_append_of_le_length (by omega), List.drop_append_of_le_length (by omega), h3 x, litD_big (l := l) (by omega)]
        split <;> simp

theorem litD_len : ∀ (n : Nat) (l : List Nat), l.length = n → (litD l).length = n + (n + 127) / 128 := by
  intro n
  induction n using Nat.strongRecOn with
  | _ n ih =>
    intro l hl
    by_cases h0 : n = 0
    · subst h0
      rw [List.eq_nil_of_length_eq_zero hl]; rfl
    · by_cases hs : n ≤ 128
      · rw [litD_small (by omega) (by omega)]
        simp; omega
      · rw [litD_big (by omega), List.length_cons, List.length_append, List.length_take, ih (n - 128) (by omega) (l.drop 128) (by rw [List.length_drop]; omega)]
        omega

/-- The reference's state: what is packed, and the literals behind it. -/
structure RS where
  out : List Nat
  lits : List Nat
def RS.step (s : RS) (x : List Nat) : RS := if 1 < x.length then ⟨s.out ++ litD s.lits ++ x, []⟩ else ⟨s.out, s.lits ++ x⟩
def RS.fin (s : RS) : List Nat := s.out ++ litD s.lits
def SR (s : PS) (r : RS) : Prop := s.out = r.fin ∧ s.head = if r.lits.length = 0 then none else some (r.out.length + litH r.lits)
theorem SR.step {s : PS} {r : RS} (h : SR s r) {x : List Nat} (hx : 1 ≤ x.length) : SR (s.step x) (r.step x) := by
  obtain ⟨out, head⟩ := s
  obtain ⟨ro, li⟩ := r
  obtain ⟨h1, h2⟩ := h
  simp only [RS.fin] at h1
  simp only at h2
  subst h1
  unfold PS.step RS.step
  by_cases hx1 : 1 < x.length
  · rw [if_pos hx1, if_pos hx1]
    exact ⟨by simp [RS.fin, litD_nil], by simp⟩
  · rw [if_neg hx1, if_neg hx1]
    obtain ⟨a, rfl⟩ : ∃ a, x = [a] := by
      match x, hx, hx1 with
      | [a], _, _ => exact ⟨a, rfl⟩
      | _ :: _ :: _, _, h => simp at h
    by_cases hl : li.length = 0
    · rw [if_pos hl] at h2
      subst h2
      have : li = [] := List.eq_nil_of_length_eq_zero hl
      subst this
      refine ⟨?_, ?_⟩
      · simp only [RS.fin, litD_nil, List.append_nil, List.nil_append]
        rw [litD_small (by simp) (by simp)]; rfl
      · simp [litD_nil, litH]
    · rw [if_neg hl] at h2
      subst h2
      obtain ⟨pre, tl, e1, e2, e3⟩ := litD_snoc li.length li rfl (by omega)
      have hg : (ro ++ litD li).getD (ro.length + litH li) 0 = (li.length - 1) % 128 := by
        rw [e1, List.getD, List.getElem?_append_right (by omega), ← e2, Nat.add_sub_cancel_left, List.getElem?_append_right (Nat.le_refl _)]
        simp
      simp only [hg]
      by_cases hc : (li.length - 1) % 128 < 127
      · rw [if_pos hc]
        refine ⟨?_, ?_⟩
        · simp only [RS.fin]
          rw [e3 a, if_neg (by omega), e1, List.set_append_right _ _ (by omega), ← e2, Nat.add_sub_cancel_left, List.set_append_right _ _ (Nat.le_refl _)]
          simp
        · simp only [List.length_append, List.length_singleton, litH]
          rw [if_neg (by omega)]
          congr 1
          have : (li.length + 1 - 1) / 128 = (li.length - 1) / 128 := by omega
          rw [this]
      · rw [if_neg hc]
        refine ⟨?_, ?_⟩
        · simp only [RS.fin]
          rw [e3 a, if_pos (by omega)]
          simp
        · have hlen : (litD li).length = litH (li ++ [a]) := by
            rw [litD_len _ _ rfl]
            simp only [litH, List.length_append, List.length_singleton]
            omega
          simp only [List.length_append, hlen, List.length_singleton]
          rw [if_neg (by omega)]

/-- The reference's loop. -/
def rpackS (item : List Nat → Nat → Nat × List Nat) (b : List Nat) : Nat → Nat → RS → RS
  | 0, _, s => s
  | k + 1, i, s => if i < b.length then rpackS item b k (i + (item b i).1) (s.step (item b i).2) else s
theorem rpackS_succ {item : List Nat → Nat → Nat × List Nat} {b : List Nat} (h1 : ∀ i, 1 ≤ (item b i).1) : ∀ (k i : Nat) (s : RS), b.length ≤ i + k → rpackS item b (k + 1) i s = rpackS item b k i s
  | 0, i, s, h => by
    unfold rpackS
    rw [if_neg (by omega)]
  | k + 1, i, s, h => by
    rw [rpackS]
    conv => rhs; rw [rpackS]
    by_cases hi : i < b.length
    · rw [if_pos hi, if_pos hi]
      have := h1 i
      exact rpackS_succ h1 k _ _ (by omega)
    · rw [if_neg hi, if_neg hi]
theorem rpackS_ge {item : List Nat → Nat → Nat × List Nat} {b : List Nat} (h1 : ∀ i, 1 ≤ (item b i).1) {k i : Nat} {s : RS} (h : b.length ≤ i + k) : ∀ d, rpackS item b (k + d) i s = rpackS item b k i s
  | 0 => rfl
  | d + 1 => by rw [← Nat.add_assoc, rpackS_succ h1 _ _ _ (by omega), rpackS_ge h1 h d]
def rpackAt (item : List Nat → Nat → Nat × List Nat) (b : List Nat) (i : Nat) (s : RS) : RS := rpackS item b (b.length - i) i s
theorem rpackAt_end {item : List Nat → Nat → Nat × List Nat} {b : List Nat} {i : Nat} (h : b.length ≤ i) (s : RS) : rpackAt item b i s = s := by
  unfold rpackAt; rw [show b.length - i = 0 by omega]; rfl
theorem rpackAt_step {item : List Nat → Nat → Nat × List Nat} {b : List Nat} {i : Nat} (h1 : ∀ i, 1 ≤ (item b i).1) (h : i < b.length) (s : RS) : rpackAt item b i s = rpackAt item b (i + (item b i).1) (s.step (item b i).2) := by
  unfold rpackAt
  obtain ⟨m, hm⟩ : ∃ m, b.length - i = m + 1 := ⟨b.length - i - 1, by omega⟩
  rw [hm, rpackS, if_pos h]
  have := h1 i
  obtain ⟨d, hd⟩ : ∃ d, m = (b.length - (i + (item b i).1)) + d := ⟨m - (b.length - (i + (item b i).1)), by omega⟩
  rw [hd]
  exact rpackS_ge h1 (by omega) d
theorem SR.pack {item : List Nat → Nat → Nat × List Nat} {b : List Nat} (hx : ∀ i, 1 ≤ (item b i).2.length) : ∀ (k i : Nat) {s : PS} {r : RS}, SR s r → SR (packS item b k i s) (rpackS item b k i r)
  | 0, _, _, _, h => h
  | k + 1, i, s, r, h => by
    unfold packS rpackS
    by_cases hi : i < b.length
    · rw [if_pos hi, if_pos hi]
      exact SR.pack hx k _ (h.step (hx i))
    · rw [if_neg hi, if_neg hi]; exact h
theorem pack_eq {item : List Nat → Nat → Nat × List Nat} {b : List Nat} (hx : ∀ i, 1 ≤ (item b i).2.length) : pack item b = (rpackAt item b 0 ⟨[], []⟩).fin :=
  (SR.pack hx _ _ (s := ⟨[], none⟩) (r := ⟨[], []⟩) ⟨rfl, rfl⟩).1
theorem itemR_x (b : List Nat) (i : Nat) : 1 ≤ (itemR b i).2.length := by unfold itemR; split <;> simp
theorem itemL_x (b : List Nat) (i : Nat) : 1 ≤ (itemL b i).2.length := by unfold itemL; split <;> simp

/-- The reference's search. -/
def rlStep (b : List Nat) (i : Nat) (s : Nat × Nat) (d : Nat) : Nat × Nat := if s.1 < same b (i - d) i 131 then (same b (i - d) i 131, d) else s
def rlz (b : List Nat) (i : Nat) : Nat × Nat := (List.range' 1 (min 1024 i)).foldl (rlStep b i) (0, 0)
def LR (s r : Nat × Nat) : Prop := (4 ≤ r.1 → s = r) ∧ (r.1 < 4 → s = (1, 0))
theorem LR.step {b : List Nat} {i : Nat} {s r : Nat × Nat} (h : LR s r) (d : Nat) : LR (lzStep b i s d) (rlStep b i r d) := by
  obtain ⟨h1, h2⟩ := h
  unfold lzStep rlStep LR
  by_cases h4 : 4 ≤ r.1
  · have := h1 h4
    subst this
    by_cases hm : s.1 < same b (i - d) i 131
    · rw [if_pos hm, if_pos ⟨by omega, hm⟩]
      exact ⟨fun _ => rfl, fun h => by simp only at h; omega⟩
    · rw [if_neg hm, if_neg (fun h => hm h.2)]
      exact ⟨fun _ => rfl, fun h => absurd h (by omega)⟩
  · have := h2 (by omega)
    subst this
    by_cases hm : 4 ≤ same b (i - d) i 131
    · rw [if_pos (show r.1 < same b (i - d) i 131 by omega), if_pos ⟨hm, by simp only; omega⟩]
      exact ⟨fun _ => rfl, fun h => by simp only at h; omega⟩
    · rw [if_neg (c := 4 ≤ same b (i - d) i 131 ∧ _) (fun h => hm h.1)]
      split
      · exact ⟨fun h => by simp only at h; omega, fun _ => rfl⟩
      · exact ⟨fun h => by omega, fun _ => rfl⟩
theorem LR.fold {b : List Nat} {i : Nat} : ∀ (l : List Nat) {s r : Nat × Nat}, LR s r → LR (l.foldl (lzStep b i) s) (l.foldl (rlStep b i) r)
  | [], _, _, h => h
  | d :: l, _, _, h => LR.fold l (h.step d)
theorem lz_rlz (b : List Nat) (i : Nat) : LR (lz b i) (rlz b i) := LR.fold _ ⟨fun h => by simp at h, fun _ => rfl⟩
/-- The first d. -/
def rlzTo (b : List Nat) (i d : Nat) : Nat × Nat := (List.range' 1 d).foldl (rlStep b i) (0, 0)
theorem rlzTo_succ (b : List Nat) (i d : Nat) : rlzTo b i (d + 1) = rlStep b i (rlzTo b i d) (d + 1) := by
  unfold rlzTo
  rw [List.range'_concat, List.foldl_append]
  simp [Nat.add_comm]
def lzTo (b : List Nat) (i d : Nat) : Nat × Nat := (List.range' 1 d).foldl (lzStep b i) (1, 0)
theorem lzTo_succ (b : List Nat) (i d : Nat) : lzTo b i (d + 1) = lzStep b i (lzTo b i d) (d + 1) := by
  unfold lzTo
  rw [List.range'_concat, List.foldl_append]
  simp [Nat.add_comm]
end Go.DD

/- Unpacking: what was packed comes back; how long it is. Conditions: none beyond those that each theorem states. -/
namespace Go.DD

def copyN (far : Nat) : Nat → List Nat → List Nat
  | 0, out => out
  | k + 1, out => copyN far k (out ++ [out.getD (out.length - far) 0])
/-- An item, read: an error's number, or the bytes with the new ones and the rest. -/
def unItem (rle : Bool) (out b : List Nat) : Except Nat (List Nat × List Nat) :=
  if b.getD 0 0 < 128 then
    if b.length < b.getD 0 0 + 2 then .error 0 else .ok (out ++ (b.drop 1).take (b.getD 0 0 + 1), b.drop (b.getD 0 0 + 2))
  else if rle = true then
    if b.length < 2 then .error 0 else .ok (out ++ List.replicate (b.getD 0 0 - 125) (b.getD 1 0), b.drop 2)
  else if b.length < 3 then .error 0
  else if 256 * b.getD 1 0 + b.getD 2 0 < 1 ∨ 1024 < 256 * b.getD 1 0 + b.getD 2 0 ∨ out.length < 256 * b.getD 1 0 + b.getD 2 0 then .error 1
  else .ok (copyN (256 * b.getD 1 0 + b.getD 2 0) (b.getD 0 0 - 124) out, b.drop 3)
def unS (rle : Bool) : Nat → List Nat → List Nat → Except Nat (List Nat)
  | 0, out, _ => .ok out
  | k + 1, out, b => if b.length = 0 then .ok out else match unItem rle out b with
    | .error e => .error e
    | .ok (o, r) => if 1048576 < o.length then .error 2 else unS rle k o r
/-- Whole items. -/
def Dec (rle : Bool) (s o o' : List Nat) : Prop := ∀ (rest : List Nat) (k : Nat), s.length + rest.length ≤ k → ∃ k', rest.length ≤ k' ∧ unS rle k o (s ++ rest) = unS rle k' o' rest
theorem Dec.nil (rle : Bool) (o : List Nat) : Dec rle [] o o := fun rest k h => ⟨k, by simpa using h, rfl⟩
theorem Dec.trans {rle : Bool} {s t o o1 o2 : List Nat} (h1 : Dec rle s o o1) (h2 : Dec rle t o1 o2) : Dec rle (s ++ t) o o2 := fun rest k h => by
  obtain ⟨k1, e1, e2⟩ := h1 (t ++ rest) k (by simp at h ⊢; omega)
  obtain ⟨k2, e3, e4⟩ := h2 rest k1 (by simpa using e1)
  exact ⟨k2, e3, by rw [List.append_assoc, e2, e4]⟩
theorem Dec.one {rle : Bool} {s o o' : List Nat} (h0 : 0 < s.length) (h : ∀ rest, unItem rle o (s ++ rest) = .ok (o', rest)) (hl : o'.length ≤ 1048576) : Dec rle s o o' := fun rest k hk => by
  obtain ⟨m, rfl⟩ : ∃ m, k = m + 1 := ⟨k - 1, by omega⟩
  refine ⟨m, by omega, ?_⟩
  rw [unS, if_neg (by rw [List.length_append]; omega), h rest]
  simp only
  rw [if_neg (by omega)]
theorem Dec.lit (rle : Bool) : ∀ (n : Nat) (l o : List Nat), l.length = n → o.length + n ≤ 1048576 → Dec rle (litD l) o (o ++ l) := by
  intro n
  induction n using Nat.strongRecOn with
  | _ n ih =>
    intro l o hl ho
    by_cases h0 : n = 0
    · subst h0
      rw [List.eq_nil_of_length_eq_zero hl, litD_nil, List.append_nil]
      exact Dec.nil rle o
    · rw [litD_step (by omega)]
      have hq : 1 ≤ min l.length 128 ∧ min l.length 128 ≤ 128 ∧ min l.length 128 ≤ l.length := by omega
      generalize min l.length 128 = q at hq
      have e : (q - 1) :: (l.take q ++ litD (l.drop q)) = ((q - 1) :: l.take q) ++ litD (l.drop q) := by simp
      have htl : (l.take q).length = q := by rw [List.length_take]; omega
      rw [e, show o ++ l = (o ++ l.take q) ++ l.drop q by rw [List.append_assoc, List.take_append_drop]]
      refine Dec.trans (Dec.one (by simp) (fun rest => ?_) (by rw [List.length_append, htl]; omega)) (ih (n - q) (by omega) _ _ (by rw [List.length_drop]; omega) (by rw [List.length_append, htl]; omega))
      unfold unItem
      have e1 : (((q - 1) :: l.take q) ++ rest).getD 0 0 = q - 1 := rfl
      rw [e1, if_pos (by omega), if_neg (by simp [htl]; omega)]
      have e2 : List.drop 1 (((q - 1) :: l.take q) ++ rest) = l.take q ++ rest := rfl
      have e3 : List.drop (q - 1 + 2) (((q - 1) :: l.take q) ++ rest) = rest := by
        rw [show q - 1 + 2 = q + 1 by omega, List.cons_append, List.drop_succ_cons]
        exact List.drop_left' htl
      rw [e2, e3, show q - 1 + 1 = q by omega, List.take_left' htl]
theorem Dec.run {o : List Nat} {n x : Nat} (h : 3 ≤ n) (hl : o.length + n ≤ 1048576) : Dec true [n + 125, x] o (o ++ List.replicate n x) :=
  Dec.one (by simp) (fun rest => by
    unfold unItem
    have e1 : ([n + 125, x] ++ rest).getD 0 0 = n + 125 := rfl
    have e2 : ([n + 125, x] ++ rest).getD 1 0 = x := rfl
    rw [e1, e2, if_neg (by omega), if_pos rfl, if_neg (by simp), show n + 125 - 125 = n by omega]; rfl) (by simp; omega)
theorem copyN_len (far : Nat) : ∀ (k : Nat) (o : List Nat), (copyN far k o).length = o.length + k
  | 0, o => rfl
  | k + 1, o => by rw [copyN, copyN_len far k]; simp; omega
theorem Dec.copy {o : List Nat} {n far : Nat} (h : 4 ≤ n) (h1 : 1 ≤ far) (h2 : far ≤ 1024) (h3 : far ≤ o.length) (hl : o.length + n ≤ 1048576) : Dec false [n + 124, far / 256, far % 256] o (copyN far n o) :=
  Dec.one (by simp) (fun rest => by
    unfold unItem
    have e1 : ([n + 124, far / 256, far % 256] ++ rest).getD 0 0 = n + 124 := rfl
    have e2 : ([n + 124, far / 256, far % 256] ++ rest).getD 1 0 = far / 256 := rfl
    have e3 : ([n + 124, far / 256, far % 256] ++ rest).getD 2 0 = far % 256 := rfl
    rw [e1, e2, e3, if_neg (by omega), if_neg (by simp), if_neg (by simp), show 256 * (far / 256) + far % 256 = far by omega, if_neg (by omega), show n + 124 - 124 = n by omega]; rfl) (by rw [copyN_len]; omega)

/-- An item stands for the bytes that it packs. -/
structure ItemOK (rle : Bool) (item : List Nat → Nat → Nat × List Nat) (b : List Nat) : Prop where
  one : ∀ i, i < b.length → (item b i).2.length = 1 → (item b i).1 = 1 ∧ (item b i).2 = [b.getD i 0]
  more : ∀ i, i < b.length → 1 < (item b i).2.length → i + (item b i).1 ≤ b.length ∧ (item b i).2.length < (item b i).1 ∧ Dec rle (item b i).2 (b.take i) (b.take (i + (item b i).1))
theorem take_snoc {b : List Nat} {i : Nat} (h : i < b.length) : b.take (i + 1) = b.take i ++ [b.getD i 0] := by
  rw [List.take_add_one, List.getD, List.getElem?_eq_getElem h]; rfl
theorem run_take {b : List Nat} {i : Nat} : ∀ (n : Nat), i + n < b.length → (∀ m, m < n → b.getD (i + m) 0 = b.getD (i + 1 + m) 0) → b.take (i + (n + 1)) = b.take i ++ List.replicate (n + 1) (b.getD i 0) ∧ b.getD (i + n) 0 = b.getD i 0
  | 0, h, _ => ⟨take_snoc h, rfl⟩
  | n + 1, h, hm => by
    obtain ⟨h1, h2⟩ := run_take n (by omega) fun m hm' => hm m (by omega)
    have h3 := hm n (by omega)
    rw [h2, show i + 1 + n = i + (n + 1) by omega] at h3
    refine ⟨?_, h3.symm⟩
    rw [show i + (n + 1 + 1) = (i + (n + 1)) + 1 by omega, take_snoc (by omega), h1, ← h3, List.append_assoc]
    congr 1
    rw [List.replicate_succ' (n := n + 1)]
theorem itemR_ok {b : List Nat} (hb : b.length ≤ 1048576) : ItemOK true itemR b := by
  constructor
  · intro i hi h
    unfold itemR at h ⊢
    split at h
    · simp at h
    · rename_i hc; rw [if_neg hc]; exact ⟨rfl, rfl⟩
  · intro i hi h
    unfold itemR at h ⊢
    split at h
    · rename_i hc
      rw [if_pos hc]
      have hle := same_le b i (i + 1) 129
      have hat : ∀ m, m < same b i (i + 1) 129 → i + 1 + m < b.length ∧ b.getD (i + m) 0 = b.getD (i + 1 + m) 0 := fun m hm => same_at hm
      have h0 := (hat (same b i (i + 1) 129 - 1) (by omega)).1
      generalize same b i (i + 1) 129 = n at *
      obtain ⟨e1, _⟩ := run_take (b := b) (i := i) n (by omega) fun m hm => (hat m hm).2
      refine ⟨by simp only; omega, by simp; omega, ?_⟩
      simp only
      rw [e1]
      exact Dec.run (by omega) (by rw [List.length_take]; omega)
    · simp at h
theorem lz_ok (b : List Nat) (i : Nat) : ∀ (l : List Nat) (s : Nat × Nat), (∀ d ∈ l, 1 ≤ d ∧ d ≤ min 1024 i) → (0 < s.2 → 1 ≤ s.2 ∧ s.2 ≤ min 1024 i ∧ 4 ≤ s.1 ∧ s.1 = same b (i - s.2) i 131) → 0 < (l.foldl (lzStep b i) s).2 →
    1 ≤ (l.foldl (lzStep b i) s).2 ∧ (l.foldl (lzStep b i) s).2 ≤ min 1024 i ∧ 4 ≤ (l.foldl (lzStep b i) s).1 ∧ (l.foldl (lzStep b i) s).1 = same b (i - (l.foldl (lzStep b i) s).2) i 131
  | [], s, _, hs, h => hs h
  | d :: l, s, hl, hs, h => by
    refine lz_ok b i l (lzStep b i s d) (fun d hd => hl d (List.mem_cons_of_mem _ hd)) ?_ h
    unfold lzStep
    split
    · rename_i hc
      intro _
      have := hl d (List.mem_cons_self ..)
      exact ⟨this.1, this.2, hc.1, rfl⟩
    · exact hs
theorem copy_take {b : List Nat} {i far : Nat} (hf : 1 ≤ far) : ∀ (n j : Nat), far ≤ i + j → i + j + n ≤ b.length → (∀ m, j ≤ m → m < j + n → b.getD (i - far + m) 0 = b.getD (i + m) 0) → far ≤ i → copyN far n (b.take (i + j)) = b.take (i + j + n)
  | 0, _, _, _, _, _ => rfl
  | n + 1, j, h1, h2, h3, h4 => by
    have hlen : (b.take (i + j)).length = i + j := by rw [List.length_take]; omega
    have hget : (b.take (i + j)).getD (i + j - far) 0 = b.getD (i + j) 0 := by
      rw [← h3 j (by omega) (by omega), List.getD, List.getD, List.getElem?_take_of_lt (by omega), show i - far + j = i + j - far by omega]
    rw [copyN, hlen, hget, ← take_snoc (by omega), show i + j + 1 = i + (j + 1) by omega, copy_take hf n (j + 1) (by omega) (by omega) (fun m h5 h6 => h3 m (by omega) (by omega)) h4]
    congr 1; omega
theorem itemL_ok {b : List Nat} (hb : b.length ≤ 1048576) : ItemOK false itemL b := by
  constructor
  · intro i hi h
    unfold itemL at h ⊢
    split at h
    · simp at h
    · rename_i hc; rw [if_neg hc]; exact ⟨rfl, rfl⟩
  · intro i hi h
    unfold itemL at h ⊢
    split at h
    · rename_i hc
      rw [if_pos hc]
      obtain ⟨h1, h2, h3, h4⟩ := lz_ok b i _ (1, 0) (fun d hd => by
        rw [List.mem_range'_1] at hd; omega) (fun h => by simp at h) hc
      change 1 ≤ (lz b i).2 at h1
      change (lz b i).2 ≤ min 1024 i at h2
      change 4 ≤ (lz b i).1 at h3
      change (lz b i).1 = same b (i - (lz b i).2) i 131 at h4
      generalize (lz b i).1 = n at *
      generalize (lz b i).2 = far at *
      have hat : ∀ m, m < n → i + m < b.length ∧ b.getD (i - far + m) 0 = b.getD (i + m) 0 := fun m hm => same_at (by rw [← h4]; exact hm)
      have h0 := (hat (n - 1) (by omega)).1
      refine ⟨by omega, by simp; omega, ?_⟩
      simp only
      have := copy_take (b := b) (i := i) h1 n 0 (by omega) (by omega) (fun m _ hm => (hat m (by omega)).2) (by omega)
      simp only [Nat.add_zero] at this
      rw [← this]
      exact Dec.copy h3 h1 (by omega) (by rw [List.length_take]; omega) (by rw [List.length_take]; omega)
    · simp at h

/-- What is packed so far stands for the bytes so far. -/
structure BackI (rle : Bool) (b : List Nat) (i : Nat) (r : RS) : Prop where
  dec : Dec rle r.out [] (b.take (i - r.lits.length))
  lits : r.lits.length ≤ i
  lit : b.take i = b.take (i - r.lits.length) ++ r.lits
  len : r.out.length ≤ (i - r.lits.length) + (i - r.lits.length) / 128
theorem BackI.step {rle : Bool} {item : List Nat → Nat → Nat × List Nat} {b : List Nat} (hb : b.length ≤ 1048576) (ok : ItemOK rle item b) (hx : ∀ i, 1 ≤ (item b i).2.length) {i : Nat} {r : RS} (hi : i < b.length) (h : BackI rle b i r) :
    BackI rle b (i + (item b i).1) (r.step (item b i).2) ∧ i + (item b i).1 ≤ b.length := by
  obtain ⟨out, li⟩ := r
  obtain ⟨h1, h2, h3, h4⟩ := h
  simp only at h1 h2 h3 h4
  unfold RS.step
  by_cases hm : 1 < (item b i).2.length
  · obtain ⟨m1, m2, m3⟩ := ok.more i hi hm
    rw [if_pos hm]
    refine ⟨⟨?_, by simp, by simp, ?_⟩, m1⟩
    · simp only [List.length_nil, Nat.sub_zero]
      refine Dec.trans (Dec.trans h1 ?_) m3
      rw [h3]
      exact Dec.lit rle _ _ _ rfl (by rw [List.length_take]; omega)
    · simp only [List.length_append, List.length_nil, Nat.sub_zero, litD_len _ _ rfl]
      omega
  · have hone : (item b i).2.length = 1 := by have := hx i; omega
    obtain ⟨o1, o2⟩ := ok.one i hi hone
    rw [if_neg hm, o1, o2]
    refine ⟨⟨?_, by simp; omega, ?_, ?_⟩, by omega⟩
    · simp only [List.length_append, List.length_singleton, show i + 1 - (li.length + 1) = i - li.length by omega]
      exact h1
    · simp only [List.length_append, List.length_singleton, show i + 1 - (li.length + 1) = i - li.length by omega]
      rw [take_snoc hi, h3, List.append_assoc]
    · simp only [List.length_append, List.length_singleton, show i + 1 - (li.length + 1) = i - li.length by omega]
      exact h4
theorem BackI.all {rle : Bool} {item : List Nat → Nat → Nat × List Nat} {b : List Nat} (hb : b.length ≤ 1048576) (ok : ItemOK rle item b) (hx : ∀ i, 1 ≤ (item b i).2.length) (h1 : ∀ i, 1 ≤ (item b i).1) :
    ∀ (k i : Nat) (r : RS), b.length - i ≤ k → i ≤ b.length → BackI rle b i r → BackI rle b b.length (rpackAt item b i r)
  | 0, i, r, hk, hi, h => by
    rw [rpackAt_end (by omega)]
    rwa [show b.length = i by omega]
  | k + 1, i, r, hk, hi, h => by
    by_cases hlt : i < b.length
    · rw [rpackAt_step h1 hlt]
      have := h1 i
      obtain ⟨h2, h3⟩ := h.step hb ok hx hlt
      exact BackI.all hb ok hx h1 k _ _ (by omega) h3 h2
    · rw [rpackAt_end (by omega)]
      rwa [show b.length = i by omega]
theorem back {rle : Bool} {item : List Nat → Nat → Nat × List Nat} {b : List Nat} (hb : b.length ≤ 1048576) (ok : ItemOK rle item b) (hx : ∀ i, 1 ≤ (item b i).2.length) (h1 : ∀ i, 1 ≤ (item b i).1) :
    Dec rle (pack item b) [] b ∧ (pack item b).length ≤ b.length + (b.length + 127) / 128 := by
  have h := BackI.all hb ok hx h1 b.length 0 ⟨[], []⟩ (by omega) (by omega) ⟨by simpa using Dec.nil rle [], by simp, by simp, by simp⟩
  rw [pack_eq hx]
  generalize rpackAt item b 0 ⟨[], []⟩ = r at h
  obtain ⟨h1, h2, h3, h4⟩ := h
  refine ⟨?_, ?_⟩
  · have h5 : b.take b.length = b := List.take_length
    rw [h5] at h3
    have := Dec.trans h1 (Dec.lit rle _ r.lits (b.take (b.length - r.lits.length)) rfl (by rw [List.length_take]; omega))
    rw [← h3] at this
    exact this
  · unfold RS.fin
    rw [List.length_append, litD_len _ _ rfl]
    omega
theorem back_un {rle : Bool} {s b : List Nat} (h : Dec rle s [] b) : unS rle s.length [] s = .ok b := by
  obtain ⟨k, h1, h2⟩ := h [] s.length (by simp)
  rw [List.append_nil] at h2
  rw [h2]
  cases k with
  | zero => rfl
  | succ k => unfold unS; simp
end Go.DD

/- Copies: the search by places is the search by distances. Conditions: none beyond those that each theorem states. -/
namespace Go.DD

def keyOf (b : List Nat) (i : Nat) : Nat := b.getD i 0 * 16777216 + b.getD (i + 1) 0 * 65536 + b.getD (i + 2) 0 * 256 + b.getD (i + 3) 0
def places (b : List Nat) (key : Nat) : Nat → List Nat
  | 0 => []
  | n + 1 => if keyOf b n = key then places b key n ++ [n] else places b key n
def lzTry (b : List Nat) (i : Nat) (s : Nat × Nat) (j : Nat) : Nat × Nat := if s.1 < same b j i 131 then (same b j i 131, i - j) else s
def lzStop (i : Nat) (s : Nat × Nat) (j : Nat) : Prop := 1024 < i - j ∨ s.1 = 131
instance (i : Nat) (s : Nat × Nat) (j : Nat) : Decidable (lzStop i s j) := by unfold lzStop; infer_instance
def lzBack (b : List Nat) (i : Nat) : List Nat → Nat × Nat → Nat × Nat
  | [], s => s
  | j :: l, s => if lzStop i s j then s else lzBack b i l (lzTry b i s j)
theorem places_lt (b : List Nat) (key : Nat) : ∀ n, ∀ j ∈ places b key n, j < n ∧ keyOf b j = key
  | 0, j, h => by cases h
  | n + 1, j, h => by
    unfold places at h
    split at h
    · rename_i hk
      rcases List.mem_append.1 h with h | h
      · have := places_lt b key n j h; exact ⟨by omega, this.2⟩
      · simp at h; subst h; exact ⟨by omega, hk⟩
    · have := places_lt b key n j h; exact ⟨by omega, this.2⟩
theorem byte_lt {b : List Nat} (h : ∀ x ∈ b, x < 256) (i : Nat) : b.getD i 0 < 256 := by
  rw [List.getD]
  cases hi : b[i]? with
  | none => simp
  | some x => simpa using h x (List.mem_of_getElem? hi)
theorem key_same {b : List Nat} (hb : ∀ x ∈ b, x < 256) {j i : Nat} (_hj : j < i) (hi : i + 4 ≤ b.length) : keyOf b j = keyOf b i ↔ 4 ≤ same b j i 131 := by
  have e : ∀ k, b.getD k 0 < 256 := byte_lt hb
  have e0 := e j; have e1 := e (j + 1); have e2 := e (j + 2); have e3 := e (j + 3)
  have f0 := e i; have f1 := e (i + 1); have f2 := e (i + 2); have f3 := e (i + 3)
  constructor
  · intro h
    unfold keyOf at h
    refine same_ext (by omega) fun m hm => ⟨by omega, ?_⟩
    obtain rfl | rfl | rfl | rfl : m = 0 ∨ m = 1 ∨ m = 2 ∨ m = 3 := by omega
    · simp only [Nat.add_zero]; omega
    · omega
    · omega
    · omega
  · intro h
    have g : ∀ m, m < 4 → b.getD (j + m) 0 = b.getD (i + m) 0 := fun m hm => (same_at (b := b) (j := j) (i := i) (most := 131) (by omega)).2
    have g0 := g 0 (by omega); have g1 := g 1 (by omega); have g2 := g 2 (by omega); have g3 := g 3 (by omega)
    simp only [Nat.add_zero] at g0
    unfold keyOf
    rw [g0, g1, g2, g3]
theorem lzTo_131 {b : List Nat} {i D : Nat} (h : (lzTo b i D).1 = 131) : ∀ e, lzTo b i (D + e) = lzTo b i D
  | 0 => rfl
  | e + 1 => by
    rw [← Nat.add_assoc, lzTo_succ, lzTo_131 h e]
    unfold lzStep
    have := same_le b (i - (D + e + 1)) i 131
    rw [if_neg (by omega)]
theorem lzBack_to {b : List Nat} (hb : ∀ x ∈ b, x < 256) {i : Nat} (hi : i + 4 ≤ b.length) : ∀ n, n ≤ i → lzBack b i (places b (keyOf b i) n).reverse (lzTo b i (min 1024 (i - n))) = lz b i
  | 0, _ => by
    show lzTo b i (min 1024 (i - 0)) = lz b i
    rw [Nat.sub_zero]; rfl
  | n + 1, hn => by
    have ih := lzBack_to hb hi n (by omega)
    unfold places
    by_cases hk : keyOf b n = keyOf b i
    · have h4 := (key_same hb (show n < i by omega) hi).1 hk
      rw [if_pos hk, List.reverse_append, List.reverse_singleton, List.singleton_append]
      unfold lzBack
      by_cases hs : lzStop i (lzTo b i (min 1024 (i - (n + 1)))) n
      · rw [if_pos hs]
        rcases hs with hs | hs
        · rw [show min 1024 (i - (n + 1)) = 1024 by omega]
          show _ = lzTo b i (min 1024 i)
          rw [show min 1024 i = 1024 by omega]
        · have := lzTo_131 hs (min 1024 i - min 1024 (i - (n + 1)))
          rw [← this]
          show _ = lzTo b i (min 1024 i)
          congr 1; omega
      · rw [if_neg hs]
        have hs1 : ¬ 1024 < i - n := fun h => hs (.inl h)
        have e : lzTry b i (lzTo b i (min 1024 (i - (n + 1)))) n = lzTo b i (min 1024 (i - n)) := by
          rw [show min 1024 (i - n) = min 1024 (i - (n + 1)) + 1 by omega, lzTo_succ, show min 1024 (i - (n + 1)) = i - n - 1 by omega, show i - n - 1 + 1 = i - n by omega]
          unfold lzTry lzStep
          rw [show i - (i - n) = n by omega]
          by_cases h : (lzTo b i (i - n - 1)).1 < same b n i 131
          · rw [if_pos h, if_pos ⟨h4, h⟩]
          · rw [if_neg h, if_neg (fun hh => h hh.2)]
        rw [e]; exact ih
    · have h4 : ¬ 4 ≤ same b n i 131 := fun h => hk ((key_same hb (show n < i by omega) hi).2 h)
      rw [if_neg hk]
      have e : lzTo b i (min 1024 (i - (n + 1))) = lzTo b i (min 1024 (i - n)) := by
        by_cases h : i - n ≤ 1024
        · rw [show min 1024 (i - n) = min 1024 (i - (n + 1)) + 1 by omega, lzTo_succ]
          unfold lzStep
          rw [show i - (min 1024 (i - (n + 1)) + 1) = n by omega, if_neg (fun hh => h4 hh.1)]
        · congr 1; omega
      rw [e]; exact ih
theorem lzBack_lz {b : List Nat} (hb : ∀ x ∈ b, x < 256) {i : Nat} (hi : i + 4 ≤ b.length) : lzBack b i (places b (keyOf b i) i).reverse (1, 0) = lz b i := by
  have := lzBack_to hb hi i (Nat.le_refl i)
  rw [Nat.sub_self, Nat.min_zero] at this
  exact this
/-- Behind the last four bytes nothing is copied. -/
theorem lz_end {b : List Nat} {i : Nat} (hi : ¬ i + 4 ≤ b.length) : lz b i = (1, 0) := by
  have : ∀ (l : List Nat) (s : Nat × Nat), l.foldl (lzStep b i) s = s := by
    intro l
    induction l with
    | nil => intro s; rfl
    | cons d l ih =>
      intro s
      rw [List.foldl_cons]
      have h : ¬ 4 ≤ same b (i - d) i 131 := fun h => by
        have := (same_at (b := b) (j := i - d) (i := i) (most := 131) (m := 3) (by omega)).1
        omega
      have e : lzStep b i s d = s := by unfold lzStep; rw [if_neg (fun hh => h hh.1)]
      rw [e]; exact ih s
  exact this _ _
theorem lzBack_le {b : List Nat} {i : Nat} : ∀ (l : List Nat) (s : Nat × Nat), s.1 ≤ 131 → s.2 ≤ 1024 → s.2 ≤ i → (lzBack b i l s).1 ≤ 131 ∧ (lzBack b i l s).2 ≤ 1024
  | [], s, h1, h2, _ => ⟨h1, h2⟩
  | j :: l, s, h1, h2, h3 => by
    unfold lzBack
    split
    · exact ⟨h1, h2⟩
    · rename_i hs
      have hs1 : ¬ 1024 < i - j := fun h => hs (.inl h)
      refine lzBack_le l _ ?_ ?_ ?_ <;> (unfold lzTry; split) <;> first | exact same_le _ _ _ _ | exact h1 | exact h2 | exact h3 | (show i - j ≤ _; omega)
end Go.DD

/- Chapter 03: how many bytes are equal. Conditions: those that each theorem states. -/
namespace Go.DD
open Go Go.Proofs

theorem te_ok : TbOK Tryz.prog 1000000 te := tbP_ok _ _
/-! A copy of an empty slice: of none, or of one that lies somewhere. -/
theorem cl0n (cap : Nat) : Known Tryz.prog 28 [.v (.slice none 0 cap)] (.v (.slice none 0 0)) := run_known (n := 1000) (k := 3) mixed te_ok (MemoOK.nil _) rfl (by kernel_rfl)
theorem cl0s (a : Addr) (cap : Nat) : Known Tryz.prog 28 [.v (.slice (some a) 0 cap)] (.sl [] 0) := run_known (n := 1000) (k := 3) mixed te_ok (MemoOK.nil _) rfl (by kernel_rfl)
theorem clone0 : Known Tryz.prog 28 [.sl [] 0] (.sl [] 0) := by
  refine ⟨(cl0n 0).1, fun x hx => by rw [List.mem_singleton] at hx; subst hx; rfl, fun w S vs h1 h2 h3 hg => ?_⟩
  obtain ⟨v, rfl⟩ : ∃ v, vs = [v] := by
    match vs, h2 with
    | [v], _ => exact ⟨v, rfl⟩
  have hr := h3 0 v _ rfl rfl
  have fin : ∀ a cap, v = .slice a 0 cap → Calls Tryz.prog 28 [v].toArray w fun e w' => ∃ v r, e = .returned v ∧ r = .sl [] 0 ∧ Go.RowKit.Below w.heap.size w w' ∧ RelI w' (fun b => (S b ∨ w.heap.size ≤ b) ∧ b < w'.heap.size) v r := by
    intro a cap hv
    subst hv
    cases a with
    | none =>
      refine ((cl0n cap).2.2 w S [.slice none 0 cap] h1 rfl (fun j u d hu hd => ?_) hg).mono fun e w' ⟨v, r, h4, h5, h6, h7⟩ => ?_
      · match j with
        | 0 => cases hu; cases hd; exact .v _
        | j + 1 => cases hu
      · subst h5
        cases h7
        exact ⟨_, _, h4, rfl, h6, .sl0 _ _⟩
    | some a =>
      refine (cl0s a cap).2.2 w S [.slice (some a) 0 cap] h1 rfl (fun j u d hu hd => ?_) hg
      match j with
      | 0 => cases hu; cases hd; exact .v _
      | j + 1 => cases hu
  cases hr with
  | sl0 a cap => exact fin a cap rfl
  | sl ad n cap us cs hl hn ha ho hc h => exact fin (some ad) cap rfl
/-- The contracts that are not walked in place: works; a copy of an empty slice. -/
noncomputable def relW (f : Nat) (ds : List DV) : Option DV := if f = 7 then (match ds with
  | [] => some (.v (.bool true))
  | _ => none) else if f = 28 then (match ds with
  | [.sl [] 0] => some (.sl [] 0)
  | _ => none) else none
theorem relW_ok : ∀ f ds d, relW f ds = some d → Known Tryz.prog f ds d := by
  intro f ds d h
  unfold relW at h
  split at h
  · rename_i hf
    subst hf
    cases ds with
    | nil => cases h; exact works
    | cons _ _ => cases h
  · split at h
    · rename_i hf
      subst hf
      split at h
      · cases h; exact clone0
      · cases h
    · cases h
theorem relW_n {f : Nat} {ds : List DV} (h : f ≠ 7 ∧ f ≠ 28) : relW f ds = none := by unfold relW; rw [if_neg h.1, if_neg h.2]
noncomputable def kN (k : Nat) : CallT := callN te 1000000 relW k
def iv (n : Int) : DV := .v (.int .i64 n)

theorem sameN_s {b : List Nat} {j i most n : Nat} (hn : n < most) (h2 : i + n < b.length) (h3 : b.getD (j + n) 0 = b.getD (i + n) 0) : sameN b j i (most - n) n = sameN b j i (most - (n + 1)) (n + 1) := by
  rw [show most - n = (most - (n + 1)) + 1 by omega, sameN, if_pos ⟨h2, h3⟩]
theorem sameN_e {b : List Nat} {j i most n : Nat} (hn : n < most) (h : ¬ (i + n < b.length ∧ b.getD (j + n) 0 = b.getD (i + n) 0)) : sameN b j i (most - n) n = n := by
  rw [show most - n = (most - (n + 1)) + 1 by omega, sameN, if_neg h]
theorem kn_same (k : Nat) (hp : Tr DObj) (nx : Nat) (K : DV → Tr DObj → Nat → Prop) (d : DV) (b : List Nat) (j i most : Nat) (hs : Src hp d b) (ho : Old nx d) (hji : j ≤ i) (hb : i + most < 4000000000) (hm : most < 1000000)
    (hK : ∀ nx', nx ≤ nx' → K (iv (same b j i most)) hp nx') : KW (kN (k + 1)) (.fn 65) [d, iv j, iv i, iv most] hp nx K := by
  refine kn_1 (relW_n (by decide)) t65 (Nat.le_of_ble_eq_true rfl) fun es e1 e2 he => ?_
  have a0 : rawE es (.t .o) = d := he 0 _ rfl
  have a1 : rawE es (.t (.l .o)) = iv j := he 1 _ rfl
  have a2 : rawE es (.t (.r .o)) = iv i := he 2 _ rfl
  have a3 : rawE es (.t (.l (.l .o))) = iv most := he 3 _ rfl
  unfold r65
  simp only [eq_self, ↓ew_s, ↓ew_n, ↓ew_e, ↓ew_b, ↓sw_q, ↓sw_m1, ↓sw_z, ↓then_n, xw_some, mk1_eq, rw_put, n_c, hp_put, nx_put, reduceCtorEq, true_and, or_true]
  refine EW.up most (fun n es1 => es1.hp = hp ∧ nx ≤ es1.nx ∧ rawE es1 (.t .o) = d ∧ rawE es1 (.t (.l .o)) = iv j ∧ rawE es1 (.t (.r .o)) = iv i ∧ rawE es1 (.t (.l (.l .o))) = iv most ∧ rawE es1 (.t (.l (.r (.l .o)))) = iv n ∧ sameN b j i (most - n) n = same b j i most) ?_ ?_ hm
  · rintro n es1 hn ⟨g1, g2, b0, b1, b2, b3, b9, hsm⟩
    unfold l65_1
    have hs1 : Src es1.hp d b := g1 ▸ hs
    have ho1 : Old es1.nx d := fun id h => Nat.lt_of_lt_of_le (ho id h) g2
    by_cases h1 : n < most
    · by_cases h2 : i + n < b.length
      · have hl := hs1.ia h2
        have hl3 : j + n < b.length := by omega
        have hl2 := hs1.ia hl3
        by_cases h3 : b.getD (j + n) 0 = b.getD (i + n) 0
        · simp only [eq_self, ↓ew_s, ↓ew_n, ↓ew_e, ↓ew_c', ↓ew_b, ↓sw_q, ↓sw_m1, ↓sw_z, ↓sw_x, gw_tt, ↓then_n, ↓then_x, ↓blk_n, ↓blk_x, xw_some, cw_t, mk1_eq, x_len, x_ia, x_ld, rw_put, rw_other, n_c, n_mk, sl_put, x_bin, x_pick, pick_b, ne_eq, reduceCtorEq, not_false_eq_true, and_true, true_and, and_self, if_true, decide_true, Pa.l.injEq, Pa.r.injEq, ↓sw_reg, ↓tw_q, ↓tw_z, ↓tw_chk, ↓tw_read, ↓tw_g, ↓chk_nil, ↓chk_cons, ro_v, okl_nops, look_f, ↓refsL_cons, ↓refs_nil, look_nil, refs_v, List.nil_append, List.append_nil, b_lssN, b_eqlN, b0, b1, b2, b3, b9, iv, ub, h1, h2, h3, hs1.len, hl, hl2, hs1.ld h2, hs1.ld hl3, hs1.ro ho1, hs1.roa ho1, b_addN (show i + n < _ by omega), b_addN (show j + n < _ by omega), b_add1 (show n < _ by omega)]
          exact ⟨g1, by omega, by rw [← hsm, sameN_s h1 h2 h3]⟩
        · simp only [eq_self, ↓ew_s, ↓ew_n, ↓ew_e, ↓ew_c', ↓ew_b, ↓sw_q, ↓sw_m1, ↓sw_z, ↓sw_x, gw_tt, ↓then_n, ↓then_x, ↓blk_n, ↓blk_x, xw_some, cw_f, mk1_eq, x_len, x_ia, x_ld, rw_put, rw_other, n_c, n_mk, sl_put, x_bin, x_pick, live_v, pick_b, ne_eq, reduceCtorEq, not_false_eq_true, and_true, true_and, and_self, if_true, decide_true, decide_false, Pa.l.injEq, Pa.r.injEq, ↓sw_reg, ↓tw_q, ↓tw_z, ↓tw_chk, ↓tw_read, ↓tw_g, ↓chk_nil, ↓chk_cons, ro_v, okl_nops, look_f, ↓refsL_cons, ↓refs_nil, look_nil, refs_v, List.nil_append, List.append_nil, b_lssN, b_eqlN, b0, b1, b2, b3, b9, iv, ub, h1, h2, h3, hs1.len, hl, hl2, hs1.ld h2, hs1.ld hl3, hs1.ro ho1, hs1.roa ho1, b_addN (show i + n < _ by omega), b_addN (show j + n < _ by omega), p8]
          rw [← sameN_e h1 (fun h => h3 h.2), hsm, g1]
          exact hK _ (by omega)
      · simp only [eq_self, ↓ew_s, ↓ew_n, ↓ew_e, ↓ew_c', gw_tt, gw_ft, ↓then_n, ↓then_x, ↓blk_x, xw_some, cw_f, x_len, rw_put, rw_other, n_c, n_mk, sl_put, x_bin, x_pick, live_v, pick_b, ne_eq, reduceCtorEq, not_false_eq_true, Bool.false_eq_true, true_and, and_self, if_true, if_false, decide_true, decide_false, Pa.l.injEq, Pa.r.injEq, ↓sw_reg, ↓tw_q, ↓tw_z, ↓tw_chk, ↓tw_read, ↓tw_g, ↓chk_nil, ↓chk_cons, ro_v, okl_nops, look_f, ↓refsL_cons, ↓refs_nil, look_nil, refs_v, List.append_nil, b_lssN, b0, b2, b3, b9, iv, h1, h2, hs1.len, hs1.ro ho1, b_addN (show i + n < _ by omega), p8]
        rw [← sameN_e h1 (fun h => h2 h.1), hsm, g1]
        exact hK _ (by omega)
    · obtain rfl : n = most := by omega
      simp only [eq_self, ↓ew_s, ↓ew_n, ↓ew_e, ↓ew_c', gw_ft, ↓then_n, ↓then_x, ↓blk_x, xw_some, cw_f, rw_put, rw_other, n_c, n_mk, sl_put, x_bin, x_pick, live_v, pick_b, ne_eq, reduceCtorEq, not_false_eq_true, Bool.false_eq_true, true_and, and_self, if_false, decide_false, Pa.l.injEq, Pa.r.injEq, ↓sw_reg, ↓tw_q, ↓tw_z, ↓tw_chk, ↓tw_read, ↓tw_g, ↓chk_nil, ↓chk_cons, ro_v, okl_nops, ↓refsL_cons, ↓refs_nil, look_nil, refs_v, List.append_nil, b_lssN, b3, b9, iv, h1, p8]
      rw [Nat.sub_self] at hsm
      rw [show same b j i n = n from hsm.symm] at hK
      rw [g1]
      exact hK _ (by omega)
  · simp only [eq_self, rw_put, rw_other, hp_put, nx_put, ne_eq, reduceCtorEq, not_false_eq_true, true_and, Pa.l.injEq, Pa.r.injEq, a0, a1, a2, a3]
    exact ⟨e1, by omega, rfl, rfl⟩
end Go.DD

/- Chapter 03, the reference: how many bytes are equal; runs; copies; literals. Conditions: those that each theorem states. -/
namespace Go.DD
open Go Go.Proofs
theorem kn_equal (k : Nat) (hp : Tr DObj) (nx : Nat) (K : DV → Tr DObj → Nat → Prop) (d : DV) (b : List Nat) (j i most : Nat) (hs : Src hp d b) (ho : Old nx d) (hji : j ≤ i) (hb : i + most < 4000000000) (hm : most < 1000000)
    (hK : ∀ nx', nx ≤ nx' → K (iv (same b j i most)) hp nx') : KW (kN (k + 1)) (.fn 70) [d, iv j, iv i, iv most] hp nx K := by
  refine kn_1 (relW_n (by decide)) t70 (Nat.le_of_ble_eq_true rfl) fun es e1 e2 he => ?_
  have a0 : rawE es (.t .o) = d := he 0 _ rfl
  have a1 : rawE es (.t (.l .o)) = iv j := he 1 _ rfl
  have a2 : rawE es (.t (.r .o)) = iv i := he 2 _ rfl
  have a3 : rawE es (.t (.l (.l .o))) = iv most := he 3 _ rfl
  unfold r70
  simp only [eq_self, ↓ew_s, ↓ew_n, ↓ew_e, ↓ew_b, ↓sw_q, ↓sw_m1, ↓sw_z, ↓then_n, xw_some, mk1_eq, rw_put, n_c, hp_put, nx_put, reduceCtorEq, true_and, or_true]
  refine EW.up most (fun n es1 => es1.hp = hp ∧ nx ≤ es1.nx ∧ rawE es1 (.t .o) = d ∧ rawE es1 (.t (.l .o)) = iv j ∧ rawE es1 (.t (.r .o)) = iv i ∧ rawE es1 (.t (.l (.l .o))) = iv most ∧ rawE es1 (.t (.l (.r (.l .o)))) = iv n ∧ sameN b j i (most - n) n = same b j i most) ?_ ?_ hm
  · rintro n es1 hn ⟨g1, g2, b0, b1, b2, b3, b9, hsm⟩
    unfold l70_1
    have hs1 : Src es1.hp d b := g1 ▸ hs
    have ho1 : Old es1.nx d := fun id h => Nat.lt_of_lt_of_le (ho id h) g2
    by_cases h1 : n < most
    · by_cases h2 : i + n < b.length
      · have hl := hs1.ia h2
        have hl3 : j + n < b.length := by omega
        have hl2 := hs1.ia hl3
        by_cases h3 : b.getD (j + n) 0 = b.getD (i + n) 0
        · simp only [eq_self, ↓ew_s, ↓ew_n, ↓ew_e, ↓ew_c', ↓ew_b, ↓sw_q, ↓sw_m1, ↓sw_z, ↓sw_x, gw_tt, ↓then_n, ↓then_x, ↓blk_n, ↓blk_x, xw_some, cw_t, mk1_eq, x_len, x_ia, x_ld, rw_put, rw_other, n_c, n_mk, sl_put, x_bin, x_pick, pick_b, ne_eq, reduceCtorEq, not_false_eq_true, and_true, true_and, and_self, if_true, decide_true, Pa.l.injEq, Pa.r.injEq, ↓sw_reg, ↓tw_q, ↓tw_z, ↓tw_chk, ↓tw_read, ↓tw_g, ↓chk_nil, ↓chk_cons, ro_v, okl_nops, look_f, ↓refsL_cons, ↓refs_nil, look_nil, refs_v, List.nil_append, List.append_nil, b_lssN, b_eqlN, b0, b1, b2, b3, b9, iv, ub, h1, h2, h3, hs1.len, hl, hl2, hs1.ld h2, hs1.ld hl3, hs1.ro ho1, hs1.roa ho1, b_addN (show i + n < _ by omega), b_addN (show j + n < _ by omega), b_add1 (show n < _ by omega)]
          exact ⟨g1, by omega, by rw [← hsm, sameN_s h1 h2 h3]⟩
        · simp only [eq_self, ↓ew_s, ↓ew_n, ↓ew_e, ↓ew_c', ↓ew_b, ↓sw_q, ↓sw_m1, ↓sw_z, ↓sw_x, gw_tt, ↓then_n, ↓then_x, ↓blk_n, ↓blk_x, xw_some, cw_f, mk1_eq, x_len, x_ia, x_ld, rw_put, rw_other, n_c, n_mk, sl_put, x_bin, x_pick, live_v, pick_b, ne_eq, reduceCtorEq, not_false_eq_true, and_true, true_and, and_self, if_true, decide_true, decide_false, Pa.l.injEq, Pa.r.injEq, ↓sw_reg, ↓tw_q, ↓tw_z, ↓tw_chk, ↓tw_read, ↓tw_g, ↓chk_nil, ↓chk_cons, ro_v, okl_nops, look_f, ↓refsL_cons, ↓refs_nil, look_nil, refs_v, List.nil_append, List.append_nil, b_lssN, b_eqlN, b0, b1, b2, b3, b9, iv, ub, h1, h2, h3, hs1.len, hl, hl2, hs1.ld h2, hs1.ld hl3, hs1.ro ho1, hs1.roa ho1, b_addN (show i + n < _ by omega), b_addN (show j + n < _ by omega), p8]
          rw [← sameN_e h1 (fun h => h3 h.2), hsm, g1]
          exact hK _ (by omega)
      · simp only [eq_self, ↓ew_s, ↓ew_n, ↓ew_e, ↓ew_c', gw_tt, gw_ft, ↓then_n, ↓then_x, ↓blk_x, xw_some, cw_f, x_len, rw_put, rw_other, n_c, n_mk, sl_put, x_bin, x_pick, live_v, pick_b, ne_eq, reduceCtorEq, not_false_eq_true, Bool.false_eq_true, true_and, and_self, if_true, if_false, decide_true, decide_false, Pa.l.injEq, Pa.r.injEq, ↓sw_reg, ↓tw_q, ↓tw_z, ↓tw_chk, ↓tw_read, ↓tw_g, ↓chk_nil, ↓chk_cons, ro_v, okl_nops, look_f, ↓refsL_cons, ↓refs_nil, look_nil, refs_v, List.append_nil, b_lssN, b0, b2, b3, b9, iv, h1, h2, hs1.len, hs1.ro ho1, b_addN (show i + n < _ by omega), p8]
        rw [← sameN_e h1 (fun h => h2 h.1), hsm, g1]
        exact hK _ (by omega)
    · obtain rfl : n = most := by omega
      simp only [eq_self, ↓ew_s, ↓ew_n, ↓ew_e, ↓ew_c', gw_ft, ↓then_n, ↓then_x, ↓blk_x, xw_some, cw_f, rw_put, rw_other, n_c, n_mk, sl_put, x_bin, x_pick, live_v, pick_b, ne_eq, reduceCtorEq, not_false_eq_true, Bool.false_eq_true, true_and, and_self, if_false, decide_false, Pa.l.injEq, Pa.r.injEq, ↓sw_reg, ↓tw_q, ↓tw_z, ↓tw_chk, ↓tw_read, ↓tw_g, ↓chk_nil, ↓chk_cons, ro_v, okl_nops, ↓refsL_cons, ↓refs_nil, look_nil, refs_v, List.append_nil, b_lssN, b3, b9, iv, h1, p8]
      rw [Nat.sub_self] at hsm
      rw [show same b j i n = n from hsm.symm] at hK
      rw [g1]
      exact hK _ (by omega)
  · simp only [eq_self, rw_put, rw_other, hp_put, nx_put, ne_eq, reduceCtorEq, not_false_eq_true, true_and, Pa.l.injEq, Pa.r.injEq, a0, a1, a2, a3]
    exact ⟨e1, by omega, rfl, rfl⟩

/-- New objects. -/
def Rng (n n' : Nat) (d : DV) : Prop := ∀ id ∈ d.refs, n ≤ id ∧ id < n'
theorem Rng.nil (n n' : Nat) : Rng n n' nilS := fun _ h => by cases h
theorem Rng.mono {n m n' m' : Nat} {d : DV} (h : Rng n n' d) (h1 : m ≤ n) (h2 : n' ≤ m') : Rng m m' d := fun id hi => ⟨Nat.le_trans h1 (h id hi).1, Nat.lt_of_lt_of_le (h id hi).2 h2⟩
theorem Rng.ms {n n' id off m e : Nat} (h1 : n ≤ id) (h2 : id < n') : Rng n n' (.ms id off m e) := fun j hj => by
  have : j = id := by simpa [DV.refs] using hj
  subst this; exact ⟨h1, h2⟩
theorem Old.mono {n m : Nat} {d : DV} (h : Old n d) (h1 : n ≤ m) : Old m d := fun id hi => Nat.lt_of_lt_of_le (h id hi) h1
theorem mmN (k k' : IntKind) (a : Nat) : mmD false (.v (.int k (a : Int))) (.v (.int k' 128)) = some (.v (.int k ((min a 128 : Nat) : Int))) := by
  rw [mm_min]; congr 3; omega
theorem fill1 (z : Value) (v : Nat) : fillD ((List.replicate 1 ([z].map DV.v)).flatten) [(0, 1, ub v)] = some ([v].map ub) := by
  simp [fillD, ub, DV.okC, DV.cells, Value.oneCell']
theorem b_gtrN (k : IntKind) (a b : Nat) : binD .gtr (.v (.int k (a : Int))) (.v (.int k (b : Int))) = some (.v (.bool (decide (b < a)))) := by
  rw [b_gtr]
  congr 3
  by_cases h : b < a
  · simp [h, show (b : Int) < a by omega]
  · simp [h, show ¬ (b : Int) < a by omega]
theorem b_gtr0 (k : IntKind) (a : Nat) : binD .gtr (.v (.int k (a : Int))) (.v (.int k 0)) = some (.v (.bool (decide (0 < a)))) := b_gtrN k a 0
theorem b_sub1 {a : Nat} (h : 1 ≤ a) (h2 : a < 9000000000000000000) : binD .sub (.v (.int .i64 (a : Int))) (.v (.int .i64 1)) = some (.v (.int .i64 ((a - 1 : Nat) : Int))) := b_subN h h2

theorem live_ub (hp : Tr DObj) (n : Nat) : liveE hp (ub n) = ub n := live_v hp _
theorem Al.step {hp : Tr DObj} {nx : Nat} {hp1 hp2 : Tr DObj} {n1 n2 : Nat} (h : Al hp nx hp1 n1) (h2 : n1 ≤ n2) (hk : ∀ j, j < nx → hp2.get j = hp1.get j) : Al hp nx hp2 n2 := ⟨Nat.le_trans h.le h2, fun j hj => (hk j hj).trans (h.same j hj)⟩
theorem kn_lits (k : Nat) (hp : Tr DObj) (nx : Nat) (K : DV → Tr DObj → Nat → Prop) (d : DV) (l : List Nat) (hs : Src hp d l) (ho : Old nx d) (hl : l.length < 900000)
    (hK : ∀ hp' nx' d', Al hp nx hp' nx' → Own hp' d' (litD l) → Rng nx nx' d' → K d' hp' nx') : KW (kN (k + 1)) (.fn 47) [d] hp nx K := by
  refine kn_1 (relW_n (by decide)) t47 (Nat.le_of_ble_eq_true rfl) fun es e1 e2 he => ?_
  have a0 : rawE es (.t .o) = d := he 0 _ rfl
  unfold r47
  simp only [↓ew_s, ↓ew_n, ↓ew_b, ↓sw_q, ↓sw_m1, ↓sw_z, ↓then_n, xw_some, mk1_eq, n_c, ↓z_l]
  refine EW.l (I := fun n es1 => ∃ out rest d0 d3, n = rest.length ∧ rest.length ≤ l.length ∧ rawE es1 (.t .o) = d0 ∧ rawE es1 (.t (.l (.l .o))) = d3 ∧ Src es1.hp d0 rest ∧ (∀ id ∈ d0.refs, id ∈ d.refs) ∧ Own es1.hp d3 out ∧ Rng nx es1.nx d3 ∧ Al hp nx es1.hp es1.nx ∧ out ++ litD rest = litD l) ?_ l.length 1000000 _ ?_ (by omega)
  · rintro n es1 ⟨out, rest, d0, d3, rfl, hlen, b0, b3, hs0, hr0, ho3, hr3, hal, hout⟩
    unfold l47_1
    by_cases h1 : 0 < rest.length
    · simp only [↓ew_s, ↓ew_n, ↓ew_e, ↓ew_c', ↓ew_b, ↓sw_q, ↓sw_m1, ↓sw_z, ↓sw_x, ↓then_n, xw_some, cw_t, mk1_eq, x_len, rw_put, rw_other, n_c, hp_put, x_bin, live_v, ne_eq, reduceCtorEq, not_false_eq_true, decide_true, Pa.l.injEq, ↓z_bsl, ↓sw_cviE, ↓sw_mm, n_ev, n_evc, n_ofi, b0, b3, h1, hs0.len, b_gtr0, mmN, b_sub1 (show 1 ≤ min rest.length 128 by omega) (by omega), cvi_u8 (show min rest.length 128 - 1 < 256 by omega), p9, p13]
      have hq : 1 ≤ min rest.length 128 ∧ min rest.length 128 ≤ rest.length := by omega
      have hstep := litD_step h1
      generalize min rest.length 128 = q at hq hstep ⊢
      refine sw_bsl (l := [q - 1]) rfl rfl (by simp only [List.map_cons, List.map_nil, n_ev, rw_put, hp_put, p14, live_ub]; exact fill1 _ _) fun hp1 hg1 hk1 => ?_
      simp only [hp_put, nx_put, ne_eq] at hg1 hk1
      have hs3 : Own hp1 d3 out := ho3.keep fun id hid => hk1 id (by have := hr3 id hid; omega)
      have hsx : Own hp1 (.ms es1.nx 0 1 1) [q - 1] := .ms es1.nx [q - 1] hg1
      simp only [↓sw_q, nx_put, sl_put, ↓z_app]
      have hlo : out.length + (litD rest).length ≤ 2000000 := by
        have := congrArg List.length hout
        rw [List.length_append, litD_len _ l rfl] at this
        omega
      have hst := congrArg List.length hstep
      simp only [List.length_cons, List.length_append, List.length_take] at hst
      refine sw_app (d := d3) (d2 := .ms es1.nx 0 1 1) (l := out) (m := [q - 1]) (by simp only [rw_put, rw_other, n_mk, ne_eq, reduceCtorEq, not_false_eq_true, Pa.l.injEq, p11]) hs3 (by simp only [rw_put, n_mk, p15]; rfl) hsx.src (by simp only [List.length_singleton]; omega) (by decide) fun hp2 hg2 hk2 => ?_
      simp only [ne_eq] at hg2 hk2
      simp only [↓ew_s, ↓ew_n, ↓sw_q, ↓sw_m1, ↓sw_z, ↓then_n, xw_some, mk1_eq, rw_put, rw_other, n_mk, sl_put, ne_eq, reduceCtorEq, not_false_eq_true, Pa.l.injEq, Pa.r.injEq, ↓z_sli, b0]
      have hs2 : Src hp2 d0 rest := hs0.keep fun id hid => by
        have h2 := ho id (hr0 id hid)
        have h3 := hal.le
        rw [hk2 id (by omega) (fun h4 => by have := hr3 id h4; omega), hk1 id (by omega)]
      refine sw_sli (d := d0) (a := 0) (z := q) (l := rest) (by simp only [rw_put, rw_other, n_mk, ne_eq, reduceCtorEq, not_false_eq_true, p18]) hs2 (bndD_none _ _) (fun n hn => by simp only [bndD_some, n_ev, rw_put, n_mk, p19, live_v]; rfl) (by omega) (by omega) fun d4 hd4 hr4 => ?_
      simp only [] at hd4
      simp only [↓sw_q, sl_put, ↓z_app]
      have hs4 : Own hp2 (.ms (es1.nx + 1) 0 (out ++ [q - 1]).length 1) (out ++ [q - 1]) := .ms _ _ hg2
      refine sw_app (d2 := d4) (m := (rest.drop 0).take (q - 0)) (by simp only [rw_put, rw_other, n_mk, ne_eq, reduceCtorEq, not_false_eq_true, Pa.l.injEq, p17]) hs4 (by simp only [rw_put, n_mk, p20]) hd4 (by simp only [List.length_singleton, List.length_append, List.length_take, List.length_drop]; omega) (by decide) fun hp3 hg3 hk3 => ?_
      simp only [ne_eq] at hg3 hk3
      simp only [↓ew_n, ↓sw_q, ↓sw_m1, ↓sw_z, ↓then_n, xw_some, mk1_eq, rw_put, rw_other, n_mk, sl_put, ne_eq, reduceCtorEq, not_false_eq_true, Pa.l.injEq, Pa.r.injEq, ↓z_sli, b0]
      have hk3' : ∀ j, j ∈ d0.refs → hp3.get j = hp2.get j := fun j hj => by
        have h2 := ho j (hr0 j hj)
        have h3 := hal.le
        exact hk3 j (by omega) (by simp only [DV.refs, List.mem_singleton]; omega)
      refine sw_sli (d := d0) (a := q) (z := rest.length) (l := rest) (by simp only [rw_put, rw_other, n_mk, ne_eq, reduceCtorEq, not_false_eq_true, p22]) (hs2.keep hk3') (by simp only [bndD_some, n_ev, rw_put, n_mk, p23, live_v]; rfl) (fun n hn => by rw [hn]; exact bndD_none _ _) (by omega) (by omega) fun d5 hd5 hr5 => ?_
      simp only [] at hd5
      simp only [↓sw_q, ↓sw_m1, ↓sw_z, ↓then_n, ↓blk_n, xw_some, mk1_eq, rw_put, rw_other, n_mk, sl_put, ne_eq, reduceCtorEq, not_false_eq_true, Pa.l.injEq]
      refine ⟨_, ?_, _, rest.drop q, d5, _, rfl, ?_, rfl, rfl, ?_, fun id hid => hr0 id (hr5 id hid), .ms _ _ hg3, Rng.ms (by have := hal.le; omega) (by omega), hal.step (by omega) fun j hj => ?_, ?_⟩
      · rw [List.length_drop]; omega
      · rw [List.length_drop]; omega
      · rwa [List.take_of_length_le (by rw [List.length_drop]; omega)] at hd5
      · rw [hk3 j (by have := hal.le; omega) (by simp only [DV.refs, List.mem_singleton]; have := hal.le; omega), hk2 j (by have := hal.le; omega) (fun h4 => by have := hr3 j h4; omega), hk1 j (by have := hal.le; omega)]
      · rw [← hout, hstep]; simp
    · have : rest = [] := List.eq_nil_of_length_eq_zero (by omega)
      subst this
      simp only [eq_self, ↓ew_s, ↓ew_n, ↓ew_e, ↓ew_c', ↓sw_q, ↓sw_m1, ↓sw_z, ↓sw_x, ↓then_n, ↓then_x, ↓blk_x, xw_some, cw_f, mk1_eq, x_len, rw_put, rw_other, n_c, hp_put, nx_put, x_bin, ne_eq, reduceCtorEq, not_false_eq_true, true_and, or_true, decide_false, Pa.l.injEq, b0, b3, h1, hs0.len, b_gtr0, p2, ho3.src.live]
      rw [litD_nil, List.append_nil] at hout
      subst hout
      exact hK _ _ _ hal ho3 hr3
  · simp only [rw_put, rw_other, hp_put, nx_put, ne_eq, reduceCtorEq, not_false_eq_true, a0]
    exact ⟨[], l, d, _, rfl, Nat.le_refl _, rfl, rfl, e1 ▸ hs, fun _ h => h, .nil, Rng.nil _ _, by rw [e1, e2]; exact Al.refl _ _, rfl⟩
end Go.DD

/- Chapter 03, the reference: runs and copies at a place. Conditions: those that each theorem states. -/
namespace Go.DD
open Go Go.Proofs

section
variable {call : CallT} {es : ES} {dst : Option Pa} {q : Hold (ES → Prop)}
theorem kws {tg : Tg} {ds : List DV} {hp : Tr DObj} {nx : Nat} {q : Hold (DV → Tr DObj → Nat → Prop)} (h : KW call tg ds hp nx q.val) : KWs call tg ds hp nx := h
end
theorem fill2 (z : Value) (a b : Nat) : fillD ((List.replicate 2 ([z].map DV.v)).flatten) [(0, 1, ub a), (1, 1, ub b)] = some ([a, b].map ub) := by
  simp [fillD, ub, DV.okC, DV.cells, Value.oneCell', List.replicate]
theorem fill3 (z : Value) (a b c : Nat) : fillD ((List.replicate 3 ([z].map DV.v)).flatten) [(0, 1, ub a), (1, 1, ub b), (2, 1, ub c)] = some ([a, b, c].map ub) := by
  simp [fillD, ub, DV.okC, DV.cells, Value.oneCell', List.replicate]
theorem b_add1l {a : Nat} (h : a < 9000000000000000000) : binD .add (.v (.int .i64 1)) (.v (.int .i64 (a : Int))) = some (.v (.int .i64 ((1 + a : Nat) : Int))) := by
  rw [b_add, wrap_in (by omega)]; rfl
theorem b_addL (c : Nat) {a : Nat} (h : a < 4000000000000000000) (hc : c < 4000000000000000000) : binD .add (.v (.int .i64 (a : Int))) (.v (.int .i64 (c : Int))) = some (.v (.int .i64 ((a + c : Nat) : Int))) := b_addN (by omega)
theorem b_lssL (k : IntKind) (a c : Nat) : binD .lss (.v (.int k (a : Int))) (.v (.int k (c : Int))) = some (.v (.bool (decide (a < c)))) := b_lssN k a c
theorem b_lss3 (k : IntKind) (a : Nat) : binD .lss (.v (.int k (a : Int))) (.v (.int k 3)) = some (.v (.bool (decide (a < 3)))) := b_lssN k a 3
theorem b_lss4 (k : IntKind) (a : Nat) : binD .lss (.v (.int k (a : Int))) (.v (.int k 4)) = some (.v (.bool (decide (a < 4)))) := b_lssN k a 4
theorem b_add125 {a : Nat} (h : a < 4000000000000000000) : binD .add (.v (.int .i64 (a : Int))) (.v (.int .i64 125)) = some (.v (.int .i64 ((a + 125 : Nat) : Int))) := b_addL 125 h (by omega)
theorem b_add124 {a : Nat} (h : a < 4000000000000000000) : binD .add (.v (.int .i64 (a : Int))) (.v (.int .i64 124)) = some (.v (.int .i64 ((a + 124 : Nat) : Int))) := b_addL 124 h (by omega)

/-- A run, or none. -/
def runQ (b : List Nat) (i : Nat) : Nat × List Nat := if 3 ≤ 1 + same b i (i + 1) 129 then (1 + same b i (i + 1) 129, [1 + same b i (i + 1) 129 + 125, b.getD i 0]) else (0, [])
theorem kn_run (k : Nat) (hp : Tr DObj) (nx : Nat) (K : DV → Tr DObj → Nat → Prop) (d : DV) (b : List Nat) (i : Nat) (hs : Src hp d b) (ho : Old nx d) (hi : i < b.length) (hl : b.length < 900000)
    (hK : ∀ hp' nx' d', Al hp nx hp' nx' → Own hp' d' (runQ b i).2 → Rng nx nx' d' → K (.tup [d', iv (runQ b i).1]) hp' nx') : KW (kN (k + 2)) (.fn 45) [d, iv i] hp nx K := by
  refine kn_2 (relW_n (by decide)) t45 (Nat.le_of_ble_eq_true rfl) fun es e1 e2 he => ?_
  have a0 : rawE es (.t .o) = d := he 0 _ rfl
  have a1 : rawE es (.t (.l .o)) = iv i := he 1 _ rfl
  unfold r45
  simp only [↓ew_s, ↓ew_n, ↓sw_q, ↓sw_m1, ↓sw_z, ↓sw_x, ↓then_n, xw_some, mk1_eq, List.map_cons, List.map_nil, rw_put, rw_other, n_c, hp_put, nx_put, x_bin, ne_eq, reduceCtorEq, not_false_eq_true, Pa.l.injEq, Pa.r.injEq, ↓z_call, a0, a1, iv, b_add1 (show i < _ by omega)]
  refine kws (kn_equal k _ _ _ d b i (i + 1) 129 (e1 ▸ hs) (e2 ▸ ho) (by omega) (by omega) (by omega) fun nx1 hnx1 => ?_)
  have hle := same_le b i (i + 1) 129
  unfold runQ at hK
  generalize same b i (i + 1) 129 = m at hle hK ⊢
  by_cases h3 : 1 + m < 3
  · rw [if_neg (by omega)] at hK
    simp only [eq_self, ↓ew_s, ↓ew_n, ↓ew_e, ↓ew_c', ↓sw_q, ↓sw_m1, ↓sw_z, ↓sw_x, ↓then_n, ↓then_r, xw_some, cw_t, mk1_eq, rw_put, rw_other, n_c, n_mk, sl_put, x_bin, live_v, ne_eq, reduceCtorEq, not_false_eq_true, true_and, or_true, decide_true, p4, p5, iv, h3, b_add1l (show m < _ by omega), b_lss3]
    refine hK _ _ _ ⟨by omega, fun j _ => by rw [e1]⟩ .nil (Rng.nil _ _)
  · rw [if_pos (by omega)] at hK
    have hs1 : Src es.hp d b := e1 ▸ hs
    simp only [↓ew_s, ↓ew_n, ↓ew_e, ↓ew_c', ↓sw_q, ↓sw_m1, ↓sw_z, ↓sw_x, ↓then_n, xw_some, cw_f, mk1_eq, x_ia, x_ld, rw_put, rw_other, n_c, n_mk, sl_put, x_bin, live_v, ne_eq, reduceCtorEq, not_false_eq_true, decide_false, Pa.l.injEq, Pa.r.injEq, ↓z_bsl, ↓sw_cviE, n_ev, p16, a0, a1, iv, h3, b_add1l (show m < _ by omega), b_lss3, b_add125 (show 1 + m < _ by omega), cvi_u8 (show 1 + m + 125 < 256 by omega), hs1.ia hi, hs1.ld hi]
    refine sw_bsl (l := [1 + m + 125, b.getD i 0]) rfl rfl (by simp only [List.map_cons, List.map_nil, n_ev, rw_put, rw_other, n_mk, ne_eq, reduceCtorEq, not_false_eq_true, Pa.l.injEq, Pa.r.injEq, p17, p21, live_ub]; exact fill2 _ _ _) fun hp1 hg1 hk1 => ?_
    simp only [ne_eq] at hg1 hk1
    have how : Own hp1 (.ms nx1 0 2 1) [1 + m + 125, b.getD i 0] := .ms nx1 [1 + m + 125, b.getD i 0] hg1
    simp only [eq_self, ↓ew_e, ↓sw_q, ↓sw_m1, ↓sw_z, ↓then_n, xw_some, mk1_eq, rw_put, rw_other, n_mk, sl_put, live_v, ne_eq, reduceCtorEq, not_false_eq_true, true_and, or_true, Pa.r.injEq, p4, p5]
    rw [e2] at hnx1
    refine cast (congrArg (fun x => K (.tup [x, _]) _ _) how.src.live.symm) (hK hp1 (nx1 + 1) _ ⟨by omega, fun j hj => by rw [hk1 j (by omega), e1]⟩ how (Rng.ms (by omega) (by omega)))
end Go.DD

/- Chapter 03, the reference: copies at a place; what is packed. Conditions: those that each theorem states. -/
namespace Go.DD
open Go Go.Proofs

theorem b_leqN (k : IntKind) (a b : Nat) : binD .leq (.v (.int k (a : Int))) (.v (.int k (b : Int))) = some (.v (.bool (decide (a ≤ b)))) := by
  rw [b_leq]
  congr 3
  by_cases h : a ≤ b
  · simp [h, show (a : Int) ≤ b by omega]
  · simp [h, show ¬ (a : Int) ≤ b by omega]
theorem b_leq1024 (k : IntKind) (a : Nat) : binD .leq (.v (.int k (a : Int))) (.v (.int k 1024)) = some (.v (.bool (decide (a ≤ 1024)))) := b_leqN k a 1024
theorem b_quo256 {a : Nat} (h : a < 9000000000000000000) : binD .quo (.v (.int .i64 (a : Int))) (.v (.int .i64 256)) = some (.v (.int .i64 ((a / 256 : Nat) : Int))) := by
  have e : IntKind.i64.wrap ((a : Int).tdiv 256) = ((a / 256 : Nat) : Int) := by
    rw [Int.tdiv_eq_ediv_of_nonneg (by omega), wrap_in (by omega)]; omega
  show (if (256 : Int) = 0 then none else some (Value.int .i64 (IntKind.i64.wrap ((a : Int).tdiv 256)))).map DV.v = _
  rw [if_neg (by decide), e]; rfl
theorem b_rem256 (a : Nat) : binD .rem (.v (.int .i64 (a : Int))) (.v (.int .i64 256)) = some (.v (.int .i64 ((a % 256 : Nat) : Int))) := by
  have e : ((a : Int).tmod 256) = ((a % 256 : Nat) : Int) := by
    rw [Int.tmod_eq_emod_of_nonneg (by omega)]; omega
  show (if (256 : Int) = 0 then none else some (Value.int .i64 ((a : Int).tmod 256))).map DV.v = _
  rw [if_neg (by decide), e]; rfl
def matchQ (b : List Nat) (i : Nat) : Nat × List Nat := if (rlz b i).1 < 4 then (0, []) else ((rlz b i).1, [(rlz b i).1 + 124, (rlz b i).2 / 256, (rlz b i).2 % 256])
theorem rlTo_le (b : List Nat) (i : Nat) : ∀ d, (rlzTo b i d).1 ≤ 131 ∧ (rlzTo b i d).2 ≤ d
  | 0 => ⟨by simp [rlzTo], by simp [rlzTo]⟩
  | d + 1 => by
    rw [rlzTo_succ]
    have ih := rlTo_le b i d
    have := same_le b (i - (d + 1)) i 131
    unfold rlStep
    split
    · exact ⟨this, Nat.le_refl _⟩
    · exact ⟨ih.1, by omega⟩
theorem kn_match (k : Nat) (hp : Tr DObj) (nx : Nat) (K : DV → Tr DObj → Nat → Prop) (d : DV) (b : List Nat) (i : Nat) (hs : Src hp d b) (ho : Old nx d) (hi : i < b.length) (hl : b.length < 900000)
    (hK : ∀ hp' nx' d', Al hp nx hp' nx' → Own hp' d' (matchQ b i).2 → Rng nx nx' d' → K (.tup [d', iv (matchQ b i).1]) hp' nx') : KW (kN (k + 2)) (.fn 46) [d, iv i] hp nx K := by
  refine kn_2 (relW_n (by decide)) t46 (Nat.le_of_ble_eq_true rfl) fun es e1 e2 he => ?_
  have a0 : rawE es (.t .o) = d := he 0 _ rfl
  have a1 : rawE es (.t (.l .o)) = iv i := he 1 _ rfl
  unfold r46
  simp only [↓ew_s, ↓ew_n, ↓ew_b, ↓sw_q, ↓sw_m1, ↓sw_z, ↓then_n, xw_some, mk1_eq, n_c, ↓z_l]
  refine EW.up (min 1024 i) (fun n es1 => rawE es1 (.t .o) = d ∧ rawE es1 (.t (.l .o)) = iv i ∧ rawE es1 (.t (.r (.l (.l .o)))) = iv ((n + 1 : Nat) : Int) ∧ rawE es1 (.t (.r (.r .o))) = iv (rlzTo b i n).1 ∧ rawE es1 (.t (.l (.l (.l .o)))) = iv (rlzTo b i n).2 ∧ es1.hp = hp ∧ nx ≤ es1.nx) ?_ ?_ (by omega)
  · rintro n es1 hn ⟨b0, b1, b8, b6, b7, g1, g2⟩
    unfold l46_1
    have hb := rlTo_le b i n
    have hs1 : Src es1.hp d b := g1 ▸ hs
    by_cases h1 : n < min 1024 i
    · have h2 : n + 1 ≤ 1024 := by omega
      have h3 : n + 1 ≤ i := by omega
      simp only [eq_self, ↓ew_s, ↓ew_n, ↓ew_e, ↓ew_c', ↓ew_b, ↓sw_q, ↓sw_m1, ↓sw_z, ↓sw_x, ↓sw_g', gw_tt, ↓then_n, xw_some, cw_t, mk1_eq, List.map_cons, List.map_nil, rw_put, rw_other, n_c, hp_put, nx_put, x_bin, x_pick, pick_b, ne_eq, reduceCtorEq, not_false_eq_true, if_true, decide_true, Pa.l.injEq, Pa.r.injEq, ↓z_call, b0, b1, b8, iv, h2, h3, b_leq1024, b_leqN, b_subN h3 (show i < _ by omega)]
      refine kws (kn_equal k _ _ _ d b (i - (n + 1)) i 131 hs1 (ho.mono g2) (by omega) (by omega) (by omega) fun nx1 hnx1 => ?_)
      have hs := rlzTo_succ b i n
      unfold rlStep at hs
      by_cases h4 : (rlzTo b i n).1 < same b (i - (n + 1)) i 131
      · rw [if_pos h4] at hs
        simp only [eq_self, ↓ew_s, ↓ew_n, ↓ew_c', ↓sw_q, ↓sw_m1, ↓sw_z, ↓sw_x, ↓then_n, ↓blk_n, xw_some, cw_t, mk1_eq, rw_put, rw_other, n_c, n_mk, sl_put, x_bin, ne_eq, reduceCtorEq, not_false_eq_true, true_and, decide_true, Pa.l.injEq, Pa.r.injEq, b0, b1, b8, b6, iv, h4, b_gtrN, b_add1 (show n + 1 < _ by omega), hs, g1]
        exact ⟨by omega, by omega⟩
      · rw [if_neg h4] at hs
        simp only [eq_self, ↓ew_s, ↓ew_n, ↓ew_e, ↓ew_c', ↓sw_q, ↓sw_m1, ↓sw_z, ↓sw_x, ↓then_n, ↓blk_n, xw_some, cw_f, mk1_eq, rw_put, rw_other, n_c, n_mk, sl_put, x_bin, ne_eq, reduceCtorEq, not_false_eq_true, true_and, decide_false, Pa.l.injEq, Pa.r.injEq, b0, b1, b8, b6, b7, iv, h4, b_gtrN, b_add1 (show n + 1 < _ by omega), hs, g1]
        exact ⟨by omega, by omega⟩
    · obtain rfl : n = min 1024 i := by omega
      have hz : rlzTo b i (min 1024 i) = rlz b i := rfl
      rw [hz] at b6 b7 hb
      unfold matchQ at hK
      generalize rlz b i = z at *
      obtain ⟨z1, z2⟩ := z
      simp only at *
      have hx : ∀ (R : Exit → ES → Prop), R (.exit 0) es1 → True := fun _ _ => trivial
      have hno : ¬ (min 1024 i + 1 ≤ 1024 ∧ min 1024 i + 1 ≤ i) := by omega
      by_cases h4 : z1 < 4
      · rw [if_pos h4] at hK
        by_cases h2 : min 1024 i + 1 ≤ 1024
        · have h3 : ¬ min 1024 i + 1 ≤ i := by omega
          simp only [eq_self, ↓ew_s, ↓ew_n, ↓ew_e, ↓ew_c', ↓sw_q, ↓sw_m1, ↓sw_z, ↓sw_x, ↓sw_g', gw_tt, ↓then_n, ↓then_r, ↓then_x, ↓blk_x, xw_some, cw_t, cw_f, mk1_eq, rw_put, rw_other, n_c, hp_put, nx_put, x_bin, x_pick, live_v, pick_b, ne_eq, reduceCtorEq, not_false_eq_true, true_and, or_true, if_true, decide_true, decide_false, Pa.l.injEq, Pa.r.injEq, p4, p5, b1, b8, b6, iv, h2, h3, h4, b_leq1024, b_leqN, b_lss4]
          exact hK _ _ _ ⟨g2, fun j _ => by rw [g1]⟩ .nil (Rng.nil _ _)
        · simp only [eq_self, ↓ew_s, ↓ew_n, ↓ew_e, ↓ew_c', ↓sw_q, ↓sw_m1, ↓sw_z, ↓sw_x, ↓sw_g', gw_ft, ↓then_n, ↓then_r, ↓then_x, ↓blk_x, xw_some, cw_t, cw_f, mk1_eq, rw_put, rw_other, n_c, hp_put, nx_put, x_bin, x_pick, live_v, pick_b, ne_eq, reduceCtorEq, not_false_eq_true, Bool.false_eq_true, true_and, or_true, if_false, decide_true, decide_false, Pa.r.injEq, p4, p5, b8, b6, iv, h2, h4, b_leq1024, b_lss4]
          exact hK _ _ _ ⟨g2, fun j _ => by rw [g1]⟩ .nil (Rng.nil _ _)
      · rw [if_neg h4] at hK
        have key : ∀ hp1 : Tr DObj, hp1.get es1.nx = some (.row 5 ([z1 + 124, z2 / 256, z2 % 256].map ub)) → (∀ j, ¬ j = es1.nx → hp1.get j = es1.hp.get j) → K (.tup [liveE hp1 (.ms es1.nx 0 3 1), iv z1]) hp1 (es1.nx + 1) := by
          intro hp1 hg1 hk1
          have how : Own hp1 (.ms es1.nx 0 3 1) [z1 + 124, z2 / 256, z2 % 256] := .ms es1.nx [z1 + 124, z2 / 256, z2 % 256] hg1
          rw [how.src.live]
          exact hK hp1 (es1.nx + 1) _ ⟨by omega, fun j hj => by rw [hk1 j (by omega), g1]⟩ how (Rng.ms (by omega) (by omega))
        by_cases h2 : min 1024 i + 1 ≤ 1024
        · have h3 : ¬ min 1024 i + 1 ≤ i := by omega
          simp only [eq_self, ↓ew_s, ↓ew_n, ↓ew_e, ↓ew_c', ↓sw_q, ↓sw_m1, ↓sw_z, ↓sw_x, ↓sw_g', gw_tt, ↓then_n, ↓then_x, ↓blk_x, xw_some, cw_f, mk1_eq, rw_put, rw_other, n_c, hp_put, x_bin, x_pick, live_v, pick_b, ne_eq, reduceCtorEq, not_false_eq_true, if_true, decide_true, decide_false, Pa.l.injEq, Pa.r.injEq, ↓z_bsl, ↓sw_cviE, n_ev, p33, p36, p39, b1, b8, b6, b7, iv, h2, h3, h4, b_leq1024, b_leqN, b_lss4, b_add124 (show z1 < _ by omega), b_quo256 (show z2 < _ by omega), b_rem256, cvi_u8 (show z1 + 124 < 256 by omega), cvi_u8 (show z2 / 256 < 256 by omega), cvi_u8 (show z2 % 256 < 256 by omega)]
          refine sw_bsl (l := [z1 + 124, z2 / 256, z2 % 256]) rfl rfl (by simp only [List.map_cons, List.map_nil, n_ev, rw_put, rw_other, hp_put, ne_eq, reduceCtorEq, not_false_eq_true, Pa.l.injEq, Pa.r.injEq, p34, p37, p40, live_ub]; exact fill3 _ _ _ _) fun hp1 hg1 hk1 => ?_
          simp only [hp_put, nx_put, ne_eq] at hg1 hk1
          simp only [eq_self, ↓ew_e, ↓sw_q, ↓sw_m1, ↓sw_z, ↓then_n, xw_some, mk1_eq, rw_put, rw_other, n_mk, nx_put, sl_put, ne_eq, reduceCtorEq, not_false_eq_true, true_and, or_true, Pa.r.injEq, p4, p5, b6]
          exact key _ hg1 hk1
        · simp only [↓ew_s, ↓ew_n, ↓ew_e, ↓ew_c', ↓sw_q, ↓sw_m1, ↓sw_z, ↓sw_x, ↓sw_g', gw_ft, ↓then_n, ↓then_x, ↓blk_x, xw_some, cw_f, mk1_eq, rw_put, rw_other, n_c, hp_put, x_bin, x_pick, live_v, pick_b, ne_eq, reduceCtorEq, not_false_eq_true, Bool.false_eq_true, if_false, decide_false, Pa.l.injEq, Pa.r.injEq, ↓z_bsl, ↓sw_cviE, n_ev, p33, p36, p39, b8, b6, b7, iv, h2, h4, b_leq1024, b_lss4, b_add124 (show z1 < _ by omega), b_quo256 (show z2 < _ by omega), b_rem256, cvi_u8 (show z1 + 124 < 256 by omega), cvi_u8 (show z2 / 256 < 256 by omega), cvi_u8 (show z2 % 256 < 256 by omega)]
          refine sw_bsl (l := [z1 + 124, z2 / 256, z2 % 256]) rfl rfl (by simp only [List.map_cons, List.map_nil, n_ev, rw_put, rw_other, hp_put, ne_eq, reduceCtorEq, not_false_eq_true, Pa.l.injEq, Pa.r.injEq, p34, p37, p40, live_ub]; exact fill3 _ _ _ _) fun hp1 hg1 hk1 => ?_
          simp only [hp_put, nx_put, ne_eq] at hg1 hk1
          simp only [eq_self, ↓ew_e, ↓sw_q, ↓sw_m1, ↓sw_z, ↓then_n, xw_some, mk1_eq, rw_put, rw_other, n_mk, nx_put, sl_put, ne_eq, reduceCtorEq, not_false_eq_true, true_and, or_true, Pa.r.injEq, p4, p5, b6]
          exact key _ hg1 hk1
  · simp only [eq_self, rw_put, rw_other, hp_put, nx_put, ne_eq, reduceCtorEq, not_false_eq_true, true_and, Pa.l.injEq, Pa.r.injEq, a0, a1]
    exact ⟨rfl, rfl, rfl, e1, by omega⟩
end Go.DD

/- Chapter 03, the reference: what is packed. Conditions: those that each theorem states. -/
namespace Go.DD
open Go Go.Proofs

theorem runQ_0 {b : List Nat} {i : Nat} (h : (runQ b i).1 = 0) : itemR b i = (1, [b.getD i 0]) := by
  unfold runQ at h
  unfold itemR
  split at h
  · simp at h
  · rw [if_neg (by omega)]
theorem runQ_1 {b : List Nat} {i : Nat} (h : ¬ (runQ b i).1 = 0) : itemR b i = runQ b i ∧ 1 < (runQ b i).2.length ∧ (runQ b i).2.length ≤ 3 := by
  unfold runQ at h ⊢
  unfold itemR
  split at h
  · rename_i hc
    rw [if_pos (by omega), if_pos hc, Nat.add_comm]
    simp
  · simp at h
theorem rlTo_pos (b : List Nat) (i : Nat) : ∀ d, 0 < (rlzTo b i d).1 → 1 ≤ (rlzTo b i d).2
  | 0, h => by simp [rlzTo] at h
  | d + 1, h => by
    rw [rlzTo_succ] at h ⊢
    have ih := rlTo_pos b i d
    unfold rlStep at h ⊢
    split at h
    · rename_i hc; rw [if_pos hc]; simp
    · rename_i hc; rw [if_neg hc]; exact ih h
theorem matchQ_0 {b : List Nat} {i : Nat} (h : (matchQ b i).1 = 0) : itemL b i = (1, [b.getD i 0]) := by
  have hr := lz_rlz b i
  unfold matchQ at h
  unfold itemL
  split at h
  · rename_i hc
    rw [hr.2 hc]; rfl
  · simp at h; omega
theorem matchQ_1 {b : List Nat} {i : Nat} (h : ¬ (matchQ b i).1 = 0) : itemL b i = matchQ b i ∧ 1 < (matchQ b i).2.length ∧ (matchQ b i).2.length ≤ 3 := by
  have hr := lz_rlz b i
  unfold matchQ at h ⊢
  unfold itemL
  split at h
  · simp at h
  · rename_i hc
    have h2 : 1 ≤ (rlz b i).2 := rlTo_pos b i (min 1024 i) (show 0 < (rlz b i).1 by omega)
    rw [hr.1 (by omega), if_pos (by omega), if_neg hc]
    simp
theorem b_eql0 (k : IntKind) (a : Nat) : binD .eql (.v (.int k (a : Int))) (.v (.int k 0)) = some (.v (.bool (decide (a = 0)))) := b_eqlN k a 0
theorem b_eql22 : binD .eql (.v (.int .i64 2)) (.v (.int .i64 2)) = some (.v (.bool true)) := rfl
theorem b_eql32 : binD .eql (.v (.int .i64 3)) (.v (.int .i64 2)) = some (.v (.bool false)) := rfl
theorem fin_r (s : RS) : s.out ++ litD s.lits = s.fin := rfl
theorem ub_b (l : List Nat) (i : Nat) : ub (l.getD i 0) = ub (l.getD i 0) := rfl

theorem kn_packedR (k : Nat) (hp : Tr DObj) (nx : Nat) (K : DV → Tr DObj → Nat → Prop) (d : DV) (b : List Nat) (hs : Src hp d b) (ho : Old nx d) (hl : b.length < 400000)
    (hK : ∀ hp' nx' d', Al hp nx hp' nx' → Own hp' d' (pack itemR b) → Rng nx nx' d' → K d' hp' nx') : KW (kN (k + 3)) (.fn 20) [iv 2, d] hp nx K := by
  refine kn_1 (relW_n (by decide)) t20 (Nat.le_of_ble_eq_true rfl) fun es e1 e2 he => ?_
  have a0 : rawE es (.t .o) = iv 2 := he 0 _ rfl
  have a1 : rawE es (.t (.l .o)) = d := he 1 _ rfl
  unfold r20
  simp only [↓ew_s, ↓ew_n, ↓ew_b, ↓sw_q, ↓sw_m1, ↓sw_z, ↓then_n, xw_some, mk1_eq, n_c, ↓z_l]
  rw [pack_eq (itemR_x b)] at hK
  refine EW.l (I := fun n es1 => ∃ i out lits d5 d6, n = b.length + 131 - i ∧ i ≤ b.length + 130 ∧ rawE es1 (.t .o) = iv 2 ∧ rawE es1 (.t (.l .o)) = d ∧ rawE es1 (.t (.l (.r .o))) = d5 ∧ rawE es1 (.t (.r (.r .o))) = d6 ∧ rawE es1 (.t (.l (.l (.l .o)))) = iv (i : Nat) ∧ Own es1.hp d5 out ∧ Own es1.hp d6 lits ∧ Rng nx es1.nx d5 ∧ Rng nx es1.nx d6 ∧ (∀ id ∈ d5.refs, id ∉ d6.refs) ∧ Al hp nx es1.hp es1.nx ∧ out.length + 2 * lits.length ≤ 4 * i ∧ rpackAt itemR b i ⟨out, lits⟩ = rpackAt itemR b 0 ⟨[], []⟩) ?_ (b.length + 131) 1000000 _ ?_ (by omega)
  · rintro n es1 ⟨i, out, lits, d5, d6, rfl, hib, b0, b1, b5, b6, b7, ho5, ho6, hr5, hr6, hdis, hal, hlen, hst⟩
    unfold l20_1
    have hs1 : Src es1.hp d b := hs.al ho hal
    have ho1 : Old es1.nx d := ho.mono hal.le
    have hle := hal.le
    by_cases h1 : i < b.length
    · rw [rpackAt_step (itemR_1 b) h1] at hst
      simp only [↓ew_s, ↓ew_n, ↓ew_e, ↓ew_c', ↓ew_b, ↓sw_q, ↓sw_m1, ↓sw_z, ↓sw_x, ↓then_n, xw_some, cw_t, mk1_eq, x_len, List.map_cons, List.map_nil, rw_put, rw_other, n_c, hp_put, nx_put, x_bin, ne_eq, reduceCtorEq, not_false_eq_true, decide_true, Pa.l.injEq, Pa.r.injEq, ↓z_call, b0, b1, b7, iv, h1, hs1.len, b_lssN, b_eql22]
      refine kws (kn_run k _ _ _ d b i hs1 ho1 h1 (by omega) fun hp1 nx1 d8 hal1 how8 hr8 => ?_)
      have hle1 := hal1.le
      have k5 : Own hp1 d5 out := ho5.keep fun id hid => hal1.same id (by have := hr5 id hid; omega)
      have k6 : Own hp1 d6 lits := ho6.keep fun id hid => hal1.same id (by have := hr6 id hid; omega)
      have k1 : Src hp1 d b := hs1.al ho1 hal1
      have hal01 : Al hp nx hp1 nx1 := Al.trans hal hal1
      by_cases h0 : (runQ b i).1 = 0
      · have hit := runQ_0 h0
        rw [hit] at hst
        have hst' : rpackAt itemR b (i + 1) ⟨out, lits ++ [b.getD i 0]⟩ = rpackAt itemR b 0 ⟨[], []⟩ := hst
        simp only [eq_self, ↓ew_s, ↓ew_n, ↓ew_c', ↓sw_q, ↓sw_m1, ↓sw_z, ↓sw_x, ↓then_n, xw_some, cw_t, mk1_eq, x_ia, x_ld, rw_put, rw_other, n_c, n_mk, sl_put, x_bin, ne_eq, reduceCtorEq, not_false_eq_true, decide_true, Pa.l.injEq, Pa.r.injEq, ↓z_bsl, x_xe, ext21, b1, b6, b7, iv, h0, b_eql0, k1.ia h1, k1.ld h1, ext20 how8.src]
        refine sw_bsl (l := [b.getD i 0]) rfl rfl (by simp only [List.map_cons, List.map_nil, n_ev, rw_put, n_mk, p34, live_ub]; exact fill1 _ _) fun hp2 hg2 hk2 => ?_
        simp only [ne_eq] at hg2 hk2
        have hsx : Own hp2 (.ms nx1 0 1 1) [b.getD i 0] := .ms nx1 [b.getD i 0] hg2
        have m5 : Own hp2 d5 out := k5.keep fun id hid => hk2 id (by have := hr5 id hid; omega)
        have m6 : Own hp2 d6 lits := k6.keep fun id hid => hk2 id (by have := hr6 id hid; omega)
        simp only [↓sw_q, sl_put, ↓z_app]
        refine sw_app (d := d6) (d2 := .ms nx1 0 1 1) (l := lits) (m := [b.getD i 0]) (by simp only [rw_put, rw_other, n_mk, ne_eq, reduceCtorEq, not_false_eq_true, Pa.r.injEq, p30]) m6 (by simp only [rw_put, n_mk, p35]; rfl) hsx.src (by simp only [List.length_singleton]; omega) (by decide) fun hp3 hg3 hk3 => ?_
        simp only [ne_eq] at hg3 hk3
        simp only [eq_self, ↓ew_s, ↓ew_n, ↓ew_e, ↓sw_q, ↓sw_m1, ↓sw_z, ↓sw_x, ↓then_n, ↓then_x, ↓blk_x, xw_some, mk1_eq, rw_put, rw_other, n_c, n_mk, sl_put, x_bin, ne_eq, reduceCtorEq, not_false_eq_true, true_and, Pa.l.injEq, Pa.r.injEq, b0, b1, b5, b7, iv, b_add1 (show i < _ by omega)]
        refine ⟨b.length + 131 - (i + 1), by omega, i + 1, out, lits ++ [b.getD i 0], d5, _, rfl, by omega, rfl, rfl, rfl, m5.keep fun id hid => hk3 id (by have := hr5 id hid; omega) (hdis id hid), .ms _ _ hg3, hr5.mono (Nat.le_refl _) (by omega), Rng.ms (by omega) (by omega), fun id hid => ?_, hal01.step (by omega) fun j hj => ?_, by simp only [List.length_append, List.length_singleton]; omega, hst'⟩
        · have := hr5 id hid
          simp only [DV.refs, List.mem_singleton]; omega
        · rw [hk3 j (by omega) (fun h4 => by have := hr6 j h4; omega), hk2 j (by omega)]
      · obtain ⟨hit, hx1, hx3⟩ := runQ_1 h0
        rw [hit] at hst
        simp only [↓ew_s, ↓ew_n, ↓ew_e, ↓ew_c', ↓sw_q, ↓sw_m1, ↓sw_z, ↓sw_x, ↓then_n, xw_some, cw_f, mk1_eq, List.map_cons, List.map_nil, rw_put, rw_other, n_c, n_mk, sl_put, x_bin, ne_eq, reduceCtorEq, not_false_eq_true, decide_false, Pa.l.injEq, Pa.r.injEq, ↓z_call, x_xe, ext21, b5, b6, iv, h0, b_eql0, ext20 how8.src]
        refine kws (kn_lits _ _ _ _ d6 lits k6.src (fun id hid => by have := hr6 id hid; omega) (by omega) fun hp2 nx2 d9 hal2 how9 hr9 => ?_)
        have hle2 := hal2.le
        have m5 : Own hp2 d5 out := k5.keep fun id hid => hal2.same id (by have := hr5 id hid; omega)
        have m8 : Own hp2 d8 _ := how8.keep fun id hid => hal2.same id (by have := hr8 id hid; omega)
        have hl9 := litD_len _ lits rfl
        simp only [↓sw_q, sl_put, ↓z_app]
        refine sw_app (d := d5) (d2 := d9) (l := out) (m := litD lits) (by simp only [rw_put, rw_other, n_mk, ne_eq, reduceCtorEq, not_false_eq_true, Pa.l.injEq, p39]) m5 (by simp only [rw_put, n_mk, p41]) how9.src (by omega) (by decide) fun hp3 hg3 hk3 => ?_
        simp only [ne_eq] at hg3 hk3
        simp only [↓ew_s, ↓ew_n, ↓sw_q, ↓sw_m1, ↓sw_z, ↓then_n, xw_some, mk1_eq, rw_put, rw_other, n_mk, sl_put, ne_eq, reduceCtorEq, not_false_eq_true, Pa.l.injEq, Pa.r.injEq, ↓z_app]
        have m8' : Own hp3 d8 _ := m8.keep fun id hid => hk3 id (by have := hr8 id hid; omega) (fun h4 => by have := hr8 id hid; have := hr5 id h4; omega)
        have mo : Own hp3 (.ms nx2 0 (out ++ litD lits).length 1) (out ++ litD lits) := .ms _ _ hg3
        refine sw_app (d2 := d8) (by simp only [rw_put, rw_other, n_mk, ne_eq, reduceCtorEq, not_false_eq_true, p43]) mo (by simp only [rw_put, n_mk, p44]) m8'.src (by rw [List.length_append]; omega) (by decide) fun hp4 hg4 hk4 => ?_
        simp only [ne_eq] at hg4 hk4
        have hn0 : (runQ b i).1 ≤ 131 := by
          have := same_le b i (i + 1) 129
          unfold runQ; split <;> simp only <;> omega
        simp only [eq_self, ↓ew_s, ↓ew_n, ↓sw_q, ↓sw_m1, ↓sw_z, ↓sw_x, ↓then_n, ↓blk_n, xw_some, mk1_eq, rw_put, rw_other, n_c, n_mk, sl_put, x_bin, ne_eq, reduceCtorEq, not_false_eq_true, true_and, Pa.l.injEq, Pa.r.injEq, b0, b1, b7, iv, b_addN (show i + (runQ b i).1 < _ by omega)]
        have hst' : rpackAt itemR b (i + (runQ b i).1) ⟨out ++ litD lits ++ (runQ b i).2, []⟩ = rpackAt itemR b 0 ⟨[], []⟩ := by
          rw [← hst]; unfold RS.step; rw [if_pos hx1]
        refine ⟨b.length + 131 - (i + (runQ b i).1), by omega, i + (runQ b i).1, out ++ litD lits ++ (runQ b i).2, [], _, _, rfl, by omega, rfl, rfl, rfl, .ms _ _ hg4, .nil, Rng.ms (by omega) (by omega), Rng.nil _ _, fun id hid h4 => (by cases h4), hal01.step (by omega) fun j hj => ?_, by simp only [List.length_append, List.length_nil]; omega, hst'⟩
        rw [hk4 j (by omega) (by simp only [DV.refs, List.mem_singleton]; omega), hk3 j (by omega) (fun h4 => by have := hr5 j h4; omega), hal2.same j (by omega)]
    · rw [rpackAt_end (by omega)] at hst
      rw [← hst] at hK
      simp only [↓ew_s, ↓ew_n, ↓ew_e, ↓ew_c', ↓sw_q, ↓sw_m1, ↓sw_z, ↓sw_x, ↓then_n, ↓then_x, ↓blk_x, xw_some, cw_f, mk1_eq, x_len, List.map_cons, List.map_nil, rw_put, rw_other, hp_put, nx_put, x_bin, ne_eq, reduceCtorEq, not_false_eq_true, decide_false, Pa.l.injEq, Pa.r.injEq, ↓z_call, b1, b5, b6, b7, iv, h1, hs1.len, b_lssN]
      refine kws (kn_lits _ _ _ _ d6 lits ho6.src (fun id hid => (hr6 id hid).2) (by omega) fun hp2 nx2 d9 hal2 how9 hr9 => ?_)
      have hle2 := hal2.le
      have m5 : Own hp2 d5 out := ho5.keep fun id hid => hal2.same id (by have := hr5 id hid; omega)
      have hl9 := litD_len _ lits rfl
      simp only [↓sw_q, sl_put, ↓z_app]
      refine sw_app (d := d5) (d2 := d9) (l := out) (m := litD lits) (by simp only [rw_put, rw_other, n_mk, ne_eq, reduceCtorEq, not_false_eq_true, Pa.l.injEq, p49]) m5 (by simp only [rw_put, n_mk, p51]) how9.src (by omega) (by decide) fun hp3 hg3 hk3 => ?_
      simp only [ne_eq] at hg3 hk3
      have how : Own hp3 (.ms nx2 0 (out ++ litD lits).length 1) (out ++ litD lits) := .ms _ _ hg3
      simp only [eq_self, ↓ew_e, ↓sw_q, ↓sw_m1, ↓sw_z, ↓then_n, xw_some, mk1_eq, rw_put, n_mk, sl_put, reduceCtorEq, true_and, or_true, p4]
      rw [how.src.live]
      exact hK _ _ _ (hal.step (by omega) fun j hj => by rw [hk3 j (by omega) (fun h4 => by have := hr5 j h4; omega), hal2.same j (by omega)]) how (Rng.ms (by omega) (by omega))
  · simp only [eq_self, rw_put, rw_other, hp_put, nx_put, ne_eq, reduceCtorEq, not_false_eq_true, true_and, Pa.l.injEq, a0, a1]
    exact ⟨0, [], [], _, _, rfl, by omega, rfl, rfl, rfl, .nil, .nil, Rng.nil _ _, Rng.nil _ _, fun id hid => (by cases hid), by rw [e1, e2]; exact Al.refl _ _, by simp, rfl⟩
end Go.DD

/- Chapter 03, the reference: what is packed by copies; Pack. Conditions: those that each theorem states. -/
namespace Go.DD
open Go Go.Proofs
theorem kn_packedL (k : Nat) (hp : Tr DObj) (nx : Nat) (K : DV → Tr DObj → Nat → Prop) (d : DV) (b : List Nat) (hs : Src hp d b) (ho : Old nx d) (hl : b.length < 400000)
    (hK : ∀ hp' nx' d', Al hp nx hp' nx' → Own hp' d' (pack itemL b) → Rng nx nx' d' → K d' hp' nx') : KW (kN (k + 3)) (.fn 20) [iv 3, d] hp nx K := by
  refine kn_1 (relW_n (by decide)) t20 (Nat.le_of_ble_eq_true rfl) fun es e1 e2 he => ?_
  have a0 : rawE es (.t .o) = iv 3 := he 0 _ rfl
  have a1 : rawE es (.t (.l .o)) = d := he 1 _ rfl
  unfold r20
  simp only [↓ew_s, ↓ew_n, ↓ew_b, ↓sw_q, ↓sw_m1, ↓sw_z, ↓then_n, xw_some, mk1_eq, n_c, ↓z_l]
  rw [pack_eq (itemL_x b)] at hK
  refine EW.l (I := fun n es1 => ∃ i out lits d5 d6, n = b.length + 131 - i ∧ i ≤ b.length + 130 ∧ rawE es1 (.t .o) = iv 3 ∧ rawE es1 (.t (.l .o)) = d ∧ rawE es1 (.t (.l (.r .o))) = d5 ∧ rawE es1 (.t (.r (.r .o))) = d6 ∧ rawE es1 (.t (.l (.l (.l .o)))) = iv (i : Nat) ∧ Own es1.hp d5 out ∧ Own es1.hp d6 lits ∧ Rng nx es1.nx d5 ∧ Rng nx es1.nx d6 ∧ (∀ id ∈ d5.refs, id ∉ d6.refs) ∧ Al hp nx es1.hp es1.nx ∧ out.length + 2 * lits.length ≤ 4 * i ∧ rpackAt itemL b i ⟨out, lits⟩ = rpackAt itemL b 0 ⟨[], []⟩) ?_ (b.length + 131) 1000000 _ ?_ (by omega)
  · rintro n es1 ⟨i, out, lits, d5, d6, rfl, hib, b0, b1, b5, b6, b7, ho5, ho6, hr5, hr6, hdis, hal, hlen, hst⟩
    unfold l20_1
    have hs1 : Src es1.hp d b := hs.al ho hal
    have ho1 : Old es1.nx d := ho.mono hal.le
    have hle := hal.le
    by_cases h1 : i < b.length
    · rw [rpackAt_step (itemL_1 b) h1] at hst
      simp only [↓ew_s, ↓ew_n, ↓ew_e, ↓ew_c', ↓ew_b, ↓sw_q, ↓sw_m1, ↓sw_z, ↓sw_x, ↓then_n, xw_some, cw_t, cw_f, mk1_eq, x_len, List.map_cons, List.map_nil, rw_put, rw_other, n_c, hp_put, nx_put, x_bin, ne_eq, reduceCtorEq, not_false_eq_true, decide_true, Pa.l.injEq, Pa.r.injEq, ↓z_call, b0, b1, b7, iv, h1, hs1.len, b_lssN, b_eql32]
      refine kws (kn_match k _ _ _ d b i hs1 ho1 h1 (by omega) fun hp1 nx1 d8 hal1 how8 hr8 => ?_)
      have hle1 := hal1.le
      have k5 : Own hp1 d5 out := ho5.keep fun id hid => hal1.same id (by have := hr5 id hid; omega)
      have k6 : Own hp1 d6 lits := ho6.keep fun id hid => hal1.same id (by have := hr6 id hid; omega)
      have k1 : Src hp1 d b := hs1.al ho1 hal1
      have hal01 : Al hp nx hp1 nx1 := Al.trans hal hal1
      by_cases h0 : (matchQ b i).1 = 0
      · have hit := matchQ_0 h0
        rw [hit] at hst
        have hst' : rpackAt itemL b (i + 1) ⟨out, lits ++ [b.getD i 0]⟩ = rpackAt itemL b 0 ⟨[], []⟩ := hst
        simp only [eq_self, ↓ew_s, ↓ew_n, ↓ew_c', ↓sw_q, ↓sw_m1, ↓sw_z, ↓sw_x, ↓then_n, xw_some, cw_t, mk1_eq, x_ia, x_ld, rw_put, rw_other, n_c, n_mk, sl_put, x_bin, ne_eq, reduceCtorEq, not_false_eq_true, decide_true, Pa.l.injEq, Pa.r.injEq, ↓z_bsl, x_xe, ext21, b1, b6, b7, iv, h0, b_eql0, k1.ia h1, k1.ld h1, ext20 how8.src]
        refine sw_bsl (l := [b.getD i 0]) rfl rfl (by simp only [List.map_cons, List.map_nil, n_ev, rw_put, n_mk, p34, live_ub]; exact fill1 _ _) fun hp2 hg2 hk2 => ?_
        simp only [ne_eq] at hg2 hk2
        have hsx : Own hp2 (.ms nx1 0 1 1) [b.getD i 0] := .ms nx1 [b.getD i 0] hg2
        have m5 : Own hp2 d5 out := k5.keep fun id hid => hk2 id (by have := hr5 id hid; omega)
        have m6 : Own hp2 d6 lits := k6.keep fun id hid => hk2 id (by have := hr6 id hid; omega)
        simp only [↓sw_q, sl_put, ↓z_app]
        refine sw_app (d := d6) (d2 := .ms nx1 0 1 1) (l := lits) (m := [b.getD i 0]) (by simp only [rw_put, rw_other, n_mk, ne_eq, reduceCtorEq, not_false_eq_true, Pa.r.injEq, p30]) m6 (by simp only [rw_put, n_mk, p35]; rfl) hsx.src (by simp only [List.length_singleton]; omega) (by decide) fun hp3 hg3 hk3 => ?_
        simp only [ne_eq] at hg3 hk3
        simp only [eq_self, ↓ew_s, ↓ew_n, ↓ew_e, ↓sw_q, ↓sw_m1, ↓sw_z, ↓sw_x, ↓then_n, ↓then_x, ↓blk_x, xw_some, mk1_eq, rw_put, rw_other, n_c, n_mk, sl_put, x_bin, ne_eq, reduceCtorEq, not_false_eq_true, true_and, Pa.l.injEq, Pa.r.injEq, b0, b1, b5, b7, iv, b_add1 (show i < _ by omega)]
        refine ⟨b.length + 131 - (i + 1), by omega, i + 1, out, lits ++ [b.getD i 0], d5, _, rfl, by omega, rfl, rfl, rfl, m5.keep fun id hid => hk3 id (by have := hr5 id hid; omega) (hdis id hid), .ms _ _ hg3, hr5.mono (Nat.le_refl _) (by omega), Rng.ms (by omega) (by omega), fun id hid => ?_, hal01.step (by omega) fun j hj => ?_, by simp only [List.length_append, List.length_singleton]; omega, hst'⟩
        · have := hr5 id hid
          simp only [DV.refs, List.mem_singleton]; omega
        · rw [hk3 j (by omega) (fun h4 => by have := hr6 j h4; omega), hk2 j (by omega)]
      · obtain ⟨hit, hx1, hx3⟩ := matchQ_1 h0
        rw [hit] at hst
        simp only [↓ew_s, ↓ew_n, ↓ew_e, ↓ew_c', ↓sw_q, ↓sw_m1, ↓sw_z, ↓sw_x, ↓then_n, xw_some, cw_f, mk1_eq, List.map_cons, List.map_nil, rw_put, rw_other, n_c, n_mk, sl_put, x_bin, ne_eq, reduceCtorEq, not_false_eq_true, decide_false, Pa.l.injEq, Pa.r.injEq, ↓z_call, x_xe, ext21, b5, b6, iv, h0, b_eql0, ext20 how8.src]
        refine kws (kn_lits _ _ _ _ d6 lits k6.src (fun id hid => by have := hr6 id hid; omega) (by omega) fun hp2 nx2 d9 hal2 how9 hr9 => ?_)
        have hle2 := hal2.le
        have m5 : Own hp2 d5 out := k5.keep fun id hid => hal2.same id (by have := hr5 id hid; omega)
        have m8 : Own hp2 d8 _ := how8.keep fun id hid => hal2.same id (by have := hr8 id hid; omega)
        have hl9 := litD_len _ lits rfl
        simp only [↓sw_q, sl_put, ↓z_app]
        refine sw_app (d := d5) (d2 := d9) (l := out) (m := litD lits) (by simp only [rw_put, rw_other, n_mk, ne_eq, reduceCtorEq, not_false_eq_true, Pa.l.injEq, p39]) m5 (by simp only [rw_put, n_mk, p41]) how9.src (by omega) (by decide) fun hp3 hg3 hk3 => ?_
        simp only [ne_eq] at hg3 hk3
        simp only [↓ew_s, ↓ew_n, ↓sw_q, ↓sw_m1, ↓sw_z, ↓then_n, xw_some, mk1_eq, rw_put, rw_other, n_mk, sl_put, ne_eq, reduceCtorEq, not_false_eq_true, Pa.l.injEq, Pa.r.injEq, ↓z_app]
        have m8' : Own hp3 d8 _ := m8.keep fun id hid => hk3 id (by have := hr8 id hid; omega) (fun h4 => by have := hr8 id hid; have := hr5 id h4; omega)
        have mo : Own hp3 (.ms nx2 0 (out ++ litD lits).length 1) (out ++ litD lits) := .ms _ _ hg3
        refine sw_app (d2 := d8) (by simp only [rw_put, rw_other, n_mk, ne_eq, reduceCtorEq, not_false_eq_true, p43]) mo (by simp only [rw_put, n_mk, p44]) m8'.src (by rw [List.length_append]; omega) (by decide) fun hp4 hg4 hk4 => ?_
        simp only [ne_eq] at hg4 hk4
        have hn0 : (matchQ b i).1 ≤ 131 := by
          have : (rlz b i).1 ≤ 131 := (rlTo_le b i (min 1024 i)).1
          unfold matchQ; split
          · simp
          · exact this
        simp only [eq_self, ↓ew_s, ↓ew_n, ↓sw_q, ↓sw_m1, ↓sw_z, ↓sw_x, ↓then_n, ↓blk_n, xw_some, mk1_eq, rw_put, rw_other, n_c, n_mk, sl_put, x_bin, ne_eq, reduceCtorEq, not_false_eq_true, true_and, Pa.l.injEq, Pa.r.injEq, b0, b1, b7, iv, b_addN (show i + (matchQ b i).1 < _ by omega)]
        have hst' : rpackAt itemL b (i + (matchQ b i).1) ⟨out ++ litD lits ++ (matchQ b i).2, []⟩ = rpackAt itemL b 0 ⟨[], []⟩ := by
          rw [← hst]; unfold RS.step; rw [if_pos hx1]
        refine ⟨b.length + 131 - (i + (matchQ b i).1), by omega, i + (matchQ b i).1, out ++ litD lits ++ (matchQ b i).2, [], _, _, rfl, by omega, rfl, rfl, rfl, .ms _ _ hg4, .nil, Rng.ms (by omega) (by omega), Rng.nil _ _, fun id hid h4 => (by cases h4), hal01.step (by omega) fun j hj => ?_, by simp only [List.length_append, List.length_nil]; omega, hst'⟩
        rw [hk4 j (by omega) (by simp only [DV.refs, List.mem_singleton]; omega), hk3 j (by omega) (fun h4 => by have := hr5 j h4; omega), hal2.same j (by omega)]
    · rw [rpackAt_end (by omega)] at hst
      rw [← hst] at hK
      simp only [↓ew_s, ↓ew_n, ↓ew_e, ↓ew_c', ↓sw_q, ↓sw_m1, ↓sw_z, ↓sw_x, ↓then_n, ↓then_x, ↓blk_x, xw_some, cw_f, mk1_eq, x_len, List.map_cons, List.map_nil, rw_put, rw_other, hp_put, nx_put, x_bin, ne_eq, reduceCtorEq, not_false_eq_true, decide_false, Pa.l.injEq, Pa.r.injEq, ↓z_call, b1, b5, b6, b7, iv, h1, hs1.len, b_lssN]
      refine kws (kn_lits _ _ _ _ d6 lits ho6.src (fun id hid => (hr6 id hid).2) (by omega) fun hp2 nx2 d9 hal2 how9 hr9 => ?_)
      have hle2 := hal2.le
      have m5 : Own hp2 d5 out := ho5.keep fun id hid => hal2.same id (by have := hr5 id hid; omega)
      have hl9 := litD_len _ lits rfl
      simp only [↓sw_q, sl_put, ↓z_app]
      refine sw_app (d := d5) (d2 := d9) (l := out) (m := litD lits) (by simp only [rw_put, rw_other, n_mk, ne_eq, reduceCtorEq, not_false_eq_true, Pa.l.injEq, p49]) m5 (by simp only [rw_put, n_mk, p51]) how9.src (by omega) (by decide) fun hp3 hg3 hk3 => ?_
      simp only [ne_eq] at hg3 hk3
      have how : Own hp3 (.ms nx2 0 (out ++ litD lits).length 1) (out ++ litD lits) := .ms _ _ hg3
      simp only [eq_self, ↓ew_e, ↓sw_q, ↓sw_m1, ↓sw_z, ↓then_n, xw_some, mk1_eq, rw_put, n_mk, sl_put, reduceCtorEq, true_and, or_true, p4]
      rw [how.src.live]
      exact hK _ _ _ (hal.step (by omega) fun j hj => by rw [hk3 j (by omega) (fun h4 => by have := hr5 j h4; omega), hal2.same j (by omega)]) how (Rng.ms (by omega) (by omega))
  · simp only [eq_self, rw_put, rw_other, hp_put, nx_put, ne_eq, reduceCtorEq, not_false_eq_true, true_and, Pa.l.injEq, a0, a1]
    exact ⟨0, [], [], _, _, rfl, by omega, rfl, rfl, rfl, .nil, .nil, Rng.nil _ _, Rng.nil _ _, fun id hid => (by cases hid), by rw [e1, e2]; exact Al.refl _ _, by simp, rfl⟩
end Go.DD

/- Chapter 03, the reference: Pack. Conditions: those that each theorem states. -/
namespace Go.DD
open Go Go.Proofs

/-- What Pack returns. -/
def packC (c : Int) (b : List Nat) : List Nat := if c < 1 ∨ 3 < c then [] else if c = 1 then b else if c = 2 then pack itemR b else pack itemL b
def packE (c : Int) : Int := if c < 1 ∨ 3 < c then 2 else 0
theorem b_gtrb (a : Nat) : binD .gtr (.v (.int .i64 (a : Int))) (.v (.int .i64 1048576)) = some (.v (.bool (decide (1048576 < a)))) := b_gtrN .i64 a 1048576
theorem kn_rpack (k : Nat) (hp : Tr DObj) (nx : Nat) (K : DV → Tr DObj → Nat → Prop) (d : DV) (c : Int) (b : List Nat) (hs : Src hp d b) (ho : Old nx d) (hl : b.length < 400000)
    (hK : ∀ hp' nx' d', Al hp nx hp' nx' → Own hp' d' (packC c b) → Rng nx nx' d' → K (.tup [d', iv (packE c)]) hp' nx') : KW (kN (k + 4)) (.fn 11) [iv c, d] hp nx K := by
  refine kn_2 (relW_n (by decide)) t11 (Nat.le_of_ble_eq_true rfl) fun es e1 e2 he => ?_
  have a0 : rawE es (.t .o) = iv c := he 0 _ rfl
  have a1 : rawE es (.t (.l .o)) = d := he 1 _ rfl
  have hs1 : Src es.hp d b := e1 ▸ hs
  unfold r11
  unfold packC packE at hK
  by_cases h1 : c < 1
  · rw [if_pos (.inl h1), if_pos (.inl h1)] at hK
    simp only [eq_self, ↓ew_s, ↓ew_n, ↓ew_e, ↓ew_c', ↓sw_q, ↓sw_m1, ↓sw_z, ↓sw_x, ↓sw_g', gw_tf, ↓then_n, ↓then_r, xw_some, cw_t, mk1_eq, rw_put, rw_other, n_c, hp_put, nx_put, x_bin, x_pick, live_v, pick_b, ne_eq, reduceCtorEq, not_false_eq_true, true_and, or_true, if_true, decide_true, Pa.r.injEq, p4, p5, a0, iv, b_lss, h1]
    rw [e1, e2]
    exact hK _ _ _ (Al.refl _ _) .nil (Rng.nil _ _)
  · by_cases h2 : 3 < c
    · rw [if_pos (.inr h2), if_pos (.inr h2)] at hK
      simp only [eq_self, ↓ew_s, ↓ew_n, ↓ew_e, ↓ew_c', ↓sw_q, ↓sw_m1, ↓sw_z, ↓sw_x, ↓sw_g', gw_ff, ↓then_n, ↓then_r, xw_some, cw_t, mk1_eq, rw_put, rw_other, n_c, hp_put, nx_put, x_bin, x_pick, live_v, pick_b, ne_eq, reduceCtorEq, not_false_eq_true, Bool.false_eq_true, true_and, or_true, if_false, gt_iff_lt, decide_true, decide_false, Pa.r.injEq, p4, p5, a0, iv, b_lss, b_gtr, h1, h2]
      rw [e1, e2]
      exact hK _ _ _ (Al.refl _ _) .nil (Rng.nil _ _)
    · have hc : ¬ (c < 1 ∨ 3 < c) := by omega
      rw [if_neg hc, if_neg hc] at hK
      have h3 : ¬ (1048576 : Int) < (b.length : Int) := by omega
      by_cases h4 : c = 1
      · rw [if_pos h4] at hK
        subst h4
        simp only [↓ew_s, ↓ew_n, ↓ew_e, ↓ew_c', ↓sw_q, ↓sw_m1, ↓sw_z, ↓sw_x, ↓sw_g', gw_ff, ↓then_n, xw_some, cw_t, cw_f, mk1_eq, x_len, rw_put, rw_other, n_c, hp_put, x_bin, x_pick, pick_b, ne_eq, reduceCtorEq, not_false_eq_true, Bool.false_eq_true, if_false, gt_iff_lt, decide_false, Pa.l.injEq, Pa.r.injEq, ↓z_bsl, a0, a1, iv, b_lss, b_gtr, b_eql, h1, h2, h3, hs1.len, beq_self_eq_true]
        refine sw_bsl (l := []) rfl rfl rfl fun hp1 hg1 hk1 => ?_
        simp only [hp_put, nx_put, ne_eq] at hg1 hk1
        have m1 : Src hp1 d b := hs1.keep fun id hid => hk1 id (by have := ho id hid; omega)
        have m0 : Own hp1 (.ms es.nx 0 0 1) [] := .ms es.nx [] hg1
        simp only [↓sw_q, ↓sw_m1, xw_some, mk1_eq, rw_other, n_mk, nx_put, sl_put, ne_eq, reduceCtorEq, not_false_eq_true, Pa.l.injEq, ↓z_app, a1]
        refine sw_app (d := .ms es.nx 0 0 1) (d2 := d) (l := []) (m := b) (by simp only [rw_put, rw_other, n_mk, ne_eq, reduceCtorEq, not_false_eq_true, p17]; rfl) m0 (by simp only [rw_put, n_mk, p18]) m1 (by simp only [List.length_nil]; omega) (by decide) fun hp2 hg2 hk2 => ?_
        simp only [ne_eq, List.nil_append] at hg2 hk2
        have how : Own hp2 (.ms (es.nx + 1) 0 b.length 1) b := .ms _ _ hg2
        simp only [eq_self, ↓ew_e, ↓sw_q, ↓sw_m1, ↓sw_z, ↓then_n, ↓then_r, xw_some, mk1_eq, rw_put, rw_other, n_c, n_mk, sl_put, live_v, ne_eq, reduceCtorEq, not_false_eq_true, true_and, or_true, p4, p5, List.nil_append, how.src.live]
        refine hK _ _ _ ⟨by omega, fun j hj => ?_⟩ how (Rng.ms (by omega) (by omega))
        rw [hk2 j (by omega) (by simp only [DV.refs, List.mem_singleton]; omega), hk1 j (by omega), e1]
      · rw [if_neg h4] at hK
        have h5 : (c == 1) = false := by simpa using h4
        by_cases h6 : c = 2
        · rw [if_pos h6] at hK
          subst h6
          simp only [↓ew_s, ↓ew_n, ↓ew_e, ↓ew_c', ↓sw_q, ↓sw_m1, ↓sw_z, ↓sw_x, ↓sw_g', gw_ff, ↓then_n, xw_some, cw_f, mk1_eq, x_len, List.map_cons, List.map_nil, rw_put, rw_other, n_c, hp_put, nx_put, x_bin, x_pick, pick_b, ne_eq, reduceCtorEq, not_false_eq_true, Bool.false_eq_true, if_false, gt_iff_lt, decide_false, Pa.l.injEq, Pa.r.injEq, ↓z_call, a0, a1, iv, b_lss, b_gtr, b_eql, h1, h2, h3, h5, hs1.len]
          refine kws (kn_packedR _ _ _ _ d b hs1 (e2 ▸ ho) hl fun hp1 nx1 d1 hal1 how1 hr1 => ?_)
          rw [e1, e2] at hal1
          rw [e2] at hr1
          simp only [eq_self, ↓ew_e, ↓sw_q, ↓sw_m1, ↓sw_z, ↓then_n, xw_some, mk1_eq, rw_put, rw_other, n_c, n_mk, sl_put, live_v, ne_eq, reduceCtorEq, not_false_eq_true, true_and, or_true, p4, p5, how1.src.live]
          exact hK _ _ _ hal1 how1 hr1
        · obtain rfl : c = 3 := by omega
          rw [if_neg (by decide)] at hK
          simp only [↓ew_s, ↓ew_n, ↓ew_e, ↓ew_c', ↓sw_q, ↓sw_m1, ↓sw_z, ↓sw_x, ↓sw_g', gw_ff, ↓then_n, xw_some, cw_f, mk1_eq, x_len, List.map_cons, List.map_nil, rw_put, rw_other, n_c, hp_put, nx_put, x_bin, x_pick, pick_b, ne_eq, reduceCtorEq, not_false_eq_true, Bool.false_eq_true, if_false, gt_iff_lt, decide_false, Pa.l.injEq, Pa.r.injEq, ↓z_call, a0, a1, iv, b_lss, b_gtr, b_eql, h1, h2, h3, h5, hs1.len]
          refine kws (kn_packedL _ _ _ _ d b hs1 (e2 ▸ ho) hl fun hp1 nx1 d1 hal1 how1 hr1 => ?_)
          rw [e1, e2] at hal1
          rw [e2] at hr1
          simp only [eq_self, ↓ew_e, ↓sw_q, ↓sw_m1, ↓sw_z, ↓then_n, xw_some, mk1_eq, rw_put, rw_other, n_c, n_mk, sl_put, live_v, ne_eq, reduceCtorEq, not_false_eq_true, true_and, or_true, p4, p5, how1.src.live]
          exact hK _ _ _ hal1 how1 hr1
end Go.DD

/- Chapter 03: the round of the loop that packs items. Conditions: those that each theorem states. -/
namespace Go.DD
open Go Go.Proofs

def hdI (s : PS) : Int := match s.head with
  | none => -1
  | some h => (h : Int)
/-- The packing loop's own objects: its loop, what is packed, where its last item of literals begins. -/
structure PJ (sl : Tr DV) (L bo bh : Nat) (s : PS) (d : DV) (hp : Tr DObj) (nx : Nat) : Prop where
  loop : hp.get L = some (.loop ⟨46, .t sl, [7], da36_1, db36_1, .ready, none⟩)
  gbo : hp.get bo = some (.row 22 [d])
  gbh : hp.get bh = some (.row 3 [iv (hdI s)])
  own : Own hp d s.out
  lt : L < nx ∧ bo < nx ∧ bh < nx ∧ ∀ id ∈ d.refs, id < nx
  ne : L ≠ bo ∧ L ≠ bh ∧ bo ≠ bh ∧ ∀ id ∈ d.refs, id ≠ L ∧ id ≠ bo ∧ id ≠ bh
  s3 : rawE ⟨sl, hp, nx⟩ (.t (.l (.l .o))) = .pt bo 0
  s4 : rawE ⟨sl, hp, nx⟩ (.t (.r (.l .o))) = .pt bh 0
  ok : ∀ h, s.head = some h → h < s.out.length
def Mine (L bo bh : Nat) (d : DV) (j : Nat) : Prop := j = L ∨ j = bo ∨ j = bh ∨ j ∈ d.refs
theorem rw_sl (sl : Tr DV) (hp hp' : Tr DObj) (nx nx' : Nat) (p : Pa) : rawE ⟨sl, hp, nx⟩ (.t p) = rawE ⟨sl, hp', nx'⟩ (.t p) := rfl

theorem Own.at {hp : Tr DObj} {d : DV} {l : List Nat} (h : Own hp d l) {i : Nat} (hi : i < l.length) : ∃ id, d = .ms id 0 l.length 1 ∧ hp.get id = some (.row 5 (l.map ub)) := by
  cases h with
  | nil => simp at hi
  | ms id l h => exact ⟨id, rfl, h⟩
theorem kn_round (k : Nat) (hp : Tr DObj) (nx : Nat) (K : DV → Tr DObj → Nat → Prop) (sl : Tr DV) (L bo bh : Nat) (s : PS) (d dx : DV) (x : List Nat) (hJ : PJ sl L bo bh s d hp nx) (hx : Src hp dx x) (hxm : ∀ id ∈ dx.refs, ¬ Mine L bo bh d id ∧ id < nx) (hx1 : 1 ≤ x.length) (hlen : s.out.length + x.length ≤ 2000000000)
    (hK : ∀ hp' nx' d', nx ≤ nx' → PJ sl L bo bh (s.step x) d' hp' nx' → (∀ j, j < nx → ¬ Mine L bo bh d j → hp'.get j = hp.get j) → (∀ j, Mine L bo bh d' j → Mine L bo bh d j ∨ nx ≤ j) → K (.v (.bool true)) hp' nx') :
    KW (kN (k + 1)) (.yl L) [dx] hp nx K := by
  obtain ⟨j1, j2, j3, j4, ⟨l1, l2, l3, l4⟩, ⟨n1, n2, n3, n4⟩, s3, s4, jok⟩ := hJ
  refine kn_yl j1 rfl rfl rfl rfl rfl ?_
  rw [show evalE 1000000 46 true da36_1 = ca36_1 from ta36_1]
  unfold ca36_1
  have hz : ∀ hp nx, rawE ⟨zipT [7] [dx] sl, hp, nx⟩ (.t (.l (.l (.l .o)))) = dx := fun _ _ => rw_put ⟨sl, hp, nx⟩ _ dx
  have hz3 : ∀ hp nx, rawE ⟨zipT [7] [dx] sl, hp, nx⟩ (.t (.l (.l .o))) = .pt bo 0 := fun _ _ => (rw_other (q := (.l (.l (.l .o)))) ⟨sl, hp, nx⟩ dx (by simp)).trans s3
  have hz4 : ∀ hp nx, rawE ⟨zipT [7] [dx] sl, hp, nx⟩ (.t (.r (.l .o))) = .pt bh 0 := fun _ _ => (rw_other (q := (.l (.l (.l .o)))) ⟨sl, hp, nx⟩ dx (by simp)).trans s4
  generalize zipT [7] [dx] sl = z at hz hz3 hz4
  simp only [eq_self, ↓ew_n, ↓sw_q, ↓sw_m1, ↓sw_z, xw_some, mk1_eq, hp_put, nx_put, true_and]
  refine ⟨_, j1, rfl, ?_⟩
  rw [show evalE 1000000 46 true db36_1 = cb36_1 from tb36_1]
  unfold cb36_1
  obtain ⟨lp, hlp⟩ : ∃ lp : DLoop, lp = ⟨46, .t sl, [7], da36_1, db36_1, .busy, none⟩ := ⟨_, rfl⟩
  have hb1 : ∀ j, j ≠ L → (hp.set L (some (.loop lp))).get j = hp.get j := fun j hj => by rw [Tr.get_set, if_neg (Ne.symm hj)]
  have hbL : (hp.set L (some (.loop lp))).get L = some (.loop lp) := by rw [Tr.get_set, if_pos rfl]
  have fin : ∀ hp2 nx2 d', nx ≤ nx2 → hp2.get L = some (.loop lp) → hp2.get bo = some (.row 22 [d']) → hp2.get bh = some (.row 3 [iv (hdI (s.step x))]) → Own hp2 d' (s.step x).out → (∀ j, j < nx → ¬ Mine L bo bh d j → hp2.get j = hp.get j) → (∀ id ∈ d'.refs, id < nx2 ∧ (id ∈ d.refs ∨ nx ≤ id)) → (∀ h, (s.step x).head = some h → h < (s.step x).out.length) →
      K (.v (.bool true)) (hp2.set L (some (.loop { lp with st := .ready, pend := none }))) nx2 := by
    intro hp2 nx2 d' q1 q2 q3 q4 q5 q6 q7 q8
    have g1 : ∀ j, j ≠ L → (hp2.set L (some (.loop { lp with st := .ready, pend := none }))).get j = hp2.get j := fun j hj => by rw [Tr.get_set, if_neg (Ne.symm hj)]
    have hne : ∀ id ∈ d'.refs, id ≠ L ∧ id ≠ bo ∧ id ≠ bh := fun id hid => by
      obtain ⟨_, h | h⟩ := q7 id hid
      · exact n4 id h
      · omega
    refine hK _ _ d' q1 ⟨by rw [Tr.get_set, if_pos rfl, hlp], by rw [g1 bo (Ne.symm n1)]; exact q3, by rw [g1 bh (Ne.symm n2)]; exact q4, q5.keep fun id hid => g1 id (hne id hid).1, ⟨by omega, by omega, by omega, fun id hid => (q7 id hid).1⟩, ⟨n1, n2, n3, hne⟩, s3, s4, q8⟩ (fun j hj hm => by rw [g1 j (fun e => hm (.inl e))]; exact q6 j hj hm) ?_
    rintro j (h | h | h | h)
    · exact .inl (.inl h)
    · exact .inl (.inr (.inl h))
    · exact .inl (.inr (.inr (.inl h)))
    · exact (q7 j h).2.elim (fun h => .inl (.inr (.inr (.inr h)))) .inr
  rw [← hlp]
  generalize hp.set L (some (.loop lp)) = hp1 at hb1 hbL ⊢
  have hx1' : Src hp1 dx x := hx.keep fun id hid => hb1 id fun e => (hxm id hid).1 (.inl e)
  have o1 : Own hp1 d s.out := j4.keep fun id hid => hb1 id (n4 id hid).1
  have g2 : hp1.get bo = some (.row 22 [d]) := by rw [hb1 bo (Ne.symm n1)]; exact j2
  have g3 : hp1.get bh = some (.row 3 [iv (hdI s)]) := by rw [hb1 bh (Ne.symm n2)]; exact j3
  clear hlp
  by_cases hA : 1 < x.length
  · have hA' : (1 : Int) < (x.length : Int) := by omega
    have e1 : s.step x = ⟨s.out ++ x, none⟩ := by unfold PS.step; rw [if_pos hA]
    rw [e1] at fin
    simp only [↓ew_s, ↓ew_n, ↓ew_c', ↓ew_b, ↓sw_q, ↓sw_m1, ↓sw_z, ↓sw_x, ↓then_n, xw_some, cw_t, mk1_eq, x_len, x_ld, rw_put, rw_other, n_c, n_mk, sl_put, x_bin, ne_eq, reduceCtorEq, not_false_eq_true, gt_iff_lt, decide_true, Pa.l.injEq, Pa.r.injEq, ↓z_app, hz, hz3, hx1'.len, b_gtr, hA', ld_box g2]
    refine sw_app (d := d) (d2 := dx) (l := s.out) (m := x) (by simp only [rw_put, rw_other, n_mk, ne_eq, reduceCtorEq, not_false_eq_true, p20]) o1 (by simp only [rw_put, n_mk, p21]) hx1' (by omega) (by decide) fun hp2 hg2 hk2 => ?_
    simp only [ne_eq] at hg2 hk2
    have f2 : hp2.get bo = some (.row 22 [d]) := by rw [hk2 bo (by omega) (fun h => (n4 bo h).2.1 rfl)]; exact g2
    have f3 : hp2.get bh = some (.row 3 [iv (hdI s)]) := by rw [hk2 bh (by omega) (fun h => (n4 bh h).2.2 rfl)]; exact g3
    simp only [↓sw_q, sl_put, ↓z_st]
    refine sw_sto (id := bo) (off := 0) (by simp only [rw_other, n_mk, ne_eq, reduceCtorEq, not_false_eq_true, Pa.l.injEq, hz3]) f2 (by simp only [evt, rw_put, n_mk]; exact live_ms hg2) (ok_ms _ _ _ _) (by simp) fun hp3 hg3 hk3 => ?_
    simp only [ne_eq] at hg3 hk3
    simp only [put_n, ↓sw_q, ↓z_st]
    refine sw_sto (id := bh) (off := 0) (by simp only [rw_other, n_mk, ne_eq, reduceCtorEq, not_false_eq_true, Pa.l.injEq, Pa.r.injEq, hz4]) (by rw [hk3 bh (Ne.symm n3)]; exact f3) rfl (ok_i _ _) (by simp) fun hp4 hg4 hk4 => ?_
    simp only [ne_eq] at hg4 hk4
    simp only [put_n, ↓sw_z, ↓blk_n]
    have k4 : ∀ j, j ≠ bo → j ≠ bh → hp4.get j = hp2.get j := fun j h1 h2 => by rw [hk4 j h2, hk3 j h1]
    refine ⟨lp, by rw [k4 L n1 n2, hk2 L (by omega) (fun h => (n4 L h).1 rfl)]; exact hbL, fin _ _ (.ms nx 0 (s.out ++ x).length 1) (by omega) (by rw [k4 L n1 n2, hk2 L (by omega) (fun h => (n4 L h).1 rfl)]; exact hbL) (by rw [hk4 bo n3]; exact hg3) hg4 (.ms _ _ (by rw [k4 nx (by omega) (by omega)]; exact hg2)) (fun j hj hm => ?_) (fun id hid => ?_) (fun h hh => by cases hh)⟩
    · rw [k4 j (fun e => hm (.inr (.inl e))) (fun e => hm (.inr (.inr (.inl e)))), hk2 j (by omega) (fun h => hm (.inr (.inr (.inr h)))), hb1 j (fun e => hm (.inl e))]
    · simp only [DV.refs, List.mem_singleton] at hid
      omega
  · obtain ⟨a, rfl⟩ : ∃ a, x = [a] := by
      match x, hx1, hA with
      | [a], _, _ => exact ⟨a, rfl⟩
      | _ :: _ :: _, _, h => simp at h
    have hA' : ¬ (1 : Int) < ([a].length : Int) := by simp
    have la := hx1'.ia (show 0 < [a].length by simp)
    have ld := hx1'.ld (show 0 < [a].length by simp)
    have n0 : ∀ {n m : Nat}, Old n dx → n = n → True := fun _ _ => trivial
    have od : Old nx d := l4
    have odx : Old nx dx := fun id hid => (hxm id hid).2
    have la0 : iaD hp1 1 dx (.v (.int .i64 0)) = some (adr dx 0) := la
    have ld0 : ldD hp1 none (adr dx 0) = some (ub a) := ld
    by_cases hB : ∃ h, s.head = some h ∧ s.out.getD h 0 < 127
    · obtain ⟨h, hh, hv⟩ := hB
      have hlt := jok h hh
      have e1 : s.step [a] = ⟨s.out.set h (s.out.getD h 0 + 1) ++ [a], some h⟩ := by unfold PS.step; rw [if_neg (by simp), hh]; simp only; rw [if_pos hv]; rfl
      rw [e1] at fin
      have hI : hdI s = (h : Int) := by unfold hdI; rw [hh]
      have hI0 : (0 : Int) ≤ (h : Int) := by omega
      have hv' : (((s.out.getD h 0 : Nat) : Int) < 127) := by omega
      have hw : binD .add (.v (.int .u8 ((s.out.getD h 0 : Nat) : Int))) (.v (.int .u8 1)) = some (ub (s.out.getD h 0 + 1)) := by
        rw [b_add, IntWalk.u8_in _ (by omega)]; rfl
      rw [hI] at g3
      obtain ⟨ow, hdd, how⟩ := o1.at hlt
      have hadr : adr d h = .pt ow (0 + h * 1) := by rw [hdd]; rfl
      have howl := l4 ow (by rw [hdd]; simp [DV.refs])
      obtain ⟨w1, w2, w3⟩ := n4 ow (by rw [hdd]; simp [DV.refs])
      have wx : ∀ id ∈ dx.refs, id ≠ ow := fun id hid e => (hxm id hid).1 (.inr (.inr (.inr (by rw [e, hdd]; simp [DV.refs]))))
      have ia1 := o1.src.ia hlt
      have ld1 := o1.src.ld hlt
      simp only [eq_self, ↓ew_s, ↓ew_n, ↓ew_c', ↓ew_b, ↓sw_q, ↓sw_m1, ↓sw_z, ↓sw_x, ↓sw_g', gw_tt, ↓then_n, xw_some, cw_t, cw_f, mk1_eq, x_len, x_ia, x_ld, rw_put, rw_other, n_c, n_mk, sl_put, x_bin, x_pick, pick_b, ne_eq, reduceCtorEq, not_false_eq_true, if_true, ge_iff_le, gt_iff_lt, decide_true, decide_false, Pa.l.injEq, Pa.r.injEq, ↓z_st, hz, hz3, hz4, hx1'.len, b_gtr, b_geq, b_lss, hA', ld_box g2, ld_box g3, iv, hI0, hv', ia1, ld1, ub, hw]
      refine sw_sto (id := ow) (off := 0 + h * 1) (v := ub (s.out.getD h 0 + 1)) (by simp only [rw_put, n_mk, hadr]) how (by simp only [evt, rw_put, rw_other, n_mk, ne_eq, reduceCtorEq, not_false_eq_true]; exact live_ub _ _) (ok_i _ _) (by rw [List.length_map]; omega) fun hp2 hg2 hk2 => ?_
      have hset : (s.out.map ub).set (0 + h * 1) (ub (s.out.getD h 0 + 1)) = (s.out.set h (s.out.getD h 0 + 1)).map ub := by rw [List.map_set]; congr 1; omega
      simp only [ne_eq, hset] at hg2 hk2
      have m0 : Own hp2 d (s.out.set h (s.out.getD h 0 + 1)) := by rw [hdd, show s.out.length = (s.out.set h (s.out.getD h 0 + 1)).length by simp]; exact .ms ow _ hg2
      have m2 : hp2.get bo = some (.row 22 [d]) := by rw [hk2 bo (Ne.symm w2)]; exact g2
      have mx : Src hp2 dx [a] := hx1'.keep fun id hid => hk2 id (wx id hid)
      have la2 : iaD hp2 1 dx (.v (.int .i64 0)) = some (adr dx 0) := mx.ia (show 0 < [a].length by simp)
      have ld2 : ldD hp2 none (adr dx 0) = some (ub a) := mx.ld (show 0 < [a].length by simp)
      simp only [put_n, eq_self, ↓ew_n, ↓sw_z, ↓then_n, xw_some, x_ia, x_ld, rw_put, rw_other, n_c, n_mk, sl_put, ne_eq, reduceCtorEq, not_false_eq_true, and_true, true_and, and_self, Pa.l.injEq, Pa.r.injEq, ↓sw_reg, ↓tw_q, ↓tw_chk, ↓tw_read, ↓z_lay, ↓chk_nil, ↓chk_cons, ro_v, ro_pt, look_f, ↓refsL_cons, ↓refs_nil, List.append_nil, hz3, ld_box m2, la2, ld2, okRef_old m2 l2, mx.ro odx, mx.roa odx, ub]
      refine tws_bsl (l := [a]) rfl rfl (by simp only [List.map_cons, List.map_nil, n_ev, rw_put, n_mk, p42]; exact fill1 _ _) fun hp3 hg3 hk3 => ?_
      simp only [ne_eq] at hg3 hk3
      have hsx : Own hp3 (.ms (nx + 4) 0 1 1) [a] := .ms (nx + 4) [a] hg3
      have m3 : Own hp3 d (s.out.set h (s.out.getD h 0 + 1)) := m0.keep fun id hid => hk3 id (by have := l4 id hid; omega)
      have m4 : hp3.get bo = some (.row 22 [d]) := by rw [hk3 bo (by omega)]; exact m2
      simp only [put_n, rw_put, rw_other, n_mk, sl_put, ne_eq, reduceCtorEq, not_false_eq_true, and_true, Pa.l.injEq, ↓tw_q, ↓tw_chk, ↓z_main, ↓chk_nil, ↓chk_cons, ro_ms, ↓refsL_cons, ↓refs_nil, look_nil, refs_v, List.append_nil, List.length_singleton]
      refine ⟨⟨m3.src.ro od, okRef_new hg3 rfl⟩, ?_⟩
      refine tws_main rfl ?_
      refine sw_app (d := d) (d2 := .ms (nx + 4) 0 1 1) (m := [a]) (by simp only [rw_put, rw_other, n_mk, ne_eq, reduceCtorEq, not_false_eq_true, Pa.l.injEq, p39]) m3 (by simp only [rw_put, n_mk, p43]) hsx.src (by simp at hlen ⊢; omega) (by decide) fun hp4 hg4 hk4 => ?_
      simp only [ne_eq] at hg4 hk4
      have m5 : hp4.get bo = some (.row 22 [d]) := by rw [hk4 bo (by omega) (fun h => (n4 bo h).2.1 rfl)]; exact m4
      simp only [put_n, rw_put, rw_other, n_mk, sl_put, ne_eq, reduceCtorEq, not_false_eq_true, and_true, Pa.l.injEq, ↓tw_q, ↓tw_chk, ↓z_main, ↓chk_nil, ↓chk_cons, ro_ms, ro_pt, hz3]
      refine ⟨by omega, ⟨okRef_old m5 l2, (okRef_iff _ _).2 ⟨by rw [hg4]; rfl, .inr (.inl (by omega))⟩⟩, ?_⟩
      refine tws_main rfl ?_
      refine sw_sto (id := bo) (off := 0) (by simp only [rw_other, n_mk, ne_eq, reduceCtorEq, not_false_eq_true, Pa.l.injEq, hz3]) m5 (by simp only [evt, rw_put, n_mk]; exact live_ms hg4) (ok_ms _ _ _ _) (by simp) fun hp5 hg5 hk5 => ?_
      simp only [ne_eq] at hg5 hk5
      simp only [put_n, eq_self, ↓blk_n, true_and, ↓tw_z, okl_nil]
      have k5 : ∀ j, j ≠ bo → j ≠ ow → j < nx → hp5.get j = hp1.get j := fun j h1 h2 h3 => by
        rw [hk5 j h1, hk4 j (by omega) (by rw [hdd]; simpa [DV.refs] using h2), hk3 j (by omega), hk2 j h2]
      refine ⟨Nat.le_refl _, lp, by rw [k5 L n1 (Ne.symm w1) l1]; exact hbL, fin _ _ _ (by omega) (by rw [k5 L n1 (Ne.symm w1) l1]; exact hbL) hg5 (by rw [k5 bh (Ne.symm n3) (Ne.symm w3) l3]; exact g3) (.ms _ _ (by rw [hk5 _ (by omega)]; exact hg4)) (fun j hj hm => ?_) (fun id hid => ?_) (fun h' hh => by cases hh; simp; omega)⟩
      · rw [k5 j (fun e => hm (.inr (.inl e))) (fun e => hm (.inr (.inr (.inr (by rw [e, hdd]; simp [DV.refs]))))) hj, hb1 j (fun e => hm (.inl e))]
      · simp only [DV.refs, List.mem_singleton] at hid
        omega
    · have e1 : s.step [a] = ⟨s.out ++ [0, a], some s.out.length⟩ := by
        unfold PS.step
        rw [if_neg (by simp)]
        cases hh : s.head with
        | none => rfl
        | some h => simp only; rw [if_neg (fun hv => hB ⟨h, hh, hv⟩)]; rfl
      rw [e1] at fin
      cases hh : s.head with
      | none =>
      have hI : hdI s = -1 := by unfold hdI; rw [hh]
      rw [hI] at g3
      have hI0 : ¬ (0 : Int) ≤ -1 := by omega
      simp only [↓ew_s, ↓ew_n, ↓ew_c', ↓ew_b, ↓sw_q, ↓sw_m1, ↓sw_z, ↓sw_x, ↓sw_g', gw_ft, ↓then_n, xw_some, cw_f, mk1_eq, x_len, x_ia, x_ld, rw_put, rw_other, n_c, n_mk, sl_put, x_bin, x_pick, pick_b, ne_eq, reduceCtorEq, not_false_eq_true, Bool.false_eq_true, if_false, ge_iff_le, gt_iff_lt, decide_false, Pa.l.injEq, Pa.r.injEq, ↓z_st, hz, hz3, hz4, hx1'.len, b_gtr, b_geq, hA', ld_box g2, ld_box g3, iv, hI0, o1.src.len]
      refine sw_sto (id := bh) (off := 0) (by simp only [rw_other, n_mk, ne_eq, reduceCtorEq, not_false_eq_true, Pa.l.injEq, Pa.r.injEq, hz4]) g3 (by simp only [evt, rw_put, n_mk]; exact live_v _ _) (ok_i _ _) (by simp) fun hp2 hg2 hk2 => ?_
      simp only [ne_eq] at hg2 hk2
      have m0 : Own hp2 d s.out := o1.keep fun id hid => hk2 id (n4 id hid).2.2
      have m2 : hp2.get bo = some (.row 22 [d]) := by rw [hk2 bo n3]; exact g2
      have mx : Src hp2 dx [a] := hx1'.keep fun id hid => hk2 id (fun e => (hxm id hid).1 (.inr (.inr (.inl e))))
      have la2 : iaD hp2 1 dx (.v (.int .i64 0)) = some (adr dx 0) := mx.ia (show 0 < [a].length by simp)
      have ld2 : ldD hp2 none (adr dx 0) = some (ub a) := mx.ld (show 0 < [a].length by simp)
      simp only [put_n, eq_self, ↓ew_n, ↓sw_z, ↓then_n, xw_some, x_ia, x_ld, rw_put, rw_other, n_c, n_mk, sl_put, ne_eq, reduceCtorEq, not_false_eq_true, and_true, true_and, and_self, Pa.l.injEq, Pa.r.injEq, ↓sw_reg, ↓tw_q, ↓tw_chk, ↓tw_read, ↓z_lay, ↓chk_nil, ↓chk_cons, ro_v, ro_pt, look_f, ↓refsL_cons, ↓refs_nil, List.append_nil, hz3, ld_box m2, la2, ld2, okRef_old m2 l2, mx.ro odx, mx.roa odx, ub]
      refine tws_bsl (l := [0, a]) rfl rfl (by simp only [List.map_cons, List.map_nil, n_ev, n_evc, n_ofi, rw_put, n_mk, p13]; exact fill2 _ 0 _) fun hp3 hg3 hk3 => ?_
      simp only [ne_eq] at hg3 hk3
      have hsx : Own hp3 (.ms (nx + 4) 0 2 1) [0, a] := .ms (nx + 4) [0, a] hg3
      have m3 : Own hp3 d s.out := m0.keep fun id hid => hk3 id (by have := l4 id hid; omega)
      have m4 : hp3.get bo = some (.row 22 [d]) := by rw [hk3 bo (by omega)]; exact m2
      simp only [put_n, rw_put, rw_other, n_mk, sl_put, ne_eq, reduceCtorEq, not_false_eq_true, and_true, Pa.r.injEq, ↓tw_q, ↓tw_chk, ↓z_main, ↓chk_nil, ↓chk_cons, ro_ms, ↓refsL_cons, ↓refs_nil, look_nil, refs_v, List.append_nil, List.length_cons, List.length_nil]
      refine ⟨⟨m3.src.ro od, okRef_new hg3 rfl⟩, ?_⟩
      refine tws_main rfl ?_
      refine sw_app (d := d) (d2 := .ms (nx + 4) 0 2 1) (m := [0, a]) (by simp only [rw_put, rw_other, n_mk, ne_eq, reduceCtorEq, not_false_eq_true, Pa.r.injEq, p10]) m3 (by simp only [rw_put, n_mk, p14]) hsx.src (by simp at hlen ⊢; omega) (by decide) fun hp4 hg4 hk4 => ?_
      simp only [ne_eq] at hg4 hk4
      have m5 : hp4.get bo = some (.row 22 [d]) := by rw [hk4 bo (by omega) (fun h => (n4 bo h).2.1 rfl)]; exact m4
      simp only [put_n, rw_put, rw_other, n_mk, sl_put, ne_eq, reduceCtorEq, not_false_eq_true, and_true, Pa.l.injEq, ↓tw_q, ↓tw_chk, ↓z_main, ↓chk_nil, ↓chk_cons, ro_ms, ro_pt, hz3]
      refine ⟨by omega, ⟨okRef_old m5 l2, (okRef_iff _ _).2 ⟨by rw [hg4]; rfl, .inr (.inl (by omega))⟩⟩, ?_⟩
      refine tws_main rfl ?_
      refine sw_sto (id := bo) (off := 0) (by simp only [rw_other, n_mk, ne_eq, reduceCtorEq, not_false_eq_true, Pa.l.injEq, hz3]) m5 (by simp only [evt, rw_put, n_mk]; exact live_ms hg4) (ok_ms _ _ _ _) (by simp) fun hp5 hg5 hk5 => ?_
      simp only [ne_eq] at hg5 hk5
      simp only [put_n, eq_self, ↓blk_n, true_and, ↓tw_z, okl_nil]
      have k5 : ∀ j, j ≠ bo → j ∉ d.refs → j < nx → hp5.get j = hp2.get j := fun j h1 h2 h3 => by
        rw [hk5 j h1, hk4 j (by omega) h2, hk3 j (by omega)]
      refine ⟨Nat.le_refl _, lp, by rw [k5 L n1 (fun h => (n4 L h).1 rfl) l1, hk2 L n2]; exact hbL, fin _ _ _ (by omega) (by rw [k5 L n1 (fun h => (n4 L h).1 rfl) l1, hk2 L n2]; exact hbL) hg5 (by rw [k5 bh (Ne.symm n3) (fun h => (n4 bh h).2.2 rfl) l3]; exact hg2) (.ms _ _ (by rw [hk5 _ (by omega)]; exact hg4)) (fun j hj hm => ?_) (fun id hid => ?_) (fun h' hh => by cases hh; simp)⟩
      · rw [k5 j (fun e => hm (.inr (.inl e))) (fun e => hm (.inr (.inr (.inr e)))) hj, hk2 j (fun e => hm (.inr (.inr (.inl e)))), hb1 j (fun e => hm (.inl e))]
      · simp only [DV.refs, List.mem_singleton] at hid
        omega
      | some h =>
      have hlt := jok h hh
      have hI : hdI s = (h : Int) := by unfold hdI; rw [hh]
      have hI0 : (0 : Int) ≤ (h : Int) := by omega
      have hv : ¬ s.out.getD h 0 < 127 := fun hv => hB ⟨h, hh, hv⟩
      have hv' : ¬ (((s.out.getD h 0 : Nat) : Int) < 127) := by omega
      rw [hI] at g3
      simp only [eq_self, ↓ew_s, ↓ew_n, ↓ew_c', ↓ew_b, ↓sw_q, ↓sw_m1, ↓sw_z, ↓sw_x, ↓sw_g', gw_tt, ↓then_n, xw_some, cw_f, mk1_eq, x_len, x_ia, x_ld, rw_put, rw_other, n_c, n_mk, sl_put, x_bin, x_pick, pick_b, ne_eq, reduceCtorEq, not_false_eq_true, if_true, ge_iff_le, gt_iff_lt, decide_true, decide_false, Pa.l.injEq, Pa.r.injEq, ↓z_st, hz, hz3, hz4, hx1'.len, b_gtr, b_geq, b_lss, hA', ld_box g2, ld_box g3, iv, hI0, hv', o1.src.ia hlt, o1.src.ld hlt, o1.src.len, ub]
      refine sw_sto (id := bh) (off := 0) (by simp only [rw_other, n_mk, ne_eq, reduceCtorEq, not_false_eq_true, Pa.l.injEq, Pa.r.injEq, hz4]) g3 (by simp only [evt, rw_put, n_mk]; exact live_v _ _) (ok_i _ _) (by simp) fun hp2 hg2 hk2 => ?_
      simp only [ne_eq] at hg2 hk2
      have m0 : Own hp2 d s.out := o1.keep fun id hid => hk2 id (n4 id hid).2.2
      have m2 : hp2.get bo = some (.row 22 [d]) := by rw [hk2 bo n3]; exact g2
      have mx : Src hp2 dx [a] := hx1'.keep fun id hid => hk2 id (fun e => (hxm id hid).1 (.inr (.inr (.inl e))))
      have la2 : iaD hp2 1 dx (.v (.int .i64 0)) = some (adr dx 0) := mx.ia (show 0 < [a].length by simp)
      have ld2 : ldD hp2 none (adr dx 0) = some (ub a) := mx.ld (show 0 < [a].length by simp)
      simp only [put_n, eq_self, ↓ew_n, ↓sw_z, ↓then_n, xw_some, x_ia, x_ld, rw_put, rw_other, n_c, n_mk, sl_put, ne_eq, reduceCtorEq, not_false_eq_true, and_true, true_and, and_self, Pa.l.injEq, Pa.r.injEq, ↓sw_reg, ↓tw_q, ↓tw_chk, ↓tw_read, ↓z_lay, ↓chk_nil, ↓chk_cons, ro_v, ro_pt, look_f, ↓refsL_cons, ↓refs_nil, List.append_nil, hz3, ld_box m2, la2, ld2, okRef_old m2 l2, mx.ro odx, mx.roa odx, ub]
      refine tws_bsl (l := [0, a]) rfl rfl (by simp only [List.map_cons, List.map_nil, n_ev, n_evc, n_ofi, rw_put, n_mk, p13]; exact fill2 _ 0 _) fun hp3 hg3 hk3 => ?_
      simp only [ne_eq] at hg3 hk3
      have hsx : Own hp3 (.ms (nx + 4) 0 2 1) [0, a] := .ms (nx + 4) [0, a] hg3
      have m3 : Own hp3 d s.out := m0.keep fun id hid => hk3 id (by have := l4 id hid; omega)
      have m4 : hp3.get bo = some (.row 22 [d]) := by rw [hk3 bo (by omega)]; exact m2
      simp only [put_n, rw_put, rw_other, n_mk, sl_put, ne_eq, reduceCtorEq, not_false_eq_true, and_true, Pa.r.injEq, ↓tw_q, ↓tw_chk, ↓z_main, ↓chk_nil, ↓chk_cons, ro_ms, ↓refsL_cons, ↓refs_nil, look_nil, refs_v, List.append_nil, List.length_cons, List.length_nil]
      refine ⟨⟨m3.src.ro od, okRef_new hg3 rfl⟩, ?_⟩
      refine tws_main rfl ?_
      refine sw_app (d := d) (d2 := .ms (nx + 4) 0 2 1) (m := [0, a]) (by simp only [rw_put, rw_other, n_mk, ne_eq, reduceCtorEq, not_false_eq_true, Pa.r.injEq, p10]) m3 (by simp only [rw_put, n_mk, p14]) hsx.src (by simp at hlen ⊢; omega) (by decide) fun hp4 hg4 hk4 => ?_
      simp only [ne_eq] at hg4 hk4
      have m5 : hp4.get bo = some (.row 22 [d]) := by rw [hk4 bo (by omega) (fun h => (n4 bo h).2.1 rfl)]; exact m4
      simp only [put_n, rw_put, rw_other, n_mk, sl_put, ne_eq, reduceCtorEq, not_false_eq_true, and_true, Pa.l.injEq, ↓tw_q, ↓tw_chk, ↓z_main, ↓chk_nil, ↓chk_cons, ro_ms, ro_pt, hz3]
      refine ⟨by omega, ⟨okRef_old m5 l2, (okRef_iff _ _).2 ⟨by rw [hg4]; rfl, .inr (.inl (by omega))⟩⟩, ?_⟩
      refine tws_main rfl ?_
      refine sw_sto (id := bo) (off := 0) (by simp only [rw_other, n_mk, ne_eq, reduceCtorEq, not_false_eq_true, Pa.l.injEq, hz3]) m5 (by simp only [evt, rw_put, n_mk]; exact live_ms hg4) (ok_ms _ _ _ _) (by simp) fun hp5 hg5 hk5 => ?_
      simp only [ne_eq] at hg5 hk5
      simp only [put_n, eq_self, ↓blk_n, true_and, ↓tw_z, okl_nil]
      have k5 : ∀ j, j ≠ bo → j ∉ d.refs → j < nx → hp5.get j = hp2.get j := fun j h1 h2 h3 => by
        rw [hk5 j h1, hk4 j (by omega) h2, hk3 j (by omega)]
      refine ⟨Nat.le_refl _, lp, by rw [k5 L n1 (fun h => (n4 L h).1 rfl) l1, hk2 L n2]; exact hbL, fin _ _ _ (by omega) (by rw [k5 L n1 (fun h => (n4 L h).1 rfl) l1, hk2 L n2]; exact hbL) hg5 (by rw [k5 bh (Ne.symm n3) (fun h => (n4 bh h).2.2 rfl) l3]; exact hg2) (.ms _ _ (by rw [hk5 _ (by omega)]; exact hg4)) (fun j hj hm => ?_) (fun id hid => ?_) (fun h' hh => by cases hh; simp)⟩
      · rw [k5 j (fun e => hm (.inr (.inl e))) (fun e => hm (.inr (.inr (.inr e)))) hj, hk2 j (fun e => hm (.inr (.inr (.inl e)))), hb1 j (fun e => hm (.inl e))]
      · simp only [DV.refs, List.mem_singleton] at hid
        omega
end Go.DD
