/- Lists of records, as their cells lie. -/
import Derived.Test.YtpaggdhijeabnaaGreatDoorJc
namespace Go.DD

theorem drop_flat {α : Type} (c : α → List DV) (k : Nat) (hk : ∀ x, (c x).length = k) : ∀ (l : List α) (i : Nat) (h : i < l.length), (l.flatMap c).drop (i * k) = c l[i] ++ (l.drop (i + 1)).flatMap c
  | x :: l, 0, _ => by simp
  | x :: l, i + 1, h => by
    have ih := drop_flat c k hk l i (by simpa using h)
    rw [List.flatMap_cons, Nat.succ_mul, Nat.add_comm, ← List.drop_drop]
    have : List.drop k (c x ++ l.flatMap c) = l.flatMap c := by rw [← hk x]; exact List.drop_left
    rw [this, ih]
    simp
theorem part_flat {α : Type} (c : α → List DV) (k : Nat) (hk : ∀ x, (c x).length = k) (l : List α) (i : Nat) (h : i < l.length) : partD (some k) ((l.flatMap c).drop (i * k)) = some (.agg (c l[i])) := by
  rw [drop_flat c k hk l i h]
  unfold partD
  simp only
  rw [if_pos (by rw [List.length_append, hk]; omega)]
  congr 2
  rw [← hk l[i]]
  exact List.take_left
theorem part_flat1 {α : Type} (c : α → List DV) (k : Nat) (hk : ∀ x, (c x).length = k) (l : List α) (i : Nat) (h : i < l.length) (off : Nat) (d : DV) (hd : (c l[i])[off]? = some d) : partD none (((l.flatMap c).drop (i * k)).drop off) = some d := by
  rw [drop_flat c k hk l i h]
  have hlt : off < (c l[i]).length := (List.getElem?_eq_some_iff.1 hd).1
  rw [List.drop_append_of_le_length (by omega), List.drop_eq_getElem_cons hlt]
  have := (List.getElem?_eq_some_iff.1 hd).2
  simp [partD, this]
end Go.DD
