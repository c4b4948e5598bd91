/- Each operation on deep values is what the model's operation does (fourth part: append). -/
import Derived.Test.YtpaggdhijeabnaaGreatDoorHf
import Derived.Maps.AppendAt
namespace Go.DD
open Go.RowKit (Below)

section ops
variable {C : Ctx} {U : Nat → Prop} {s : DS} {β : Nat → Option Nat} {a : Act} {w : World} {o : Oper} {d : DV} {s' : DS} {nid : Nat}

theorem src_ok {T : TypeId} {es m : Nat} {x : Operand} {news : List DV} (hs : HoldsB C U s β a w) (h : srcD s T es (s.ev x) = some (news, m)) :
    ∃ us : List Value, us.length = news.length ∧ (∀ u ∈ us, u.oneCell' = true) ∧ (∀ (j : Nat) (u : Value) (d : DV), us[j]? = some u → news[j]? = some d → WV C U (s.vw C) β w u d) ∧
      ((∃ ad cap, a.eval x = .slice (some ad) m cap ∧ ∀ (j : Nat) (u : Value), us[j]? = some u → w.cell? (ad.add j) = some u) ∨ (∃ cap, a.eval x = .slice none 0 cap ∧ m = 0 ∧ us = [])) := by
  have h1 := hs.ev x
  unfold srcD at h
  split at h
  · rename_i cs n hx
    cases h
    rw [hx] at h1
    rcases rel_sl h1 with ⟨ad, cap, e1, rfl, rfl⟩ | ⟨ad, cap, us, e1, hl, hn, ha, h1c, hc, hr⟩
    · refine ⟨[], rfl, by simp, by simp, ?_⟩
      cases ad with
      | none => exact .inr ⟨cap, e1, rfl, rfl⟩
      | some ad => exact .inl ⟨ad, cap, e1, by simp⟩
    · exact ⟨us, hl, h1c, fun j u d hu hd => wv_imm (hr j u d hu hd), .inl ⟨ad, cap, e1, hc⟩⟩
  · rename_i cap hx
    cases h
    rw [hx] at h1
    exact ⟨[], rfl, by simp, by simp, .inr ⟨cap, rel_v h1, rfl, rfl⟩⟩
  · rename_i id off n es' hx
    rw [hx] at h1
    split at h
    · rename_i T' cs hrow
      split at h
      · rename_i hfit
        obtain ⟨rfl, rfl, hfit⟩ := hfit
        cases h
        rcases rel_ms h1 with ⟨e1, rfl, rfl⟩ | ⟨b, cap, c, T, e1, hb, hw, hn, hm, hcap⟩
        · exact ⟨[], by simp, by simp, by simp, .inr ⟨0, e1, rfl, rfl⟩⟩
        · obtain ⟨c', hw', hl, _, hr⟩ := hs.row hb hrow
          rw [hw] at hw'
          injection hw' with hw'
          injection hw' with hcc hT
          subst hT hcc
          refine ⟨(c.toList.drop off).take (m * es'), by simp; omega, fun u hu => ?_, fun j u d hu hd => ?_, .inl ⟨_, cap, e1, fun j u hu => ?_⟩⟩
          · obtain ⟨j, hj, rfl⟩ := List.mem_iff_getElem.1 hu
            have hjl : off + j < cs.length := by simp at hj; omega
            refine (hr (off + j) _ cs[off + j] ?_ (List.getElem?_eq_getElem hjl)).2
            rw [List.getElem_take, List.getElem_drop]
            simp
          · rw [List.getElem?_take] at hu hd
            split at hu
            · rename_i hj
              rw [if_pos hj] at hd
              exact (hr (off + j) u d (by simpa using hu) (by simpa using hd)).1
            · cases hu
          · rw [List.getElem?_take] at hu
            split at hu
            · exact cell_row hw j u hu
            · cases hu
      · cases h
    · cases h
  · cases h

theorem dst_ok {T : TypeId} {es n : Nat} {old : Option Nat} {x : Operand} {cs : List DV} (hes : es = C.P.cellsOf T) (hs : HoldsB C U s β a w) (h : dstD s T es (s.ev x) = some (old, cs, n)) :
    ∃ xs : List Value, w.ownsRow 0 T es (a.eval x) n xs ∧ xs.length = cs.length ∧ (∀ (j : Nat) (u : Value) (d : DV), xs[j]? = some u → cs[j]? = some d → WV C U (s.vw C) β w u d ∧ u.oneCell' = true) ∧
      (∀ b, (a.eval x).ownBlock = some b → ∃ id, old = some id ∧ β id = some b) ∧ ∀ id, old = some id → (s.ho id).isSome = true := by
  have h1 := hs.ev x
  unfold dstD at h
  split at h
  · rename_i hx
    cases h
    rw [hx] at h1
    rw [rel_v h1]
    exact ⟨[], World.ownsRow_nil w _ _ _, rfl, by simp, by simp [Value.ownBlock], by simp⟩
  · rename_i id' n' es' hx
    rw [hx] at h1
    split at h
    · rename_i T' cs' hrow
      split at h
      · rename_i hc
        obtain ⟨rfl, hes', hlen⟩ := hc
        cases h
        subst es'
        rcases rel_ms h1 with ⟨e1, _, rfl⟩ | ⟨b, cap, c, T, e1, hb, hw, hn, hm, hcap⟩
        · have hcs : cs = [] := List.eq_nil_of_length_eq_zero (by simpa using hlen)
          subst hcs
          rw [e1]
          exact ⟨[], World.ownsRow_nil w _ _ _, rfl, by simp, by simp [Value.ownBlock], fun i hi => by cases hi; rw [hrow]; rfl⟩
        · obtain ⟨c', hw', hl, _, hr⟩ := hs.row hb hrow
          rw [hw] at hw'
          injection hw' with hw'
          injection hw' with hcc hT
          subst hT hcc
          have hlc : (c.toList.take (n * es)).length = n * es := by simp; omega
          refine ⟨c.toList.take (n * es), ⟨hlc, .inr ⟨b, cap, c, e1, Nat.zero_le _, hw, hn, hm, by omega, rfl⟩⟩, by omega, fun j u d hu hd => ?_, fun b' hb' => ?_, fun i hi => by cases hi; rw [hrow]; rfl⟩
          · rw [List.getElem?_take] at hu
            split at hu
            · exact hr j u d (by simpa using hu) hd
            · cases hu
          · rw [e1] at hb'
            simp [Value.ownBlock] at hb'
            exact ⟨_, rfl, by rw [← hb']; exact hb⟩
      · cases h
    · cases h
  · cases h

theorem run_append_nil_src {P : Program} (w : World) (base : Nat) (t ty e : TypeId) (i : TypeInfo) (size : Nat) (ht : P.underlying t = some (.slice e)) (hi : P.info? e = some i)
    (v : Value) (n : Nat) (xs : List Value) (hown : w.ownsRow base e size v n xs) (c : Nat) : (Builtin.append_ #[t, t] ty #[v, .slice none 0 c]).run P w = .ok v w := by
  rcases hown.2 with ⟨rfl, rfl⟩ | ⟨g, cap, cur, rfl, _, _, hnc, _⟩
  · simp [Builtin.append_, run_underlying ht, sizeOf, typeInfo, hi, Builtin.lenOf, Builtin.firstCells]
  · simp [Builtin.append_, run_underlying ht, sizeOf, typeInfo, hi, Builtin.lenOf, Builtin.firstCells, hnc, storeCells]

def strikeB (β : Nat → Option Nat) : Option Nat → Nat → Option Nat
  | none => β
  | some i => upd β i none

theorem ok_app {t T : TypeId} (hna : isArr C.P T = false) {c : Call} {x y : Operand} {z : List Value} {es bytes n m : Nat} {old : Option Nat} {cs news : List DV} (ho : o.op = .call c) (hc : c.callee = .builtin .append) (hargs : c.args.toList = [x, y]) (hty : c.argTypes.toList = [t, t])
    (ht : C.P.underlying t = some (.slice T)) (hz : zeroL C.P T = some z) (hzl : z.length = C.P.cellsOf T) (hes : es = C.P.cellsOf T) (hby : bytes = C.P.bytesOf T) (hs : HoldsB C U s β a w) (hnew : ¬ U nid) (hd : dstD s T es (s.ev x) = some (old, cs, n)) (hsr : srcD s T es (s.ev y) = some (news, m))
    (hnl : news.length = m * es) (he : 0 < es) (hbd : n + m ≤ 2147483648) (hb2 : bytes ≤ 65536) : OpOk C (Un U nid) a w o (.ms nid 0 (n + m) es) (s.upd nid (.mv old (.row T (cs ++ news)))) := by
  obtain ⟨i, v, hi, hv, rfl, h1z⟩ := zeroL_ok hz
  have hsz : C.P.cellsOf T = i.size := by simp [Program.cellsOf, hi]
  have hbs : C.P.bytesOf T = i.bytes := by simp [Program.bytesOf, hi]
  have hA : c.args = #[x, y] := by apply Array.ext'; simpa using hargs
  have hT : c.argTypes = #[t, t] := by apply Array.ext'; simpa using hty
  obtain ⟨us, ul, u1, ur, usrc⟩ := src_ok hs hsr
  obtain ⟨xs, hown, xl, xr, hob, hlive⟩ := dst_ok hes hs hd
  have hul : us.length = m * es := by omega
  have key : ∃ v' w', (Builtin.append_ #[t, t] o.type #[a.eval x, a.eval y]).run C.P w = .ok v' w' ∧ w'.ownsRow 0 T es v' (n + m) (xs ++ us) ∧ w.grownBy w' (a.eval x).ownBlock ∧
      (v'.ownBlock = (a.eval x).ownBlock ∨ v'.ownBlock = some w.heap.size) := by
    rcases usrc with ⟨ad, cap, e1, hcell⟩ | ⟨cap, e1, rfl, rfl⟩
    · obtain ⟨v', w', r1, r2, r3, _, r5⟩ := run_append_own_at (P := C.P) w 0 t o.type T i v es bytes ht hi hv (by omega) (by omega) (by have h := hzl; rw [Array.length_toList] at h; omega) he (a.eval x) n xs hown ad m cap us hul hcell u1
        (by simp only [maxLen]; omega) (by have := Nat.mul_le_mul hbd hb2; omega) (Nat.zero_le _)
      exact ⟨v', w', by rw [e1]; exact r1, r2, r3, r5⟩
    · refine ⟨a.eval x, w, by rw [e1]; exact run_append_nil_src w _ t _ T i es ht hi _ _ _ hown cap, by simpa using hown, ⟨rfl, rfl, rfl, Nat.le_refl _, fun _ _ _ => rfl⟩, .inl rfl⟩
  obtain ⟨v', w', hrun, hown', hg, hat⟩ := key
  have hlt' : ∀ b, v'.ownBlock = some b → 0 ≤ b ∧ b < w'.heap.size := hown'.lt
  have hne : ∀ j, old = some j → j ≠ nid := fun j hj e => hnew (e ▸ hs.hh.used (vw_alive (hlive j hj)))
  have hturn := hs.turned (β' := upd (strikeB β old) nid v'.ownBlock) (w' := w') hnew old hlive (.row T (cs ++ news))
    (fun b hb hne => hg.block b hb (fun e => by obtain ⟨j, h1, h2⟩ := hob b e.symm; exact hne j h1 h2))
    hg.os hg.tape hg.output hg.size
    (fun j hj hjo => by
      rw [upd_other _ _ hj]
      cases old with
      | none => rfl
      | some i => exact upd_other β _ (fun e => hjo (by rw [e])))
    (fun j hj => by
      rw [upd_other _ _ (hne j hj)]
      subst hj
      exact upd_same _ _ _)
    (fun b hb => by
      rw [upd_same] at hb
      refine ⟨?_, (hlt' b hb).2⟩
      rcases hat with h | h
      · exact .inl (hob b (by rw [← h]; exact hb))
      · rw [h] at hb; cases hb; exact .inr (Nat.le_refl _))
    (fun hrel => by
      have hkl : (cs ++ news).length = (n + m) * es := by
        simp only [List.length_append]
        have h2 := hown.1
        rw [Nat.add_mul]; omega
      rcases hown'.2 with ⟨e1, e2⟩ | ⟨g, cap, cur, e1, hbg, hgw, hnc, hcm, hcs, htake⟩
      · refine .inl ⟨by rw [upd_same, e1]; rfl, List.eq_nil_of_length_eq_zero (by rw [hkl, e2]; simp)⟩
      · refine .inr ⟨g, cur, by rw [upd_same, e1]; rfl, hgw, by rw [hkl, hcs]; exact Nat.mul_le_mul_right _ hnc, fun h => (by rw [hna] at h; cases h), fun j u d hu he' => ?_⟩
        have hj : j < (n + m) * es := by
          have := (List.getElem?_eq_some_iff.1 he').1
          omega
        have hu' : (xs ++ us)[j]? = some u := by
          rw [← htake, List.getElem?_take_of_lt hj]
          simpa using hu
        rw [List.getElem?_append] at hu' he'
        rw [xl] at hu'
        by_cases hjx : j < cs.length
        · rw [if_pos hjx] at hu' he'
          have := xr j u d hu' he'
          exact ⟨hrel _ _ this.1, this.2⟩
        · rw [if_neg hjx] at hu' he'
          exact ⟨hrel _ _ (ur _ u d hu' he'), u1 u (List.mem_of_getElem? hu')⟩)
  refine ⟨.value v', w', _, _, ?_, .inl rfl, hturn.1, ?_⟩
  · simp [execOp, ho, resolve, hc, hA, hT, invoke, builtin, hrun]
  · refine wv_new ?_ rfl
    rcases hown'.2 with ⟨e1, e2⟩ | ⟨g, cap, cur, e1, hbg, hgw, hnc, hcm, hcs, htake⟩
    · rw [e1, e2]; exact .ms0 nid es
    · have h2 : upd (strikeB β old) nid v'.ownBlock nid = some g := by rw [upd_same, e1]; rfl
      rw [e1] at h2 ⊢
      exact .ms nid 0 _ es g cap cur T h2 hgw hnc hcm (by rw [hcs]; omega)

end ops
end Go.DD
