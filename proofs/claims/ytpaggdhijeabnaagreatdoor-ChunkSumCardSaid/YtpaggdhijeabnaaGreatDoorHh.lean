/- All operations that are no calls, in one. -/
import Derived.Test.YtpaggdhijeabnaaGreatDoorHo
namespace Go.DD
open Go.RowKit (Below)

theorem execU_ok {C : Ctx} {U : Nat → Prop} {s : DS} {β : Nat → Option Nat} {a : Act} {w : World} {o : Oper} {d : DV} {u : Upd} {nid : Nat} {op : DOp} (hs : HoldsB C U s β a w) (hn : ¬ U nid)
    (hc : compOp C.P o.op = some op) (he : execU nid s op = some (d, u)) : OpOk C (Ux U nid u) a w o d (s.upd nid u) := by
  have hmup : ∀ t x k y kd, o.op = .mapUpdate t x k y ∨ o.op = .insert t x k y → mapKd C.P t = some kd → op = .mup kd x k y → OpOk C (Ux U nid u) a w o d (s.upd nid u) := by
    rintro t x k y kd ho hkd rfl
    unfold mapKd at hkd
    split at hkd
    · rename_i kt et ht
      simp only [execU] at he
      split at he
      · rename_i kv hk
        split at he
        · rename_i hkey
          split at he
          · rename_i id hx
            split at he
            · rename_i ck es hid
              split at he
              · rename_i p hp; cases he; exact ok_mup ho ht hkd hs hk hkey hx hid (ck' := p.1) (es' := p.2) hp
              · cases he
            · cases he
          · cases he
        · cases he
      · cases he
    · cases hkd
  unfold compOp at hc
  split at hc
  case h_1 x ho => cases hc; simp [execU] at he; obtain ⟨rfl, rfl⟩ := he; exact ok_mv (.inl ho) hs
  case h_2 x ho => cases hc; simp [execU] at he; obtain ⟨rfl, rfl⟩ := he; exact ok_mv (.inr ho) hs
  case h_3 c x y ho =>
    cases hc
    simp only [execU] at he
    split at he
    · rename_i t ht; cases he; exact ok_pick ho hs ht
    · cases he
  case h_4 T ho =>
    obtain ⟨z, hz, rfl⟩ := Option.map_eq_some_iff.1 hc
    simp [execU] at he; obtain ⟨rfl, rfl⟩ := he
    exact ok_al ho hz hs hn
  case h_5 T x ho =>
    cases hc
    simp only [execU] at he
    split at he
    · rename_i hx; cases he; exact ok_bx ho hs hn hx
    · cases he
  case h_6 t ps ho =>
    split at hc
    · rename_i fs z ht hz
      split at hc
      · cases hc
      · rename_i hpos
        obtain ⟨l, hl, rfl⟩ := Option.map_eq_some_iff.1 hc
        simp only [execU] at he
        split at he
        · rename_i cs hf
          cases he
          exact ok_bld ho ht hz (by
            have h2 : (fs.toList.all fun f => C.P.cellsOf f.type != 0) = true := by simpa using hpos
            intro f hf'
            have := List.all_eq_true.1 h2 f hf'
            simpa using this) hl hs hf
        · cases he
    · cases hc
  case h_7 t n ps ho =>
    split at hc
    · rename_i e ht
      obtain ⟨z, hz, hc⟩ := Option.bind_eq_some_iff.1 hc
      split at hc
      · rename_i hn'
        cases hc
        simp only [execU] at he
        split at he
        · rename_i cs hf
          split at he
          · rename_i hzl
            cases he
            exact ok_bsl hn'.1 ho ht hz hn'.2.1 hn'.2.2 hzl hs hn hf
          · cases he
        · cases he
      · cases hc
    · cases hc
  case h_8 t x ho =>
    obtain ⟨k, hk, rfl⟩ := Option.map_eq_some_iff.1 hc
    simp only [execU] at he
    split at he
    · rename_i cs hx
      obtain ⟨d', hp, he⟩ := Option.map_eq_some_iff.1 he
      cases he
      exact ok_ld_ia ho hk hs hx hp
    · rename_i id off hx
      split at he
      · rename_i T cs hid
        obtain ⟨d', hp, he⟩ := Option.map_eq_some_iff.1 he
        cases he
        exact ok_ld_pt ho hk hs hx hid hp
      · cases he
    · cases he
  case h_9 t x y ho =>
    obtain ⟨k, hk, rfl⟩ := Option.map_eq_some_iff.1 hc
    simp only [execU] at he
    split at he
    · rename_i id off hx
      split at he
      · rename_i T cs hid
        split at he
        · rename_i hcond
          cases he
          exact ok_st ho hk rfl hs hx hid hcond.1 hcond.2.1 hcond.2.2
        · cases he
      · cases he
    · cases he
  case h_10 x ho =>
    cases hc
    simp only [execU] at he
    have key : (d, u) = (s.ev x, Upd.keep) ∧ ((∃ cs, s.ev x = .ia cs) ∨ (∃ id off, s.ev x = .pt id off) ∨ (∃ f cs, s.ev x = .fn (.func f) cs) ∨ ∃ T d, s.ev x = .ifc T d) := by
      split at he
      · rename_i cs hx; cases he; exact ⟨by rw [hx], .inl ⟨_, hx⟩⟩
      · rename_i id off hx; cases he; exact ⟨by rw [hx], .inr (.inl ⟨_, _, hx⟩)⟩
      · rename_i f cs hx; cases he; exact ⟨by rw [hx], .inr (.inr (.inl ⟨_, _, hx⟩))⟩
      · rename_i T d hx; cases he; exact ⟨by rw [hx], .inr (.inr (.inr ⟨_, _, hx⟩))⟩
      · cases he
    obtain ⟨h1, h2⟩ := key
    cases h1
    exact ok_nck ho hs h2
  case h_11 op' t x y yt ho =>
    have hbin : op = .bin op' x y → OpOk C (Ux U nid u) a w o d (s.upd nid u) := by
      rintro rfl
      simp only [execU] at he
      obtain ⟨v, hv, he⟩ := Option.map_eq_some_iff.1 he
      cases he
      exact ok_bin ho hs hv
    have hnil : ∀ k neg, (op' = if neg then .neq else .eql) → nilT C.P k t → (k = 4 → isCst x = true ∨ isCst y = true) → op = .nilq k neg x y → OpOk C (Ux U nid u) a w o d (s.upd nid u) := by
      rintro k neg hop hnt hcst rfl
      simp only [execU] at he
      split at he
      · rename_i b hx hy
        cases he
        exact ok_nilq hop ho hnt hcst hs hx hy (.inl rfl)
      · rename_i b hx hy hh
        cases he
        have := ok_nilq (b := b) (c := true) hop ho hnt hcst hs hy hh (.inr rfl)
        cases b <;> exact this
      · cases he
    split at hc
    · cases hc; exact hbin rfl
    · cases hc; exact hbin rfl
    · rename_i ht
      have hbb : ∀ neg, (op' = if neg then .neq else .eql) → op = .bb neg x y → OpOk C (Ux U nid u) a w o d (s.upd nid u) := by
        rintro neg hop rfl
        simp only [execU] at he
        split at he
        · rename_i p q hx hy
          cases he
          exact ok_bb hop ho ht hs hx hy
        · cases he
      split at hc
      · cases hc; exact hbb false rfl rfl
      · cases hc; exact hbb true rfl rfl
      · cases hc
    · rename_i fs ht
      split at hc
      · rename_i hg
        have hst : ∀ neg ks, (op' = if neg then .neq else .eql) → flatEq C.P 0 fs.toList = some ks → op = .eqs neg ks x y → OpOk C (Ux U nid u) a w o d (s.upd nid u) := by
          rintro neg ks hop hk rfl
          simp only [execU] at he
          split at he
          · rename_i xs ys hx hy
            obtain ⟨r, hr, he⟩ := Option.map_eq_some_iff.1 he
            cases he
            exact ok_eqs hop ho ht hg.1 hg.2 hk hs hx hy hr
          · cases he
        split at hc
        · obtain ⟨ks, hk, rfl⟩ := Option.map_eq_some_iff.1 hc; exact hst false ks rfl hk rfl
        · obtain ⟨ks, hk, rfl⟩ := Option.map_eq_some_iff.1 hc; exact hst true ks rfl hk rfl
        · cases hc
      · cases hc
    · rename_i e ht
      split at hc
      · cases hc; exact hnil 0 false rfl ⟨e, ht⟩ (fun h => by cases h) rfl
      · cases hc; exact hnil 0 true rfl ⟨e, ht⟩ (fun h => by cases h) rfl
      · cases hc
    · rename_i e ht
      split at hc
      · cases hc; exact hnil 1 false rfl ⟨e, ht⟩ (fun h => by cases h) rfl
      · cases hc; exact hnil 1 true rfl ⟨e, ht⟩ (fun h => by cases h) rfl
      · cases hc
    · rename_i e f ht
      split at hc
      · cases hc; exact hnil 2 false rfl ⟨e, f, ht⟩ (fun h => by cases h) rfl
      · cases hc; exact hnil 2 true rfl ⟨e, f, ht⟩ (fun h => by cases h) rfl
      · cases hc
    · rename_i e f g ht
      split at hc
      · cases hc; exact hnil 3 false rfl ⟨e, f, g, ht⟩ (fun h => by cases h) rfl
      · cases hc; exact hnil 3 true rfl ⟨e, f, g, ht⟩ (fun h => by cases h) rfl
      · cases hc
    · rename_i e ht
      split at hc
      · rename_i hcst
        have hcst' : isCst x = true ∨ isCst y = true := by simpa using hcst
        split at hc
        · cases hc; exact hnil 4 false rfl ⟨e, ht⟩ (fun _ => hcst') rfl
        · cases hc; exact hnil 4 true rfl ⟨e, ht⟩ (fun _ => hcst') rfl
        · cases hc
      · cases hc
    · cases hc
  case h_12 op' t x ho =>
    cases hc
    simp only [execU] at he
    obtain ⟨v, hv, he⟩ := Option.map_eq_some_iff.1 he
    cases he
    exact ok_un ho hs hv
  case h_13 src dst x ho =>
    split at hc
    · rename_i k' k h1 h2
      cases hc
      simp only [execU] at he
      split at he
      · rename_i kk n hx; cases he; exact ok_cvi ho h1 h2 hs hx
      · cases he
    · rename_i e h1 h2
      split at hc
      · rename_i h3
        cases hc
        simp only [execU] at he
        split at he
        · rename_i b hx; cases he; exact ok_s2b ho h1 h2 h3 hs hx
        · cases he
      · cases hc
    · rename_i e h1 h2
      split at hc
      · rename_i h3
        cases hc
        simp only [execU] at he
        split at he
        · rename_i news m hsrc
          split at he
          · rename_i hlen
            obtain ⟨ns, hns, he⟩ := Option.map_eq_some_iff.1 he
            cases he
            exact ok_b2s ho h1 h3 h2 hs hsrc hlen hns
          · cases he
        · cases he
      · cases hc
    · rename_i e e' h1 h2
      split at hc
      · rename_i heq
        subst heq
        split at hc
        · rename_i h3
          cases hc
          simp only [execU] at he
          split at he
          · rename_i id n hx
            split at he
            · rename_i T cs hid
              split at he
              · rename_i hfit
                cases he
                obtain ⟨ns, hns⟩ := Option.isSome_iff_exists.1 hfit.2.2
                exact ok_frz ho h1 h3 hs hn hx hid hfit.1 hfit.2.1 hns
              · cases he
            · cases he
          · cases he
        · cases hc
      · cases hc
    · cases hc
  case h_14 f first cap ho =>
    cases hc
    simp only [execU, Option.some.injEq, Prod.mk.injEq] at he; obtain ⟨rfl, rfl⟩ := he
    exact ok_mkf ho hs
  case h_15 t l c ho =>
    split at hc
    · rename_i e ht
      split at hc
      rotate_left
      · cases hc
      rename_i hna
      obtain ⟨z, hz, rfl⟩ := Option.map_eq_some_iff.1 hc
      simp only [execU] at he
      split at he
      · rename_i l' c' hl hc'
        split at he
        · rename_i h
          cases he
          exact ok_mks hna ho ht hz h.2.2.2.2.1 (by have := h.2.2.2.2.2; omega) h.2.2.2.1 hs hn hl hc' h.1 h.2.1 h.2.2.1
        · cases he
      · cases he
    · cases hc
  case h_16 t x lo hi mx ho =>
    split at hc
    · rename_i e ht
      split at hc
      · rename_i hinfo
        cases hc
        simp only [execU] at he
        split at he
        · rename_i cs n hx
          split at he
          · rename_i l h hlo hhi
            split at he
            · rename_i hb
              cases he
              exact (ok_sli ho ht hinfo hs).1 cs n hx hlo hhi hb.1 hb.2.1 hb.2.2
            · cases he
          · cases he
        · rename_i id off n es' hx
          split at he
          · rename_i l h hlo hhi
            split at he
            · rename_i hb
              obtain ⟨rfl, hb⟩ := hb
              cases he
              exact (ok_sli ho ht hinfo hs).2.1 id off n hx hlo hhi hb.1 hb.2.1 hb.2.2
            · cases he
          · cases he
        · rename_i hx
          split at he
          · rename_i l h hlo hhi
            split at he
            · rename_i hb
              cases he
              exact (ok_sli ho ht hinfo hs).2.2 hx hlo hhi hb.1 hb.2
            · cases he
          · cases he
        · cases he
      · cases hc
    · rename_i ht
      cases hc
      simp only [execU] at he
      split at he
      · rename_i b hx
        split at he
        · rename_i l h hlo hhi
          split at he
          · rename_i hb
            cases he
            exact ok_sls ho ht hs hx hlo hhi hb.1 hb.2.1 hb.2.2
          · cases he
        · cases he
      · cases he
    · rename_i n e har
      split at hc
      · split at hc
        · rename_i hb
          cases hc
          simp only [execU] at he
          split at he
          · rename_i id hx
            split at he
            · rename_i T cs hid
              split at he
              · rename_i hc2
                obtain ⟨rfl, hl⟩ := hc2
                cases he
                exact ok_sla ho har hb.1 hb.2.1 hb.2.2 hs hx hid hl
              · cases he
            · cases he
          · cases he
        · cases hc
      · cases hc
    · cases hc
  case h_17 t x f ho =>
    split at hc
    · rename_i fs ht
      obtain ⟨fd, hf, hc⟩ := Option.bind_eq_some_iff.1 hc
      split at hc
      · cases hc
      · rename_i hz
        cases hc
        simp only [execU] at he
        split at he
        · rename_i cs hx; cases he; exact (ok_fa ho ht hf hz hs).1 cs hx
        · rename_i id off hx; cases he; exact (ok_fa ho ht hf hz hs).2 id off hx
        · cases he
    · cases hc
  case h_18 t x f ho =>
    split at hc
    · rename_i fs ht
      obtain ⟨fd, hf, hc⟩ := Option.bind_eq_some_iff.1 hc
      obtain ⟨k, hk, rfl⟩ := Option.map_eq_some_iff.1 hc
      simp only [execU] at he
      split at he
      · rename_i cs hx
        obtain ⟨d', hp, he⟩ := Option.map_eq_some_iff.1 he
        cases he
        exact ok_fld ho ht hf hk hs hx hp
      · cases he
    · cases hc
  case h_19 t x i ho =>
    split at hc
    · rename_i e ht
      split at hc
      · cases hc
      · rename_i hz
        cases hc
        simp only [execU] at he
        split at he
        · rename_i j cs n hi hx
          split at he
          · rename_i hj; cases he; exact (ok_ia ho ht hz hs hi hj.1).1 cs n hx hj.2
          · cases he
        · rename_i j id off n es' hi hx
          split at he
          · rename_i hj; cases he; exact (ok_ia ho ht hz hs hi hj.1).2 id off n es' hx hj.2
          · cases he
        · cases he
    · rename_i n e ht
      split at hc
      · cases hc
      · rename_i hz
        cases hc
        simp only [execU] at he
        split at he
        · rename_i j id off hi hx
          split at he
          · rename_i hj; cases he; exact (ok_fx ho ht hz hs hi hj.1 hj.2).2 id off hx
          · cases he
        · rename_i j cs hi hx
          split at he
          · rename_i hj; cases he; exact (ok_fx ho ht hz hs hi hj.1 hj.2).1 cs hx
          · cases he
        · cases he
    · cases hc
  case h_20 t x i ho =>
    split at hc
    · rename_i ht
      cases hc
      simp only [execU] at he
      split at he
      · rename_i j b hi hx
        split at he
        · rename_i h0
          obtain ⟨c, hcc, he⟩ := Option.map_eq_some_iff.1 he
          cases he
          exact ok_ixs ho ht hs hi h0 hx hcc
        · cases he
      · cases he
    · cases hc
  case h_21 x i ho =>
    cases hc
    simp only [execU] at he
    split at he
    · rename_i v hv
      cases he
      obtain ⟨ds, hx, hd⟩ := extV_some hv
      exact ok_extv ho hs hx hd
    · split at he
      · rename_i ds hx
        obtain ⟨d', hd, he⟩ := Option.map_eq_some_iff.1 he
        cases he
        exact ok_ext ho hs hx hd
      · cases he
  case h_22 c ho =>
    split at hc
    · cases hc; simp [execU] at he
    · cases hc; simp [execU] at he
    · cases hc; simp [execU] at he
    · rename_i hcal
      split at hc
      · rename_i x t hargs ht
        split at hc
        · rename_i e hu
          cases hc
          have h1 := (ok_len ho hcal hargs ht hs).1 ⟨e, hu⟩
          simp only [execU] at he
          split at he
          · rename_i cs n hx; cases he; exact h1.1 cs n hx
          · rename_i id off n es' hx; cases he; exact h1.2.1 id off n es' hx
          · rename_i n c' hx; cases he; exact h1.2.2 n c' hx
          · cases he
        · rename_i hu
          cases hc
          simp only [execU] at he
          split at he
          · rename_i b hx; cases he; exact (ok_len ho hcal hargs ht hs).2 hu b hx
          · cases he
        · rename_i kt et hu
          cases hc
          have h1 := ok_lnm ho hcal hargs ht hu hs
          simp only [execU] at he
          split at he
          · rename_i hx; cases he; exact h1.1 hx
          · rename_i id hx
            split at he
            · rename_i ck es hid; cases he; exact h1.2 id ck es hx hid
            · cases he
          · cases he
        · cases hc
      · cases hc
    · rename_i hcal
      split at hc
      · rename_i x y t t' hargs hty
        split at hc
        · rename_i htt
          subst htt
          split at hc
          · rename_i e ht
            obtain ⟨z, hz, hc⟩ := Option.bind_eq_some_iff.1 hc
            split at hc
            · rename_i hzl
              cases hc
              simp only [execU] at he
              split at he
              · rename_i old cs n news m hd hsr
                split at he
                · rename_i h
                  cases he
                  exact ok_app hzl.1 ho hcal hargs hty ht hz hzl.2 rfl rfl hs hn hd hsr h.1 h.2.1 h.2.2.1 h.2.2.2
                · cases he
              · cases he
            · cases hc
          · cases hc
        · cases hc
      · cases hc
    · rename_i hcal
      split at hc
      · rename_i x y t hargs hty
        split at hc
        · rename_i e ht
          split at hc
          · rename_i hce
            cases hc
            simp only [execU] at he
            split at he
            · rename_i id off n es' news m hx hy
              split at he
              · rename_i T cs hid
                split at he
                · rename_i h
                  obtain ⟨rfl, h⟩ := h
                  cases he
                  exact ok_cpy ho hcal hargs hty ht rfl hce hs hx hid hy h.1 h.2.1 h.2.2
                · cases he
              · cases he
            · cases he
          · cases hc
        · cases hc
      · cases hc
    · rename_i hcal
      split at hc
      · rename_i x y hargs
        cases hc
        simp only [execU] at he
        split at he
        · rename_i k p k' q hx hy; cases he; exact ok_mm (mx := false) ho hcal hargs hs hx hy
        · cases he
      · cases hc
    · rename_i hcal
      split at hc
      · rename_i x y hargs
        cases hc
        simp only [execU] at he
        split at he
        · rename_i k p k' q hx hy; cases he; exact ok_mm (mx := true) ho hcal hargs hs hx hy
        · cases he
      · cases hc
    · cases hc
  case h_23 t r ho =>
    split at hc
    · cases hc
      simp [execU] at he
      obtain ⟨rfl, rfl⟩ := he
      exact ok_mkm ho hs hn
    · cases hc
  case h_24 t x k ok ho =>
    split at hc
    · rename_i kt et ht
      split at hc
      · rename_i kd z hkd hz
        cases hc
        simp only [execU] at he
        split at he
        · rename_i kv hk
          split at he
          · rename_i hkey
            have h1 := ok_lkp ho ht hkd hz hs hk hkey
            split at he
            · rename_i hx; cases he; exact h1.1 hx
            · rename_i id hx
              split at he
              · rename_i ck es hid
                split at he
                · rename_i p hf; cases he; exact h1.2 id ck es _ hx hid hf
                · rename_i hf; cases he; exact h1.2 id ck es _ hx hid hf
                · cases he
              · cases he
            · cases he
          · cases he
        · cases he
      · cases hc
    · cases hc
  case h_25 t x k ho =>
    split at hc
    · rename_i kt et ht
      split at hc
      · rename_i kd z hkd hz
        cases hc
        simp only [execU] at he
        split at he
        · rename_i kv hk
          split at he
          · rename_i hkey
            split at he
            · rename_i id hx
              split at he
              · rename_i ck es hid
                split at he
                · rename_i p hf; cases he; exact (ok_men ho ht hkd hz hs hk hkey hx hid hf).1 p rfl
                · rename_i hf; cases he; exact (ok_men ho ht hkd hz hs hk hkey hx hid hf).2 rfl
                · cases he
              · cases he
            · cases he
          · cases he
        · cases he
      · cases hc
    · cases hc
  case h_26 t x st y ho =>
    cases hc
    simp only [execU] at he
    split at he
    · rename_i id n hx hst
      split at he
      · rename_i ck es hid
        split at he
        · rename_i i hf; cases he; exact ok_mes ho hs hx hst hid hf
        · cases he
      · cases he
    · cases he
  case h_27 t x ho =>
    split at hc
    · rename_i kt et ht
      cases hc
      simp only [execU] at he
      split at he
      · rename_i hx; cases he; exact (ok_rgm ho ht hs hn).1 hx
      · rename_i id hx
        split at he
        · rename_i ck es hid; cases he; exact (ok_rgm ho ht hs hn).2 id ck es hx hid
        · cases he
      · cases he
    · rename_i ht
      cases hc
      simp only [execU] at he
      split at he
      · rename_i b hx; cases he; exact ok_rgs ho ht hs hn hx
      · cases he
    · cases hc
  case h_28 x isS ho =>
    split at hc
    · cases hc; simp [execU] at he
    · rename_i hS
      have hS' : isS = true := by simpa using hS
      subst hS'
      cases hc
      simp only [execU] at he
      split at he
      · rename_i id hx
        split at he
        · rename_i t pos hid
          split at he
          · rename_i hp; cases he; exact (ok_nxs (nid := nid) ho hs hx hid).1 hp
          · rename_i hp; cases he; exact (ok_nxs (nid := nid) ho hs hx hid).2 hp
        · cases he
      · cases he
  case h_29 x ho => cases hc; simp [execU] at he
  case h_30 t x ho =>
    split at hc
    · cases hc
    · rename_i td hni ht
      cases hc
      simp [execU] at he; obtain ⟨rfl, rfl⟩ := he
      exact ok_mki ho ht (fun ms e => hni ms e) hs
    · cases hc
  case h_31 x xt t ok ho =>
    split at hc
    · cases hc
    · rename_i td hni ht
      split at hc
      · rename_i z hz
        cases hc
        have h1 := ok_tas ho ht (fun ms e => hni ms e) hz hs
        simp only [execU] at he
        split at he
        · rename_i T' d' hx
          split at he
          · rename_i hT; subst hT; cases he; exact h1.1 d' hx
          · rename_i hT
            split at he
            · rename_i hok; cases he; exact (h1.2 hok).1 T' d' hT hx
            · cases he
        · rename_i hx
          split at he
          · rename_i hok; cases he; exact (h1.2 hok).2 hx
          · cases he
        · cases he
      · cases hc
    · cases hc
  case h_32 t x k y ho =>
    obtain ⟨kd, hkd, rfl⟩ := Option.map_eq_some_iff.1 hc
    exact hmup t x k y kd (.inl ho) hkd rfl
  case h_33 t x k y ho =>
    obtain ⟨kd, hkd, rfl⟩ := Option.map_eq_some_iff.1 hc
    exact hmup t x k y kd (.inr ho) hkd rfl
  case h_34 => cases hc


end Go.DD
