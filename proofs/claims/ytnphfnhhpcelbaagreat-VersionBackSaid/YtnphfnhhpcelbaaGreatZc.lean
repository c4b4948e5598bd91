/- A part. -/
import Derived.Test.YtnphfnhhpcelbaaGreatZb
import Derived.Tactics
import Derived.OrdersIn
import Derived.OwnWalkIn
import Derived.RangeFuncNested
import Derived.RangeFuncLeaves
namespace Go.DD
open Go.RowKit (Below)
theorem A09 {C:Ctx} {U:Nat→Prop} {s:DS} {β:Nat→Option Nat} {a:Act} {w:World} {o:Oper} {d:DV} {u:Upd} {nid:Nat} {op:DOp} (hs:HoldsB C U s β a w) (hn:¬ U nid)
  (hc:Ai1 C.P o.op=some op) (he:execU nid s op=some (d,u)):OpOk C (Ux U nid u) a w o d (s.upd nid u):=by
 have hmup:∀ t x k y kd,o.op=.mapUpdate t x k y∨o.op=.insert t x k y→mapKd C.P t=some kd→op=.mup kd x k y→OpOk C (Ux U nid u) a w o d (s.upd nid u):=by
  rintro t x k y kd ho hkd rfl
  unfold mapKd at hkd
  split at hkd
  ·rename_i kt et ht
   simp only [execU] at he
   split at he
   ·rename_i kv hk
    split at he
    ·rename_i hkey
     split at he
     ·rename_i id hx
      split at he
      ·rename_i ck es hid
       split at he
       ·rename_i p hp; cases he; exact Cn9 ho ht hkd hs hk hkey hx hid (ck':=p.1) (es':=p.2) hp
       ·cases he
      ·cases he
     ·cases he
    ·cases he
   ·cases he
  ·cases hkd
 unfold Ai1 at hc
 split at hc
 case h_1 x ho=>cases hc; simp [execU] at he; obtain ⟨rfl,rfl⟩:=he; exact ok_mv (.inl ho) hs
 case h_2 x ho=>cases hc; simp [execU] at he; obtain ⟨rfl,rfl⟩:=he; exact ok_mv (.inr ho) hs
 case h_3 c x y ho=>
  cases hc
  simp only [execU] at he
  split at he
  ·rename_i t ht; cases he; exact Ce5 ho hs ht
  ·cases he
 case h_4 T ho=>
  obtain ⟨z,hz,rfl⟩:=Option.map_eq_some_iff.1 hc
  simp [execU] at he; obtain ⟨rfl,rfl⟩:=he
  exact ok_al ho hz hs hn
 case h_5 T x ho=>
  cases hc
  simp only [execU] at he
  split at he
  ·rename_i hx; cases he; exact ok_bx ho hs hn hx
  ·cases he
 case h_6 t ps ho=>
  split at hc
  ·rename_i fs z ht hz
   split at hc
   ·cases hc
   ·rename_i hpos
    obtain ⟨l,hl,rfl⟩:=Option.map_eq_some_iff.1 hc
    simp only [execU] at he
    split at he
    ·rename_i cs hf
     cases he
     exact Cn0 ho ht hz (by
      have h2:(fs.toList.all fun f=>C.P.cellsOf f.type != 0)=true:=by simpa using hpos
      intro f hf'
      have:=List.all_eq_true.1 h2 f hf'
      simpa using this) hl hs hf
    ·cases he
  ·cases hc
 case h_7 t n ps ho=>
  split at hc
  ·rename_i e ht
   obtain ⟨z,hz,hc⟩:=Option.bind_eq_some_iff.1 hc
   split at hc
   ·rename_i hn'
    cases hc
    simp only [execU] at he
    split at he
    ·rename_i cs hf
     split at he
     ·rename_i hzl
      cases he
      exact Cn1 hn'.1 ho ht hz hn'.2.1 hn'.2.2 hzl hs hn hf
     ·cases he
    ·cases he
   ·cases hc
  ·cases hc
 case h_8 t x ho=>
  obtain ⟨k,hk,rfl⟩:=Option.map_eq_some_iff.1 hc
  simp only [execU] at he
  split at he
  ·rename_i cs hx
   obtain ⟨d',hp,he⟩:=Option.map_eq_some_iff.1 he
   cases he
   exact By9 ho hk hs hx hp
  ·rename_i id off hx
   split at he
   ·rename_i T cs hid
    obtain ⟨d',hp,he⟩:=Option.map_eq_some_iff.1 he
    cases he
    exact Bz0 ho hk hs hx hid hp
   ·cases he
  ·cases he
 case h_9 t x y ho=>
  obtain ⟨k,hk,rfl⟩:=Option.map_eq_some_iff.1 hc
  simp only [execU] at he
  split at he
  ·rename_i id off hx
   split at he
   ·rename_i T cs hid
    split at he
    ·rename_i hcond
     cases he
     exact ok_st ho hk rfl hs hx hid hcond.1 hcond.2.1 hcond.2.2
    ·cases he
   ·cases he
  ·cases he
 case h_10 x ho=>
  cases hc
  simp only [execU] at he
  have key:(d,u)=(s.ev x,Upd.keep)∧((∃ cs,s.ev x=.ia cs)∨(∃ id off,s.ev x=.pt id off)∨(∃ f cs,s.ev x=.fn (.func f) cs)∨∃ T d,s.ev x=.ifc T d):=by
   split at he
   ·rename_i cs hx; cases he; exact ⟨by rw [hx],.inl ⟨_,hx⟩⟩
   ·rename_i id off hx; cases he; exact ⟨by rw [hx],.inr (.inl ⟨_,_,hx⟩)⟩
   ·rename_i f cs hx; cases he; exact ⟨by rw [hx],.inr (.inr (.inl ⟨_,_,hx⟩))⟩
   ·rename_i T d hx; cases he; exact ⟨by rw [hx],.inr (.inr (.inr ⟨_,_,hx⟩))⟩
   ·cases he
  obtain ⟨h1,h2⟩:=key
  cases h1
  exact Cm3 ho hs h2
 case h_11 op' t x y yt ho=>
  have hbin:op=.bin op' x y→OpOk C (Ux U nid u) a w o d (s.upd nid u):=by
   rintro rfl
   simp only [execU] at he
   obtain ⟨v,hv,he⟩:=Option.map_eq_some_iff.1 he
   cases he
   exact Cl9 ho hs hv
  have hnil:∀ k neg,(op'=if neg then .neq else .eql)→nilT C.P k t→(k=4→isCst x=true∨isCst y=true)→op=.nilq k neg x y→OpOk C (Ux U nid u) a w o d (s.upd nid u):=by
   rintro k neg hop hnt hcst rfl
   simp only [execU] at he
   split at he
   ·rename_i b hx hy
    cases he
    exact Bn1 hop ho hnt hcst hs hx hy (.inl rfl)
   ·rename_i b hx hy hh
    cases he
    have:=Bn1 (b:=b) (c:=true) hop ho hnt hcst hs hy hh (.inr rfl)
    cases b <;> exact this
   ·cases he
  split at hc
  ·cases hc; exact hbin rfl
  ·cases hc; exact hbin rfl
  ·rename_i ht
   have hbb:∀ neg,(op'=if neg then .neq else .eql)→op=.bb neg x y→OpOk C (Ux U nid u) a w o d (s.upd nid u):=by
    rintro neg hop rfl
    simp only [execU] at he
    split at he
    ·rename_i p q hx hy
     cases he
     exact ok_bb hop ho ht hs hx hy
    ·cases he
   split at hc
   ·cases hc; exact hbb false rfl rfl
   ·cases hc; exact hbb true rfl rfl
   ·cases hc
  ·rename_i fs ht
   split at hc
   ·rename_i hg
    have hst:∀ neg ks,(op'=if neg then .neq else .eql)→Al0 C.P 0 fs.toList=some ks→op=.eqs neg ks x y→OpOk C (Ux U nid u) a w o d (s.upd nid u):=by
     rintro neg ks hop hk rfl
     simp only [execU] at he
     split at he
     ·rename_i xs ys hx hy
      obtain ⟨r,hr,he⟩:=Option.map_eq_some_iff.1 he
      cases he
      exact Cm0 hop ho ht hg.1 hg.2 hk hs hx hy hr
     ·cases he
    split at hc
    ·obtain ⟨ks,hk,rfl⟩:=Option.map_eq_some_iff.1 hc; exact hst false ks rfl hk rfl
    ·obtain ⟨ks,hk,rfl⟩:=Option.map_eq_some_iff.1 hc; exact hst true ks rfl hk rfl
    ·cases hc
   ·cases hc
  ·rename_i e ht
   split at hc
   ·cases hc; exact hnil 0 false rfl ⟨e,ht⟩ (fun h=>by cases h) rfl
   ·cases hc; exact hnil 0 true rfl ⟨e,ht⟩ (fun h=>by cases h) rfl
   ·cases hc
  ·rename_i e ht
   split at hc
   ·cases hc; exact hnil 1 false rfl ⟨e,ht⟩ (fun h=>by cases h) rfl
   ·cases hc; exact hnil 1 true rfl ⟨e,ht⟩ (fun h=>by cases h) rfl
   ·cases hc
  ·rename_i e f ht
   split at hc
   ·cases hc; exact hnil 2 false rfl ⟨e,f,ht⟩ (fun h=>by cases h) rfl
   ·cases hc; exact hnil 2 true rfl ⟨e,f,ht⟩ (fun h=>by cases h) rfl
   ·cases hc
  ·rename_i e f g ht
   split at hc
   ·cases hc; exact hnil 3 false rfl ⟨e,f,g,ht⟩ (fun h=>by cases h) rfl
   ·cases hc; exact hnil 3 true rfl ⟨e,f,g,ht⟩ (fun h=>by cases h) rfl
   ·cases hc
  ·rename_i e ht
   split at hc
   ·rename_i hcst
    have hcst':isCst x=true∨isCst y=true:=by simpa using hcst
    split at hc
    ·cases hc; exact hnil 4 false rfl ⟨e,ht⟩ (fun _=>hcst') rfl
    ·cases hc; exact hnil 4 true rfl ⟨e,ht⟩ (fun _=>hcst') rfl
    ·cases hc
   ·cases hc
  ·cases hc
 case h_12 op' t x ho=>
  cases hc
  simp only [execU] at he
  obtain ⟨v,hv,he⟩:=Option.map_eq_some_iff.1 he
  cases he
  exact ok_un ho hs hv
 case h_13 src dst x ho=>
  split at hc
  ·rename_i k' k h1 h2
   cases hc
   simp only [execU] at he
   split at he
   ·rename_i kk n hx; cases he; exact Cm1 ho h1 h2 hs hx
   ·cases he
  ·rename_i e h1 h2
   split at hc
   ·rename_i h3
    cases hc
    simp only [execU] at he
    split at he
    ·rename_i b hx; cases he; exact Cm4 ho h1 h2 h3 hs hx
    ·cases he
   ·cases hc
  ·rename_i e h1 h2
   split at hc
   ·rename_i h3
    cases hc
    simp only [execU] at he
    split at he
    ·rename_i news m hsrc
     split at he
     ·rename_i hlen
      obtain ⟨ns,hns,he⟩:=Option.map_eq_some_iff.1 he
      cases he
      exact Co9 ho h1 h3 h2 hs hsrc hlen hns
     ·cases he
    ·cases he
   ·cases hc
  ·rename_i e e' h1 h2
   split at hc
   ·rename_i heq
    subst heq
    split at hc
    ·rename_i h3
     cases hc
     simp only [execU] at he
     split at he
     ·rename_i id n hx
      split at he
      ·rename_i T cs hid
       split at he
       ·rename_i hfit
        cases he
        obtain ⟨ns,hns⟩:=Option.isSome_iff_exists.1 hfit.2.2
        exact Cp0 ho h1 h3 hs hn hx hid hfit.1 hfit.2.1 hns
       ·cases he
      ·cases he
     ·cases he
    ·cases hc
   ·cases hc
  ·cases hc
 case h_14 f first cap ho=>
  cases hc
  simp only [execU,Option.some.injEq,Prod.mk.injEq] at he; obtain ⟨rfl,rfl⟩:=he
  exact B53 ho hs
 case h_15 t l c ho=>
  split at hc
  ·rename_i e ht
   split at hc
   rotate_left
   ·cases hc
   rename_i hna
   obtain ⟨z,hz,rfl⟩:=Option.map_eq_some_iff.1 hc
   simp only [execU] at he
   split at he
   ·rename_i l' c' hl hc'
    split at he
    ·rename_i h
     cases he
     exact Cn2 hna ho ht hz h.2.2.2.2.1 (by have:=h.2.2.2.2.2; omega) h.2.2.2.1 hs hn hl hc' h.1 h.2.1 h.2.2.1
    ·cases he
   ·cases he
  ·cases hc
 case h_16 t x lo hi mx ho=>
  split at hc
  ·rename_i e ht
   split at hc
   ·rename_i hinfo
    cases hc
    simp only [execU] at he
    split at he
    ·rename_i cs n hx
     split at he
     ·rename_i l h hlo hhi
      split at he
      ·rename_i hb
       cases he
       exact (Bn2 ho ht hinfo hs).1 cs n hx hlo hhi hb.1 hb.2.1 hb.2.2
      ·cases he
     ·cases he
    ·rename_i id off n es' hx
     split at he
     ·rename_i l h hlo hhi
      split at he
      ·rename_i hb
       obtain ⟨rfl,hb⟩:=hb
       cases he
       exact (Bn2 ho ht hinfo hs).2.1 id off n hx hlo hhi hb.1 hb.2.1 hb.2.2
      ·cases he
     ·cases he
    ·rename_i hx
     split at he
     ·rename_i l h hlo hhi
      split at he
      ·rename_i hb
       cases he
       exact (Bn2 ho ht hinfo hs).2.2 hx hlo hhi hb.1 hb.2
      ·cases he
     ·cases he
    ·cases he
   ·cases hc
  ·rename_i ht
   cases hc
   simp only [execU] at he
   split at he
   ·rename_i b hx
    split at he
    ·rename_i l h hlo hhi
     split at he
     ·rename_i hb
      cases he
      exact Cm6 ho ht hs hx hlo hhi hb.1 hb.2.1 hb.2.2
     ·cases he
    ·cases he
   ·cases he
  ·rename_i n e har
   split at hc
   ·split at hc
    ·rename_i hb
     cases hc
     simp only [execU] at he
     split at he
     ·rename_i id hx
      split at he
      ·rename_i T cs hid
       split at he
       ·rename_i hc2
        obtain ⟨rfl,hl⟩:=hc2
        cases he
        exact Co7 ho har hb.1 hb.2.1 hb.2.2 hs hx hid hl
       ·cases he
      ·cases he
     ·cases he
    ·cases hc
   ·cases hc
  ·cases hc
 case h_17 t x f ho=>
  split at hc
  ·rename_i fs ht
   obtain ⟨fd,hf,hc⟩:=Option.bind_eq_some_iff.1 hc
   split at hc
   ·cases hc
   ·rename_i hz
    cases hc
    simp only [execU] at he
    split at he
    ·rename_i cs hx; cases he; exact (ok_fa ho ht hf hz hs).1 cs hx
    ·rename_i id off hx; cases he; exact (ok_fa ho ht hf hz hs).2 id off hx
    ·cases he
  ·cases hc
 case h_18 t x f ho=>
  split at hc
  ·rename_i fs ht
   obtain ⟨fd,hf,hc⟩:=Option.bind_eq_some_iff.1 hc
   obtain ⟨k,hk,rfl⟩:=Option.map_eq_some_iff.1 hc
   simp only [execU] at he
   split at he
   ·rename_i cs hx
    obtain ⟨d',hp,he⟩:=Option.map_eq_some_iff.1 he
    cases he
    exact Cm2 ho ht hf hk hs hx hp
   ·cases he
  ·cases hc
 case h_19 t x i ho=>
  split at hc
  ·rename_i e ht
   split at hc
   ·cases hc
   ·rename_i hz
    cases hc
    simp only [execU] at he
    split at he
    ·rename_i j cs n hi hx
     split at he
     ·rename_i hj; cases he; exact (ok_ia ho ht hz hs hi hj.1).1 cs n hx hj.2
     ·cases he
    ·rename_i j id off n es' hi hx
     split at he
     ·rename_i hj; cases he; exact (ok_ia ho ht hz hs hi hj.1).2 id off n es' hx hj.2
     ·cases he
    ·cases he
  ·rename_i n e ht
   split at hc
   ·cases hc
   ·rename_i hz
    cases hc
    simp only [execU] at he
    split at he
    ·rename_i j id off hi hx
     split at he
     ·rename_i hj; cases he; exact (ok_fx ho ht hz hs hi hj.1 hj.2).2 id off hx
     ·cases he
    ·rename_i j cs hi hx
     split at he
     ·rename_i hj; cases he; exact (ok_fx ho ht hz hs hi hj.1 hj.2).1 cs hx
     ·cases he
    ·cases he
  ·cases hc
 case h_20 t x i ho=>
  split at hc
  ·rename_i ht
   cases hc
   simp only [execU] at he
   split at he
   ·rename_i j b hi hx
    split at he
    ·rename_i h0
     obtain ⟨c,hcc,he⟩:=Option.map_eq_some_iff.1 he
     cases he
     exact Cm5 ho ht hs hi h0 hx hcc
    ·cases he
   ·cases he
  ·cases hc
 case h_21 x i ho=>
  cases hc
  simp only [execU] at he
  split at he
  ·rename_i v hv
   cases he
   obtain ⟨ds,hx,hd⟩:=Bm9 hv
   exact Ce7 ho hs hx hd
  ·split at he
   ·rename_i ds hx
    obtain ⟨d',hd,he⟩:=Option.map_eq_some_iff.1 he
    cases he
    exact Cm7 ho hs hx hd
   ·cases he
 case h_22 c ho=>
  split at hc
  ·cases hc; simp [execU] at he
  ·cases hc; simp [execU] at he
  ·cases hc; simp [execU] at he
  ·rename_i hcal
   split at hc
   ·rename_i x t hargs ht
    split at hc
    ·rename_i e hu
     cases hc
     have h1:=(B52 ho hcal hargs ht hs).1 ⟨e,hu⟩
     simp only [execU] at he
     split at he
     ·rename_i cs n hx; cases he; exact h1.1 cs n hx
     ·rename_i id off n es' hx; cases he; exact h1.2.1 id off n es' hx
     ·rename_i n c' hx; cases he; exact h1.2.2 n c' hx
     ·cases he
    ·rename_i hu
     cases hc
     simp only [execU] at he
     split at he
     ·rename_i b hx; cases he; exact (B52 ho hcal hargs ht hs).2 hu b hx
     ·cases he
    ·rename_i kt et hu
     cases hc
     have h1:=Cn8 ho hcal hargs ht hu hs
     simp only [execU] at he
     split at he
     ·rename_i hx; cases he; exact h1.1 hx
     ·rename_i id hx
      split at he
      ·rename_i ck es hid; cases he; exact h1.2 id ck es hx hid
      ·cases he
     ·cases he
    ·cases hc
   ·cases hc
  ·rename_i hcal
   split at hc
   ·rename_i x y t t' hargs hty
    split at hc
    ·rename_i htt
     subst htt
     split at hc
     ·rename_i e ht
      obtain ⟨z,hz,hc⟩:=Option.bind_eq_some_iff.1 hc
      split at hc
      ·rename_i hzl
       cases hc
       simp only [execU] at he
       split at he
       ·rename_i old cs n news m hd hsr
        split at he
        ·rename_i h
         cases he
         exact Cn4 hzl.1 ho hcal hargs hty ht hz hzl.2 rfl rfl hs hn hd hsr h.1 h.2.1 h.2.2.1 h.2.2.2
        ·cases he
       ·cases he
      ·cases hc
     ·cases hc
    ·cases hc
   ·cases hc
  ·rename_i hcal
   split at hc
   ·rename_i x y t hargs hty
    split at hc
    ·rename_i e ht
     split at hc
     ·rename_i hce
      cases hc
      simp only [execU] at he
      split at he
      ·rename_i id off n es' news m hx hy
       split at he
       ·rename_i T cs hid
        split at he
        ·rename_i h
         obtain ⟨rfl,h⟩:=h
         cases he
         exact Co8 ho hcal hargs hty ht rfl hce hs hx hid hy h.1 h.2.1 h.2.2
        ·cases he
       ·cases he
      ·cases he
     ·cases hc
    ·cases hc
   ·cases hc
  ·rename_i hcal
   split at hc
   ·rename_i x y hargs
    cases hc
    simp only [execU] at he
    split at he
    ·rename_i k p k' q hx hy; cases he; exact ok_mm (mx:=false) ho hcal hargs hs hx hy
    ·cases he
   ·cases hc
  ·rename_i hcal
   split at hc
   ·rename_i x y hargs
    cases hc
    simp only [execU] at he
    split at he
    ·rename_i k p k' q hx hy; cases he; exact ok_mm (mx:=true) ho hcal hargs hs hx hy
    ·cases he
   ·cases hc
  ·cases hc
 case h_23 t r ho=>
  split at hc
  ·cases hc
   simp [execU] at he
   obtain ⟨rfl,rfl⟩:=he
   exact Cn6 ho hs hn
  ·cases hc
 case h_24 t x k ok ho=>
  split at hc
  ·rename_i kt et ht
   split at hc
   ·rename_i kd z hkd hz
    cases hc
    simp only [execU] at he
    split at he
    ·rename_i kv hk
     split at he
     ·rename_i hkey
      have h1:=Cn7 ho ht hkd hz hs hk hkey
      split at he
      ·rename_i hx; cases he; exact h1.1 hx
      ·rename_i id hx
       split at he
       ·rename_i ck es hid
        split at he
        ·rename_i p hf; cases he; exact h1.2 id ck es _ hx hid hf
        ·rename_i hf; cases he; exact h1.2 id ck es _ hx hid hf
        ·cases he
       ·cases he
      ·cases he
     ·cases he
    ·cases he
   ·cases hc
  ·cases hc
 case h_25 t x k ho=>
  split at hc
  ·rename_i kt et ht
   split at hc
   ·rename_i kd z hkd hz
    cases hc
    simp only [execU] at he
    split at he
    ·rename_i kv hk
     split at he
     ·rename_i hkey
      split at he
      ·rename_i id hx
       split at he
       ·rename_i ck es hid
        split at he
        ·rename_i p hf; cases he; exact (B55 ho ht hkd hz hs hk hkey hx hid hf).1 p rfl
        ·rename_i hf; cases he; exact (B55 ho ht hkd hz hs hk hkey hx hid hf).2 rfl
        ·cases he
       ·cases he
      ·cases he
     ·cases he
    ·cases he
   ·cases hc
  ·cases hc
 case h_26 t x st y ho=>
  cases hc
  simp only [execU] at he
  split at he
  ·rename_i id n hx hst
   split at he
   ·rename_i ck es hid
    split at he
    ·rename_i i hf; cases he; exact Co0 ho hs hx hst hid hf
    ·cases he
   ·cases he
  ·cases he
 case h_27 t x ho=>
  split at hc
  ·rename_i kt et ht
   cases hc
   simp only [execU] at he
   split at he
   ·rename_i hx; cases he; exact (B56 ho ht hs hn).1 hx
   ·rename_i id hx
    split at he
    ·rename_i ck es hid; cases he; exact (B56 ho ht hs hn).2 id ck es hx hid
    ·cases he
   ·cases he
  ·rename_i ht
   cases hc
   simp only [execU] at he
   split at he
   ·rename_i b hx; cases he; exact Co4 ho ht hs hn hx
   ·cases he
  ·cases hc
 case h_28 x isS ho=>
  split at hc
  ·cases hc; simp [execU] at he
  ·rename_i hS
   have hS':isS=true:=by simpa using hS
   subst hS'
   cases hc
   simp only [execU] at he
   split at he
   ·rename_i id hx
    split at he
    ·rename_i t pos hid
     split at he
     ·rename_i hp; cases he; exact (B58 (nid:=nid) ho hs hx hid).1 hp
     ·rename_i hp; cases he; exact (B58 (nid:=nid) ho hs hx hid).2 hp
    ·cases he
   ·cases he
 case h_29 x ho=>cases hc; simp [execU] at he
 case h_30 t x ho=>
  split at hc
  ·cases hc
  ·rename_i td hni ht
   cases hc
   simp [execU] at he; obtain ⟨rfl,rfl⟩:=he
   exact Co5 ho ht (fun ms e=>hni ms e) hs
  ·cases hc
 case h_31 x xt t ok ho=>
  split at hc
  ·cases hc
  ·rename_i td hni ht
   split at hc
   ·rename_i z hz
    cases hc
    have h1:=Co6 ho ht (fun ms e=>hni ms e) hz hs
    simp only [execU] at he
    split at he
    ·rename_i T' d' hx
     split at he
     ·rename_i hT; subst hT; cases he; exact h1.1 d' hx
     ·rename_i hT
      split at he
      ·rename_i hok; cases he; exact (h1.2 hok).1 T' d' hT hx
      ·cases he
    ·rename_i hx
     split at he
     ·rename_i hok; cases he; exact (h1.2 hok).2 hx
     ·cases he
    ·cases he
   ·cases hc
  ·cases hc
 case h_32 t x k y ho=>
  obtain ⟨kd,hkd,rfl⟩:=Option.map_eq_some_iff.1 hc
  exact hmup t x k y kd (.inl ho) hkd rfl
 case h_33 t x k y ho=>
  obtain ⟨kd,hkd,rfl⟩:=Option.map_eq_some_iff.1 hc
  exact hmup t x k y kd (.inr ho) hkd rfl
 case h_34=>cases hc
end Go.DD

/- What a function's body starts from, and what holds at its end. -/
namespace Go.DD
open Go.RowKit (Below)
def liftQ (C:Ctx) (Q:Exit→DS→Prop):Exit→Act→World→Prop:=fun e a w=>∃ s,Q e s∧Holds C s a w
def Ctx.F (C:Ctx):Fence:={ Fence.wide with round:=C.rd }
theorem A10 {C:Ctx} {f:FuncId} {args:Array Value} {w:World} {R:Ending→World→Prop} (h:Calls C.P f args w R):CallsIn C.F 0 C.P f args w R:=by
 have h1:CallsIn Fence.wide 0 C.P f args w R:=callsIn_wide.2 h
 cases hr:C.rd with
 | none=>
  have:C.F=Fence.wide:=by unfold Ctx.F; rw [hr]; rfl
  rw [this]; exact h1
 | some l=>
  have:C.F=Fence.wide.inRound l:=by unfold Ctx.F; rw [hr]; rfl
  rw [this]; exact CallsIn.inRound l h1
def DW (C:Ctx) (c:DC) (Q:Exit→DS→Prop) (s:DS):Prop:=
 ∀ code,compC C.P C.nt code=some c→∀ a w,Holds C s a w→code.wpIn C.F 0 C.P (liftQ C Q) a w
structure DF where
 code:DC
 res:List (Nat×Option (Option Nat))
 nt:Nat
 deriving Inhabited
def Aq7 (P:Program):ResultVar→Option (Nat×Option (Option Nat))
 | .tmp t=>some (t,none)
 | .cell a T=>(tkind P T).map fun k=>(a,some k)
def Ay2 (P:Program) (fn:Func):Option DF:=
 match fn.body with
 | some b=>match compC P fn.ntmps b,fn.results.toList.mapM (Aq7 P) with
  | some c,some r=>some { code:=c,res:=r,nt:=fn.ntmps }
  | _,_=>none
 | none=>none
def resD (s:DS):Nat×Option (Option Nat)→Option DV
 | (t,none)=>some (s.ev (.tmp t))
 | (t,some k)=>match s.ev (.tmp t) with
  | .pt id off=>match s.ho id with
   | some (.row _ cs)=>partD k (cs.drop off)
   | _=>none
  | _=>none
def resV (s:DS) (rs:List (Nat×Option (Option Nat))):Option DV:=
 match rs.mapM (resD s) with
 | some [d]=>some d
 | some ds=>some (.tup ds)
 | none=>none
def argF (ds:List DV) (t:Nat):DV:=(ds[t]?).getD .any
theorem B59 {C:Ctx} {U:Nat→Prop} {V:Nat→Option DObj} {β:Nat→Option Nat} {w:World} {us:List Value} {cs:List DV} (hl:us.length=cs.length)
  (hr:∀ (j:Nat) (u:Value) (d:DV),us[j]?=some u→cs[j]?=some d→WV C U V β w u d):WV C U V β w (.tuple us.toArray) (.tup cs):=by
 refine ⟨fun id hi=>?_,fun ha=>.tup us cs hl fun j u d hu hd=>(hr j u d hu hd).2.1 fun id hi=>ha id (by rw [DV.refs]; exact DV.refsL_mem (List.mem_of_getElem? hd) hi),TP.of_wv hl hr⟩
 rw [DV.refs] at hi
 obtain ⟨d,hd,hi⟩:=DV.mem_refsL hi
 obtain ⟨j,hj,rfl⟩:=List.mem_iff_getElem.1 hd
 exact (hr j us[j] _ (List.getElem?_eq_getElem (by omega)) (List.getElem?_eq_getElem hj)).1 id hi
section
variable {C:Ctx} {U:Nat→Prop} {s:DS} {β:Nat→Option Nat} {a:Act} {w:World}
theorem Bk1 (hs:HoldsB C U s β a w) {rv:ResultVar} {q:Nat×Option (Option Nat)} {d:DV} (hq:Aq7 C.P rv=some q) (hd:resD s q=some d) :
  ∃ x,(match rv with
   | .tmp t=>(pure (a.tmps.getD t undef):Sem Value)
   | .cell p t=>do loadVar t (← asAddr (a.tmps.getD p undef))).run C.P w=.ok x w∧WV C U (s.vw C) β w x d:=by
 cases rv with
 | tmp t=>
  simp [Aq7] at hq
  subst hq
  simp only [resD,Option.some.injEq] at hd
  subst hd
  exact ⟨_,rfl,hs.evw (.tmp t)⟩
 | cell p T=>
  obtain ⟨k,hk,rfl⟩:=Option.map_eq_some_iff.1 hq
  simp only [resD] at hd
  split at hd
  ·rename_i id off hp
   split at hd
   ·rename_i T' cs hrow
    have h1:Rel C.P w (alw C w β) β (a.tmps.getD p undef) (s.ev (.tmp p)):=hs.ev (.tmp p)
    rw [hp] at h1
    obtain ⟨b,e1,hb⟩:=Ai3 h1
    obtain ⟨c,hw,hl,_,hr⟩:=hs.row hb hrow
    obtain ⟨g1,g2⟩:=Ag7 hk ⟨b,off,none⟩ (c.toList.drop off) (Am9 hw)
    obtain ⟨p1,p2⟩:=As4 (C:=C) (U:=U) (V:=s.vw C) (w:=w) (β:=β) (us:=c.toList.drop off) (cs:=cs.drop off) (by simp; omega)
     (fun j u hu hj=>by
      have hj':off+j < cs.length:=by simp at hj; omega
      exact (hr (off+j) u _ (by simpa using hu) (List.getElem?_eq_getElem hj')).2)
     (fun j u d hu hd=>(hr (off+j) u d (by simpa using hu) (by simpa using hd)).1) hd
    cases k with
    | none=>
     obtain ⟨u,hu,hrel⟩:=p1 rfl
     exact ⟨u,by simp only [Sem.run_bind,e1,asAddr,Sem.run_pure,Result.andThen_ok]; exact g1 rfl u hu,hrel⟩
    | some n=>
     obtain ⟨hn,hrel⟩:=p2 n rfl
     exact ⟨_,by simp only [Sem.run_bind,e1,asAddr,Sem.run_pure,Result.andThen_ok]; exact g2 n rfl hn,hrel⟩
   ·cases hd
  ·cases hd
theorem Bd2 (hs:HoldsB C U s β a w):∀ (rvs:List ResultVar) (qs:List (Nat×Option (Option Nat))) (ds:List DV),rvs.mapM (Aq7 C.P)=some qs→qs.mapM (resD s)=some ds→
  ∃ vs:List Value,(rvs.mapM fun (rv:ResultVar)=>(match rv with
   | .tmp t=>(pure (a.tmps.getD t undef):Sem Value)
   | .cell p t=>do loadVar t (← asAddr (a.tmps.getD p undef)))).run C.P w=.ok vs w∧vs.length=ds.length∧∀ (j:Nat) (v:Value) (d:DV),vs[j]?=some v→ds[j]?=some d→WV C U (s.vw C) β w v d
 | [],qs,ds,h1,h2=>by
  simp at h1; subst h1; simp at h2; subst h2
  exact ⟨[],by simp,rfl,by simp⟩
 | rv :: rvs,qs,ds,h1,h2=>by
  simp only [List.mapM_cons,Option.bind_eq_bind,Option.bind_eq_some_iff,Option.pure_def] at h1
  obtain ⟨q,hq,qt,hqt,h1⟩:=h1
  cases h1
  simp only [List.mapM_cons,Option.bind_eq_bind,Option.bind_eq_some_iff,Option.pure_def] at h2
  obtain ⟨d,hd,dt,hdt,h2⟩:=h2
  cases h2
  obtain ⟨x,hx,hrel⟩:=Bk1 hs hq hd
  obtain ⟨vs,hvs,hl,hr⟩:=Bd2 hs rvs qt dt hqt hdt
  refine ⟨x :: vs,?_,by simp [hl],fun j v e hv he=>?_⟩
  ·simp only [List.mapM_cons,Sem.run_bind,hx,Result.andThen_ok,hvs,Sem.run_pure]
  ·cases j with
   | zero=>simp at hv he; subst hv he; exact hrel
   | succ j=>exact hr j v e (by simpa using hv) (by simpa using he)
theorem Ba1 (hs:HoldsB C U s β a w) {fn:Func} {qs:List (Nat×Option (Option Nat))} {d:DV} (hq:fn.results.toList.mapM (Aq7 C.P)=some qs) (hd:resV s qs=some d) :
  ∃ x,(results fn a.tmps).run C.P w=.ok x w∧WV C U (s.vw C) β w x d:=by
 unfold resV at hd
 cases hm:qs.mapM (resD s) with
 | none=>rw [hm] at hd; cases hd
 | some ds=>
  rw [hm] at hd
  obtain ⟨vs,hvs,hl,hr⟩:=Bd2 hs fn.results.toList qs ds hq hm
  have hrun:(results fn a.tmps).run C.P w=.ok (if h:vs.toArray.size=1 then vs.toArray[0] else .tuple vs.toArray) w:=by
   unfold results
   rw [Array.mapM_eq_mapM_toList]
   simp only [Sem.run_bind,Sem.run_map]
   erw [hvs]
   simp only [Result.andThen_ok,Sem.run_pure]
  refine ⟨_,hrun,?_⟩
  clear hm hvs hrun
  match ds,hl,hd,hr with
  | [e],hl,hd,hr=>
   simp at hd
   subst hd
   match vs,hl with
   | [v],_=>exact hr 0 v e rfl rfl
  | [],hl,hd,hr=>
   simp at hd; subst hd
   rw [dif_neg (by simp at hl; simp [hl])]
   exact B59 hl hr
  | e :: e' :: es,hl,hd,hr=>
   simp at hd; subst hd
   rw [dif_neg (by simp; simp at hl; omega)]
   exact B59 hl hr
theorem HoldsB.shut {tmps:Array Value} {d:Deferred} {l:List Deferred} {D:Nat} (hs:HoldsB C U s β ⟨tmps,d :: l⟩ w) (hd:d = { target:=.collected D,args:=#[] })
  (hD:w.heap[D]?=some (.deferred (some []))) (h0:C.w0.heap.size≤D) (hn:∀ id,β id≠some D):HoldsB C U s β ⟨tmps,l⟩ (w.putObj D (.deferred none)):=by
 have hDlt:D < w.heap.size:=(Array.getElem?_eq_some_iff.1 hD).1
 have hoth:∀ b,b≠D→(w.putObj D (.deferred none)).heap[b]?=w.heap[b]?:=fun b hb=>World.putObj_heap_other hb
 have hcell:∀ (b:Nat),(∃ c T r,w.heap[b]?=some (Obj.cells c T r))→(w.putObj D (.deferred none)).heap[b]?=w.heap[b]?:=fun b ⟨c,T,r,hc⟩=>hoth b (fun e=>by rw [e,hD] at hc; cases hc)
 have hown:∀ id b,β id=some b→(w.putObj D (.deferred none)).heap[b]?=w.heap[b]?:=fun id b hb=>hoth b (fun e=>hn id (e ▸ hb))
 have hrel:∀ x d,WV C U (s.vw C) β w x d→WV C U (s.vw C) β (w.putObj D (.deferred none)) x d:=fun x d ⟨g1,g2,g3⟩=>
  ⟨g1,fun ha=>(g2 ha).mono (fun b ⟨h1,h2,h3⟩=>⟨⟨h1,by simpa using h2,h3⟩,hcell b⟩) fun id _ b hb=>⟨hb,SameShape.of_eq (hown id b hb)⟩,g3⟩
 have hbel:=hs.hh.bel
 have hnd:d∉l.filter A49∧(l.filter A49).Nodup:=by
  have:=hs.df.nodup
  rw [List.filter_cons_of_pos (by rw [hd]; rfl)] at this
  exact List.nodup_cons.1 this
 refine ⟨⟨hs.hh.ok,⟨hbel.os,hbel.tape,hbel.output,by simpa using hbel.size,fun k hk1 hk2=>(hoth k (by omega)).trans (hbel.block k hk1 hk2)⟩,fun id b hb=>⟨(hs.hh.bge id b hb).1,by simpa using hs.hh.lt hb⟩,hs.hh.inj,hs.hh.fr,fun id o ho=>?_⟩,
  ⟨hnd.2,fun d' hd'=>?_,fun D' hD'=>?_,fun D' hD'=>hs.df.apart D' (by simp [hD'])⟩,hs.sz,fun t=>hrel _ _ (hs.sl t),fun x d hx=>hrel _ _ (hs.gh x d hx),hs.yd⟩
 ·exact (hs.hh.hp id o ho).keep rfl (hown id) hrel
 ·rcases hs.df.own d' (by simp [hd']) with ⟨D',e,h1,h2,h3⟩ | hq
  ·refine .inl ⟨D',e,(hoth D' fun he=>?_).trans h1,h2,h3⟩
   subst he
   exact hnd.1 (List.mem_filter.2 ⟨by rw [hd,← e]; exact hd',by rw [hd]; rfl⟩)
  ·exact .inr hq
 ·obtain ⟨D2,e,h1,h2,h3⟩:=hs.df.out D' hD'
  refine ⟨D2,e,(hoth D2 fun he=>?_).trans h1,h2,h3⟩
  subst he
  simp only [Deferred.mk.injEq,Target.collected.injEq,and_true] at e
  subst e
  exact hs.df.apart D' (by rw [hd]; simp) hD'
theorem A11 {fn:Func} {qs:List (Nat×Option (Option Nat))} {d:DV} {R:Ending→World→Prop} (hq:fn.results.toList.mapM (Aq7 C.P)=some qs) (hd:resV s qs=some d) (tmps:Array Value)
  (hR:∀ v w',HoldsB C U s β ⟨tmps,[]⟩ w'→WV C U (s.vw C) β w' v d→R (.returned v) w'):∀ (l:List Deferred) (w:World),HoldsB C U s β ⟨tmps,l⟩ w→LeavesInM Fence.wide 0 C.P fn tmps R l .returning w
 | [],w,hs=>by
  obtain ⟨x,hx,hr⟩:=Ba1 hs hq hd
  exact ⟨x,hx,hR x w hs hr⟩
 | d' :: l,w,hs=>by
  rcases hs.df.own d' (by simp) with ⟨D,e,h1,h2,h3⟩ | ⟨g,caps,hqf,rfl⟩
  ·exact ⟨by simp,.inl ⟨D,_,by rw [e],run_takeDeferred h1,A11 hq hd tmps hR l _ (hs.shut e h1 h2 h3)⟩⟩
  ·obtain ⟨k1,k2⟩:=By6 hqf caps w
   refine ⟨by simp,.inr ⟨fun h=>by simp [Fence.wide] at h,.func g,caps,g,caps,rfl,k1,fun _ _=>trivial,k2.mono ?_⟩⟩
   rintro e u' w' ⟨rfl,⟨v,rfl⟩,rfl⟩
   exact A11 hq hd tmps hR l _ ⟨hs.hh,hs.df.tail rfl,hs.sz,hs.sl,hs.gh,hs.yd⟩
theorem A54 {ho:Nat→Option DObj} {nx:Nat} {args:List DV} {vs:List Value}
  (hh:HH C U (vwF C.Y ho) β w) (hX:∀ x d,C.X x d∨GLV x d→WV C U (vwF C.Y ho) β w x d) (hy:∀ id o,C.Y id=some o→ho id=none) (hM:∀ D,C.M D→Mark C β w { target:=.collected D,args:=#[] }) (hn:args.length≤C.nt) (hl:vs.length=args.length)
  (hrel:∀ (j:Nat) (v:Value) (d:DV),vs[j]?=some v→args[j]?=some d→WV C U (vwF C.Y ho) β w v d) :
  HoldsB C U ⟨argF args,ho,nx⟩ β { tmps:=vs.toArray ++ Array.replicate (C.nt - vs.toArray.size) undef,defers:=[] } w:=by
 refine ⟨hh,⟨List.nodup_nil,(fun d hd=>by cases hd),hM,(fun D hd=>by cases hd)⟩,by simp; omega,fun t=>?_,hX,hy⟩
 simp only [argF]
 cases hd:args[t]? with
 | none=>exact WV.any
 | some d=>
  have htl:t < vs.length:=by have:=(List.getElem?_eq_some_iff.1 hd).1; omega
  have hv:(vs.toArray ++ Array.replicate (C.nt - vs.toArray.size) undef).getD t undef=vs[t]:=by
   simp [Array.getElem?_append,htl]
  rw [hv]
  simp only [Option.getD_some]
  exact hrel t vs[t] d (List.getElem?_eq_getElem htl) hd
end
end Go.DD

/- Calls: where they stand, in the caller's own memory; or by contract, on immutable arguments. -/
namespace Go.DD
open Go.RowKit (Below)
theorem Av1 {cs:List DV} (h:DV.refsL cs=[]) {d:DV} (hd:d∈cs):d.refs=[]:=by
 cases hr:d.refs with
 | nil=>rfl
 | cons i l=>have:=DV.refsL_mem hd (id:=i) (by rw [hr]; simp); rw [h] at this; cases this
theorem A12 {P:Program} {w:World} {al:Nat→Prop} {β:Nat→Option Nat} {x:Value} {d:DV} (h:Rel P w al β x d) (hd:d.refs=[]):RelI w al x d:=by
 induction h with
 | imm x d h=>exact h
 | agg vs cs hl ho _ ih=>exact .agg vs cs hl ho fun j u d hu he=>ih j u d hu he (Av1 (by simpa [DV.refs] using hd) (List.mem_of_getElem? he))
 | tup vs cs hl _ ih=>exact .tup vs cs hl fun j u d hu he=>ih j u d hu he (Av1 (by simpa [DV.refs] using hd) (List.mem_of_getElem? he))
 | fn f us vs cs hl _ ih=>exact .fn f us vs cs hl fun j u d hu he=>ih j u d hu he (Av1 (by simpa [DV.refs] using hd) (List.mem_of_getElem? he))
 | ifc T u d _ ih=>exact .ifc T u d (ih (by simpa [DV.refs] using hd))
 | ms0 id es=>simp [DV.refs] at hd
 | ms id off n es b cap c T hβ hw hn hm hcap=>simp [DV.refs] at hd
 | pt id off b hβ=>simp [DV.refs] at hd
 | mp id b hβ=>simp [DV.refs] at hd
 | yl id b hβ=>simp [DV.refs] at hd
inductive Plain:DV→Prop
 | any:Plain .any
 | v (x:Value):Plain (.v x)
 | agg (cs:List DV) (h:∀ d∈cs,Plain d):Plain (.agg cs)
 | tup (cs:List DV) (h:∀ d∈cs,Plain d):Plain (.tup cs)
theorem Bk2 {w w':World} {al al':Nat→Prop} {x:Value} {d:DV} (h:RelI w al x d) (hp:Plain d):RelI w' al' x d:=by
 induction h with
 | any x=>exact .any x
 | v x=>exact .v x
 | agg vs cs hl ho _ ih=>cases hp with | agg _ hp=>exact .agg vs cs hl ho fun j u d hu hd=>ih j u d hu hd (hp d (List.mem_of_getElem? hd))
 | tup vs cs hl _ ih=>cases hp with | tup _ hp=>exact .tup vs cs hl fun j u d hu hd=>ih j u d hu hd (hp d (List.mem_of_getElem? hd))
 | sl0 a cap=>cases hp
 | sl ad n cap us cs hl hn ha ho hc _ ih=>cases hp
 | ia ad us cs hl ha ho hc _ ih=>cases hp
 | fn f us vs cs hl _ ih=>cases hp
 | ifc T u d _ ih=>cases hp
def DV.flat:DV→Bool
 | .any=>true
 | .v _=>true
 | .sl _ _=>true
 | .ia _=>true
 | _=>false
theorem Ap2 {d:DV} (h:d.flat=true):d.refs=[]:=by
 cases d <;> first | rfl | (simp [DV.flat] at h)
def rzL (f:DV→Option DV) (cs:List DV):Option (List DV):=if cs.all DV.flat then some cs else cs.mapM f
def rz (ho:Nat→Option DObj):Nat→DV→Option DV
 | 0,d=>if d.flat then some d else none
 | k+1,d=>match d with
  | .agg cs=>(rzL (rz ho k) cs).map .agg
  | .tup cs=>(rzL (rz ho k) cs).map .tup
  | .fn f cs=>(rzL (rz ho k) cs).map (.fn f)
  | .ifc T d=>(rz ho k d).map (.ifc T)
  | .ms id off n es=>match ho id with
   | some (.row _ cs)=>if off+n*es≤cs.length then (rzL (rz ho k) ((cs.drop off).take (n*es))).map fun l=>.sl l n else none
   | _=>none
  | .pt id off=>match ho id with
   | some (.row _ cs)=>(rzL (rz ho k) (cs.drop off)).map .ia
   | _=>none
  | .mp _=>none
  | .yl _=>none
  | d=>some d
theorem As5 {f:DV→Option DV} {cs l:List DV} (h:rzL f cs=some l):l.length=cs.length∧∀ (j:Nat) (c d:DV),cs[j]?=some c→l[j]?=some d→(c.flat=true∧d=c)∨f c=some d:=by
 unfold rzL at h
 split at h
 ·rename_i hall
  cases h
  refine ⟨rfl,fun j c d hc hd=>.inl ?_⟩
  rw [hc] at hd
  cases hd
  exact ⟨List.all_eq_true.1 hall c (List.mem_of_getElem? hc),rfl⟩
 ·obtain ⟨h1,h2⟩:=mapM_some h
  exact ⟨h1,fun j c d hc hd=>.inr (h2 j c d hc hd)⟩
theorem Bz5 {ho:Nat→Option DObj} : ∀ (k:Nat) (d d':DV),rz ho k d=some d'→∀ id∈d.refs,(ho id).isSome=true:=by
 intro k
 induction k with
 | zero=>
  intro d d' h id hi
  simp only [rz] at h
  split at h
  ·rename_i hf; rw [Ap2 hf] at hi; cases hi
  ·cases h
 | succ k ih=>
  intro d d' h id hi
  have hlist:∀ cs l,rzL (rz ho k) cs=some l→∀ id∈DV.refsL cs,(ho id).isSome=true:=by
   intro cs l hz id hi
   obtain ⟨c,hc,hi⟩:=DV.mem_refsL hi
   obtain ⟨j,hj,rfl⟩:=List.mem_iff_getElem.1 hc
   obtain ⟨h1,h2⟩:=As5 hz
   rcases h2 j cs[j] (l[j]'(by omega)) (List.getElem?_eq_getElem hj) (List.getElem?_eq_getElem (by omega)) with ⟨hf,_⟩ | hr
   ·rw [Ap2 hf] at hi; cases hi
   ·exact ih _ _ hr id hi
  cases d with
  | agg cs=>obtain ⟨l,hz,_⟩:=Option.map_eq_some_iff.1 h; exact hlist cs l hz id (by simpa [DV.refs] using hi)
  | tup cs=>obtain ⟨l,hz,_⟩:=Option.map_eq_some_iff.1 h; exact hlist cs l hz id (by simpa [DV.refs] using hi)
  | fn f cs=>obtain ⟨l,hz,_⟩:=Option.map_eq_some_iff.1 h; exact hlist cs l hz id (by simpa [DV.refs] using hi)
  | ifc T d=>obtain ⟨e,hz,_⟩:=Option.map_eq_some_iff.1 h; exact ih _ _ hz id (by simpa [DV.refs] using hi)
  | ms id' off n es=>
   simp only [rz] at h
   obtain rfl:id=id':=by simpa [DV.refs] using hi
   split at h
   ·rename_i hrow; rw [hrow]; rfl
   ·cases h
  | pt id' off=>
   simp only [rz] at h
   obtain rfl:id=id':=by simpa [DV.refs] using hi
   split at h
   ·rename_i hrow; rw [hrow]; rfl
   ·cases h
  | mp id=>simp [rz] at h
  | yl id=>simp [rz] at h
  | any=>simp [DV.refs] at hi
  | v x=>simp [DV.refs] at hi
  | sl cs n=>simp [DV.refs] at hi
  | ia cs=>simp [DV.refs] at hi
def frz (C:Ctx) (w:World) (b:Nat):Prop:=(C.S b∨C.w0.heap.size≤b∨C.G b)∧b < w.heap.size
section
variable {C:Ctx} {U:Nat→Prop} {V ho:Nat→Option DObj} {β:Nat→Option Nat} {w:World}
theorem B60 (hh:HH C U V β w) (hV:∀ id o,ho id=some o→V id=some o) (A I:Nat→Prop) (hA:∀ b,alw C w β b→A b) (hI:∀ id b,I id→(ho id).isSome=true→β id=some b→A b)
  (hcl:∀ id T cs,I id→ho id=some (.row T cs)→∀ j∈DV.refsL cs,I j):∀ (k:Nat) (x:Value) (d d':DV),(∀ id∈d.refs,I id)→WV C U V β w x d→rz ho k d=some d'→RelI w A x d':=by
 have hflat:∀ (x:Value) (d:DV),d.flat=true→WV C U V β w x d→RelI w A x d:=fun x d hf hr=>
  (A12 (hr.2.1 fun id hi=>by rw [Ap2 hf] at hi; cases hi) (Ap2 hf)).mono fun b hb=>⟨hA b hb,rfl⟩
 intro k
 induction k with
 | zero=>
  intro x d d' _ hr h
  simp only [rz] at h
  split at h
  ·cases h; exact hflat x d (by assumption) hr
  ·cases h
 | succ k ih=>
  have hall:∀ (x:Value) (c d:DV),(∀ id∈c.refs,I id)→WV C U V β w x c→((c.flat=true∧d=c)∨rz ho k c=some d)→RelI w A x d:=by
   intro x c d hc hr h
   rcases h with ⟨h1,rfl⟩ | h
   ·exact hflat x d h1 hr
   ·exact ih x c d hc hr h
  intro x d d' hid hw h
  have hal:=Bz5 _ _ _ h
  have hr:Rel C.P w (alw C w β) β x d:=hw.2.1 fun id hi=>by
   obtain ⟨o,ho'⟩:=Option.isSome_iff_exists.1 (hal id hi)
   rw [hV id o ho']; rfl
  have hpart:∀ {u:Value} {e:DV},Rel C.P w (alw C w β) β u e→(∀ id∈e.refs,id∈d.refs)→WV C U V β w u e:=fun hr he=>
   hh.wv hr fun id hi=>by
    obtain ⟨o,ho'⟩:=Option.isSome_iff_exists.1 (hal id (he id hi))
    rw [hV id o ho']; rfl
  have hlist:∀ (us:List Value) (cs l:List DV),(∀ c∈cs,∀ id∈c.refs,I id)→us.length=cs.length→(∀ (j:Nat) (u:Value) (d:DV),us[j]?=some u→cs[j]?=some d→WV C U V β w u d)→rzL (rz ho k) cs=some l→
    us.length=l.length∧∀ (j:Nat) (u:Value) (d:DV),us[j]?=some u→l[j]?=some d→RelI w A u d:=by
   intro us cs l hci hl hrel hz
   obtain ⟨h1,h2⟩:=As5 hz
   refine ⟨by omega,fun j u d hu hd=>?_⟩
   have hj:j < cs.length:=by have:=(List.getElem?_eq_some_iff.1 hd).1; omega
   exact hall u cs[j] d (hci _ (List.getElem_mem hj)) (hrel j u _ hu (List.getElem?_eq_getElem hj)) (h2 j _ d (List.getElem?_eq_getElem hj) hd)
  cases d with
  | agg cs=>
   simp only [rz] at h
   obtain ⟨l,hz,rfl⟩:=Option.map_eq_some_iff.1 h
   obtain ⟨vs,rfl,hl,h1,h2⟩:=Aq6 hr
   obtain ⟨h3,h4⟩:=hlist vs cs l (fun c hc id hi=>hid id (by simp only [DV.refs]; exact DV.refsL_mem hc hi)) hl (fun j u d hu hd=>hpart (h2 j u d hu hd) fun id hi=>by simp only [DV.refs]; exact DV.refsL_mem (List.mem_of_getElem? hd) hi) hz
   exact .agg vs l h3 h1 h4
  | tup cs=>
   simp only [rz] at h
   obtain ⟨l,hz,rfl⟩:=Option.map_eq_some_iff.1 h
   obtain ⟨vs,rfl,hl,h2⟩:=A96 hr
   obtain ⟨h3,h4⟩:=hlist vs cs l (fun c hc id hi=>hid id (by simp only [DV.refs]; exact DV.refsL_mem hc hi)) hl (fun j u d hu hd=>hpart (h2 j u d hu hd) fun id hi=>by simp only [DV.refs]; exact DV.refsL_mem (List.mem_of_getElem? hd) hi) hz
   exact .tup vs l h3 h4
  | fn f cs=>
   simp only [rz] at h
   obtain ⟨l,hz,rfl⟩:=Option.map_eq_some_iff.1 h
   obtain ⟨us,vs,rfl,hl,h2⟩:=A51 hr
   obtain ⟨h3,h4⟩:=hlist (Value.tuple us.toArray :: vs) cs l (fun c hc id hi=>hid id (by simp only [DV.refs]; exact DV.refsL_mem hc hi)) hl (fun j u d hu hd=>hpart (h2 j u d hu hd) fun id hi=>by simp only [DV.refs]; exact DV.refsL_mem (List.mem_of_getElem? hd) hi) hz
   exact .fn f us vs l h3 h4
  | ifc T d=>
   simp only [rz] at h
   obtain ⟨e,hz,rfl⟩:=Option.map_eq_some_iff.1 h
   obtain ⟨u,rfl,h2⟩:=Al1 hr
   exact .ifc T u e (ih u d e (fun id hi=>hid id (by simpa [DV.refs] using hi)) (hpart h2 fun id hi=>by simpa [DV.refs] using hi) hz)
  | ms id off n es=>
   simp only [rz] at h
   split at h
   ·rename_i T cs hrow
    split at h
    ·rename_i hfit
     obtain ⟨l,hz,rfl⟩:=Option.map_eq_some_iff.1 h
     rcases Al2 hr with ⟨rfl,rfl,rfl⟩ | ⟨b,cap,c,T',rfl,hb,hw,hn,hm,hcap⟩
     ·have:l=[]:=by
       have:=(As5 hz).1
       simpa using this
      subst this
      exact .sl0 _ _
     ·rcases hh.hp id _ (hV _ _ hrow) with ⟨h1,_⟩ | ⟨b',c',hb',hc',hl,_,hrel⟩
      ·rw [hb] at h1; cases h1
      ·rw [hb] at hb'; cases hb'
       rw [hw] at hc'
       injection hc' with hc'
       injection hc' with hcc _
       subst hcc
       have hI1:=hid id (by simp [DV.refs])
       obtain ⟨h3,h4⟩:=hlist ((c.toList.drop off).take (n*es)) _ l (fun e he i hi=>hcl id _ _ hI1 hrow i (DV.refsL_mem (List.mem_of_mem_drop (List.mem_of_mem_take he)) hi)) (by simp; omega) (fun j u d hu hd=>by
        rw [List.getElem?_take] at hu hd
        split at hu
        ·rename_i hj
         rw [if_pos hj] at hd
         exact (hrel (off+j) u d (by simpa using hu) (by simpa using hd)).1
        ·cases hu) hz
       refine .sl _ n cap ((c.toList.drop off).take (n*es)) l h3 hn (hI id b hI1 (by rw [hrow]; rfl) hb) (fun u hu=>?_) (fun j u hu=>?_) h4
       ·obtain ⟨j,hj,rfl⟩:=List.mem_iff_getElem.1 hu
        have hjl:off+j < cs.length:=by simp at hj; omega
        refine (hrel (off+j) _ cs[off+j] ?_ (List.getElem?_eq_getElem hjl)).2
        rw [List.getElem_take,List.getElem_drop]
        simp
       ·rw [List.getElem?_take] at hu
        split at hu
        ·exact Am9 hw j u hu
        ·cases hu
    ·cases h
   ·cases h
  | pt id off=>
   simp only [rz] at h
   split at h
   ·rename_i T cs hrow
    obtain ⟨l,hz,rfl⟩:=Option.map_eq_some_iff.1 h
    obtain ⟨b,rfl,hb⟩:=Ai3 hr
    rcases hh.hp id _ (hV _ _ hrow) with ⟨h1,_⟩ | ⟨b',c,hb',hw,hl,_,hrel⟩
    ·rw [hb] at h1; cases h1
    ·rw [hb] at hb'; cases hb'
     have hI1:=hid id (by simp [DV.refs])
     obtain ⟨h3,h4⟩:=hlist ((c.toList.drop off).take (cs.length - off)) (cs.drop off) l (fun e he i hi=>hcl id _ _ hI1 hrow i (DV.refsL_mem (List.mem_of_mem_drop he) hi)) (by simp; omega) (fun j u d hu hd=>by
      rw [List.getElem?_take] at hu
      split at hu
      ·exact (hrel (off+j) u d (by simpa using hu) (by simpa using hd)).1
      ·cases hu) hz
     refine .ia _ ((c.toList.drop off).take (cs.length - off)) l h3 (hI id b hI1 (by rw [hrow]; rfl) hb) (fun u hu=>?_) (fun j u hu=>?_) h4
     ·obtain ⟨j,hj,rfl⟩:=List.mem_iff_getElem.1 hu
      have hjl:off+j < cs.length:=by simp at hj; omega
      refine (hrel (off+j) _ cs[off+j] ?_ (List.getElem?_eq_getElem hjl)).2
      rw [List.getElem_take,List.getElem_drop]
      simp
     ·rw [List.getElem?_take] at hu
      split at hu
      ·exact Am9 hw j u hu
      ·cases hu
   ·cases h
  | mp id=>simp [rz] at h
  | yl id=>simp [rz] at h
  | any=>simp [rz] at h; subst h; exact .any x
  | v y=>simp [rz] at h; subst h; exact hflat _ _ rfl hw
  | sl cs n=>simp [rz] at h; subst h; exact hflat _ _ rfl hw
  | ia cs=>simp [rz] at h; subst h; exact hflat _ _ rfl hw
theorem rz_ok (hh:HH C U V β w) (hV:∀ id o,ho id=some o→V id=some o) (k:Nat) (x:Value) (d d':DV) (hr:WV C U V β w x d) (h:rz ho k d=some d'):RelI w (frz C w) x d':=
 B60 hh hV (frz C w) (fun _=>True) (fun _ hb=>⟨hb.1,hb.2.1⟩) (fun id b _ _ hb=>⟨.inr (hh.bge id b hb).1,(hh.bge id b hb).2⟩) (fun _ _ _ _ _ _ _=>trivial) k x d d' (fun _ _=>trivial) hr h
end
def DCall (P:Program) (f:FuncId) (args:List DV) (R:DV→Prop):Prop:=
 ∀ (w:World) (S:Nat→Prop) (vs:List Value),(∀ b,S b→b < w.heap.size)→vs.length=args.length→(∀ (j:Nat) (v:Value) (d:DV),vs[j]?=some v→args[j]?=some d→RelI w S v d)→(∀ x d,GLV x d→RelI w S x d)→
  Calls P f vs.toArray w fun e w'=>∃ v r,e=.returned v∧R r∧Below w.heap.size w w'∧RelI w' (fun b=>(S b∨w.heap.size≤b)∧b < w'.heap.size) v r
theorem DCall.mono {P:Program} {f:FuncId} {args:List DV} {R R':DV→Prop} (h:DCall P f args R) (hr:∀ d,R d→R' d):DCall P f args R':=
 fun w S vs h1 h2 h3 hg=>(h w S vs h1 h2 h3 hg).mono fun _ _ ⟨v,r,h4,h5,h6⟩=>⟨v,r,h4,hr r h5,h6⟩
def callI (P:Program) (f:FuncId) (ds:List DV) (s:DS) (K:DS→DV→Prop):Prop:=
 ∃ fn df,P.funcs[f]?=some fn∧Ay2 P fn=some df∧ds.length≤df.nt∧∀ (S G:Nat→Prop) (w0:World) (X:Value→DV→Prop) (M:Nat→Prop) (Y:Nat→Option DObj) (R:Nat→Prop),
  DW ⟨P,S,G,w0,df.nt,X,M,none,Y,R⟩ df.code (fun e s'=>(e=.normal∨e=.ret)∧∃ d,resV s' df.res=some d∧K ⟨s.sv,s'.ho,s'.nx⟩ d) ⟨argF ds,s.ho,s.nx⟩
def Ctx.inner (C:Ctx) (U:Nat→Prop) (V:Nat→Option DObj) (β:Nat→Option Nat) (l:List Deferred) (w:World) (nt:Nat) (rd:Option Nat) (hid:Nat→Option DObj) (R:Nat→Prop):Ctx:=
 ⟨C.P,C.S,C.G,C.w0,nt,fun x d=>WV C U V β w x d,fun D=>C.M D∨({ target:=.collected D,args:=#[] } : Deferred)∈l,rd,vwF C.Y hid,R⟩
theorem HH.ctx {C C':Ctx} {U:Nat→Prop} {V:Nat→Option DObj} {β:Nat→Option Nat} {w:World} (hP:C'.P=C.P) (hS:C'.S=C.S) (hG:C'.G=C.G) (h0:C'.w0=C.w0) (h:HH C U V β w) :
  HH C' U V β w∧∀ x d,WV C' U V β w x d↔WV C U V β w x d:=by
 obtain ⟨P,S,G,w0,nt,X,M,rd,Y,R⟩:=C
 obtain ⟨P',S',G',w0',nt',X',M',rd',Y',R'⟩:=C'
 simp only at hP hS hG h0
 subst hP hS hG h0
 have hw:∀ x d,WV ⟨P',S',G',w0',nt',X',M',rd',Y',R'⟩ U V β w x d↔WV ⟨P',S',G',w0',nt,X,M,rd,Y,R⟩ U V β w x d:=fun x d=>Iff.rfl
 refine ⟨⟨h.ok,⟨h.bel.os,h.bel.tape,h.bel.output,h.bel.size,h.bel.block⟩,h.bge,h.inj,h.fr,fun id o ho=>?_⟩,hw⟩
 have h1:=h.hp id o ho
 cases o <;> exact h1
theorem Bn9 (Y hid ho:Nat→Option DObj):vwF (vwF Y hid) ho=vwF Y (vwF hid ho):=by
 funext id
 unfold vwF
 cases ho id <;> rfl
section
variable {C:Ctx} {U:Nat→Prop} {s:DS} {β:Nat→Option Nat} {a:Act} {w:World}
theorem Bd3 {f:FuncId} {ds:List DV} {vs:List Value} {vis hid:Nat→Option DObj} {R:Nat→Prop} {K:DS→DV→Prop} (hs:HoldsB C U s β a w) (hU:∀ id,U id↔id < s.nx∧¬ R id) (hR:∀ id,R id→id < s.nx)
  (hsplit:s.ho=vwF hid vis) (hdis:∀ id o,hid id=some o→vis id=none) (hl:vs.length=ds.length)
  (hr:∀ (j:Nat) (v:Value) (d:DV),vs[j]?=some v→ds[j]?=some d→WV C U (s.vw C) β w v d) (hk:callI C.P f ds ⟨s.sv,vis,s.nx⟩ K) :
  Calls C.P f vs.toArray w fun e w'=>∃ v d ho' nx' β',e=.returned v∧K ⟨s.sv,ho',nx'⟩ d∧(∀ id o,hid id=some o→ho' id=none)∧(∀ id,R id→id < nx')∧
   HoldsB C (fun id=>id < nx'∧¬ R id) ⟨s.sv,vwF hid ho',nx'⟩ β' a w'∧WV C (fun id=>id < nx'∧¬ R id) ((⟨s.sv,vwF hid ho',nx'⟩:DS).vw C) β' w' v d:=by
 obtain ⟨fn,df,hf,hc,hn,h⟩:=hk
 have hUe:U=fun id=>id < s.nx∧¬ R id:=funext fun id=>propext (hU id)
 unfold Ay2 at hc
 split at hc
 rotate_left
 ·cases hc
 rename_i body hb
 split at hc
 rotate_left
 ·cases hc
 rename_i c r hcc hcr
 cases hc
 refine callsIn_wide.1 (callsIn_of_wp_marks (n:=0) hf hb trivial ?_)
 obtain ⟨C',hC'⟩:∃ C',C'=C.inner U (s.vw C) β a.defers w fn.ntmps none hid R:=⟨_,rfl⟩
 have hP:C'.P=C.P:=by rw [hC']; rfl
 have hview:∀ ho',vwF C'.Y ho'=vwF C.Y (vwF hid ho'):=fun ho'=>by rw [hC']; exact Bn9 _ _ _
 have hv0:vwF C'.Y vis=s.vw C:=by rw [hview,← hsplit]; rfl
 obtain ⟨hh1,hw1⟩:=HH.ctx (C':=C') (by rw [hC']; rfl) (by rw [hC']; rfl) (by rw [hC']; rfl) (by rw [hC']; rfl) hs.hh
 have hYs:∀ id o,C'.Y id=some o→vis id=none:=fun id o hy=>by
  rw [hC'] at hy
  simp only [Ctx.inner,vwF] at hy
  split at hy
  ·rename_i o' ho'; exact hdis id o' ho'
  ·have h1:=hs.yd id o hy
   rw [hsplit] at h1
   simp only [vwF] at h1
   split at h1
   ·cases h1
   ·assumption
 have hMk:∀ D,C'.M D→Mark C β w { target:=.collected D,args:=#[] }:=fun D hD=>by
  rw [hC'] at hD
  exact hD.elim (hs.df.out D) hs.df.ownC
 have hent:HoldsB C' (Us C' s.nx) ⟨argF ds,vis,s.nx⟩ β { tmps:=vs.toArray ++ Array.replicate (C'.nt - vs.toArray.size) undef,defers:=[] } w:=by
  have e1:Us C' s.nx=U:=by rw [hUe,hC']; rfl
  rw [e1]
  refine A54 (nx:=s.nx) (ho:=vis) (by rw [hv0]; exact hh1) (fun x d hx=>?_) hYs (fun D hD=>?_) (by rw [hC']; exact hn) hl (fun j v d hv hd=>by rw [hv0]; exact (hw1 _ _).2 (hr j v d hv hd))
  ·rw [hv0]
   rw [hC'] at hx
   rcases hx with hx | hx
   ·exact (hw1 _ _).2 hx
   ·exact (hw1 _ _).2 (hs.gh x d (.inr hx))
  ·obtain ⟨D',g1,g2,g3,g4⟩:=hMk D hD
   exact ⟨D',g1,g2,by rw [hC']; exact g3,g4⟩
 have hC2:C'=⟨C.P,C.S,C.G,C.w0,fn.ntmps,C'.X,C'.M,none,C'.Y,R⟩:=by rw [hC']; rfl
 have hrun:=h C.S C.G C.w0 C'.X C'.M C'.Y R
 rw [← hC2] at hrun
 have hnt:C'.nt=fn.ntmps:=by rw [hC']; rfl
 have hbody:=hrun body (by rw [hP,hnt]; exact hcc) _ w ⟨by rw [hC']; exact hR,β,hent⟩
 have hF:C'.F=Fence.wide:=by rw [hC']; rfl
 rw [hF,hP] at hbody
 rw [hnt] at hbody
 refine wpIn_mono hbody ?_
 have hfin:∀ (s':DS) (a':Act) (w':World),Holds C' s' a' w'→(∃ d,resV s' r=some d∧K ⟨s.sv,s'.ho,s'.nx⟩ d)→
   LeavesInM Fence.wide 0 C.P fn a'.tmps (fun e w'=>∃ v d ho' nx' β',e=.returned v∧K ⟨s.sv,ho',nx'⟩ d∧(∀ id o,hid id=some o→ho' id=none)∧(∀ id,R id→id < nx')∧
    HoldsB C (fun id=>id < nx'∧¬ R id) ⟨s.sv,vwF hid ho',nx'⟩ β' a w'∧WV C (fun id=>id < nx'∧¬ R id) ((⟨s.sv,vwF hid ho',nx'⟩:DS).vw C) β' w' v d) a'.defers .returning w':=by
  rintro s' ⟨tmps,l⟩ w' ⟨hR',β',hs'⟩ ⟨d,hd,hK⟩
  have:=A11 (C:=C') (R:=fun e w'=>∃ v d ho' nx' β',e=.returned v∧K ⟨s.sv,ho',nx'⟩ d∧(∀ id o,hid id=some o→ho' id=none)∧(∀ id,R id→id < nx')∧
    HoldsB C (fun id=>id < nx'∧¬ R id) ⟨s.sv,vwF hid ho',nx'⟩ β' a w'∧WV C (fun id=>id < nx'∧¬ R id) ((⟨s.sv,vwF hid ho',nx'⟩:DS).vw C) β' w' v d) (by rw [hP]; exact hcr) hd tmps (fun v w'' hs'' hrel=>by
   have eU:Us C' s'.nx=fun id=>id < s'.nx∧¬ R id:=by rw [hC']; rfl
   have eV:s'.vw C'=(⟨s.sv,vwF hid s'.ho,s'.nx⟩:DS).vw C:=hview s'.ho
   obtain ⟨hh2,hw2⟩:=HH.ctx (C:=C') (C':=C) (by rw [hC']; rfl) (by rw [hC']; rfl) (by rw [hC']; rfl) (by rw [hC']; rfl) hs''.hh
   rw [eU,eV] at hh2
   have hw3:∀ x d,WV C' (Us C' s'.nx) (s'.vw C') β' w'' x d→WV C (fun id=>id < s'.nx∧¬ R id) ((⟨s.sv,vwF hid s'.ho,s'.nx⟩:DS).vw C) β' w'' x d:=fun x d hx=>by
    have:=(hw2 x d).2 hx
    rwa [eU,eV] at this
   refine ⟨v,d,s'.ho,s'.nx,β',rfl,hK,fun id o ho'=>hs''.yd id o (by rw [hC']; simp only [Ctx.inner,vwF,ho']),fun id hid=>hR' id (by rw [hC']; exact hid),⟨hh2,⟨hs.df.nodup,fun d hd=>?_,fun D hD=>?_,hs.df.apart⟩,hs.sz,fun t=>?_,fun x d hx=>?_,fun id o hy=>?_⟩,hw3 _ _ hrel⟩
   ·rcases hs.df.own d hd with ⟨D,e,_⟩ | hq
    ·subst e
     obtain ⟨D',g1,g2,g3,g4⟩:=hs''.df.out D (by rw [hC']; exact .inr hd)
     exact .inl ⟨D',g1,g2,by rw [hC'] at g3; exact g3,g4⟩
    ·exact .inr hq
   ·obtain ⟨D',g1,g2,g3,g4⟩:=hs''.df.out D (by rw [hC']; exact .inl hD)
    exact ⟨D',g1,g2,by rw [hC'] at g3; exact g3,g4⟩
   ·exact hw3 _ _ (hs''.gh _ _ (.inl (by rw [hC']; exact hs.sl t)))
   ·exact hw3 _ _ (hs''.gh _ _ (.inl (by rw [hC']; exact hs.gh x d hx)))
   ·have h1:=hs.yd id o hy
    rw [hsplit] at h1
    have hhid:hid id=none:=by
     simp only [vwF] at h1
     split at h1
     ·cases h1
     ·exact h1
    have h2:=hs''.yd id o (by rw [hC']; simp only [Ctx.inner,vwF,hhid]; exact hy)
    simp only [vwF,h2,hhid]) l w' hs'
  rw [hP] at this
  exact this
 rintro e a' w' ⟨s',⟨h1,h2⟩,hs'⟩
 rcases h1 with rfl | rfl
 ·exact hfin s' a' w' hs' h2
 ·exact hfin s' a' w' hs' h2
theorem Bd4 (ho:Nat→Option DObj):vwF (fun _=>none) ho=ho:=by
 funext id; unfold vwF; cases ho id <;> rfl
theorem Bd5 {f:FuncId} {ds:List DV} {vs:List Value} {K:DS→DV→Prop} (hs:HoldsB C (Us C s.nx) s β a w) (hR:∀ id,C.R id→id < s.nx) (hl:vs.length=ds.length)
  (hr:∀ (j:Nat) (v:Value) (d:DV),vs[j]?=some v→ds[j]?=some d→WV C (Us C s.nx) (s.vw C) β w v d) (hk:callI C.P f ds s K) :
  Calls C.P f vs.toArray w fun e w'=>∃ v d s' β',e=.returned v∧K s' d∧(∀ id,C.R id→id < s'.nx)∧HoldsB C (Us C s'.nx) s' β' a w'∧WV C (Us C s'.nx) (s'.vw C) β' w' v d:=by
 refine (Bd3 (vis:=s.ho) (hid:=fun _=>none) (R:=C.R) hs (fun _=>Iff.rfl) hR (Bd4 _).symm (fun _ _ h=>by cases h) hl hr hk).mono ?_
 rintro e w' ⟨v,d,ho',nx',β',h1,h2,_,h3,h4,h5⟩
 rw [Bd4] at h4 h5
 exact ⟨v,d,⟨s.sv,ho',nx'⟩,β',h1,h2,h3,h4,h5⟩
def DS.drops (s:DS) (ids:List Nat):DS:={ s with ho:=fun id=>if ids.contains id then none else s.ho id }
def B61 (s:DS) (ids:List Nat) (ds:List DV):Bool:=
 (ids.all fun id=>match s.ho id with | some (.row _ cs)=>(DV.refsL cs).all ids.contains | _=>true) && (DV.refsL ds).all ids.contains
def callK (P:Program) (f:FuncId) (ds:List DV) (s:DS) (K:DS→DV→Prop):Prop:=
 (∃ R,(∀ x∈ds,x.refs=[])∧DCall P f ds R∧∀ d,R d→K s d)∨
 (∃ ds' R,ds.mapM (rz s.ho 5)=some ds'∧DCall P f ds' R∧∀ d,R d→Plain d∧K s d)∨
 (∃ ids ds' R,B61 s ids ds=true∧ds.mapM (rz s.ho 5)=some ds'∧DCall P f ds' R∧∀ d,R d→K (s.drops ids) d)∨
 callI P f ds s K
theorem Bz6 {V:Nat→Option DObj} {w':World} (hh:HH C U V β w) {x:Value} {d:DV} {S:Nat→Prop} (hS:∀ b,S b→alw C w β b) (h:RelI w' (fun b=>(S b∨w.heap.size≤b)∧b < w'.heap.size) x d):RelI w' (alw C w' β) x d:=by
 refine h.mono fun b hb=>⟨?_,rfl⟩
 rcases hb.1 with h1 | h1
 ·obtain ⟨h2,h3,h4⟩:=hS b h1
  exact ⟨h2,hb.2,h4⟩
 ·refine ⟨.inr (.inl (Nat.le_trans hh.bel.size h1)),hb.2,fun id hid=>?_⟩
  have:=hh.lt hid
  omega
theorem B62 (hs:HoldsB C U s β a w) (x:Value) (d:DV) (h:GLV x d):RelI w (alw C w β) x d:=by
 have h1:=hs.gh x d (.inr h)
 obtain ⟨g,cs,hg,rfl,rfl⟩:=h
 exact A12 (h1.2.1 fun id hi=>(by simp [DV.refs] at hi)) (by simp [DV.refs])
theorem Ba2 {f:FuncId} {ds:List DV} {vs:List Value} {R:DV→Prop} (hs:HoldsB C U s β a w) (hl:vs.length=ds.length)
  (hr:∀ (j:Nat) (v:Value) (d:DV),vs[j]?=some v→ds[j]?=some d→RelI w (alw C w β) v d) (hc:DCall C.P f ds R) :
  Calls C.P f vs.toArray w fun e w'=>∃ v d,e=.returned v∧R d∧HoldsB C U s β a w'∧WV C U (s.vw C) β w' v d:=by
 refine (hc w (alw C w β) vs (fun b hb=>hb.2.1) hl hr (B62 hs)).mono ?_
 rintro e w' ⟨v,r,rfl,hR,hb,hrel⟩
 exact ⟨v,r,rfl,hR,hs.keep hb,Al3 (Bz6 hs.hh (fun b hb=>hb) hrel)⟩
theorem HoldsB.drops (hs:HoldsB C U s β a w) (ids:List Nat) :
  ∃ β',HoldsB C U (s.drops ids) β' a w∧(∀ b,alw C w β b→alw C w β' b)∧∀ id∈ids,(s.ho id).isSome=true→∀ b,β id=some b→alw C w β' b:=by
 let β':Nat→Option Nat:=fun id=>if id∈ids∧(s.ho id).isSome=true then none else β id
 have hsome:∀ j b,β' j=some b→β j=some b∧¬ (j∈ids∧(s.ho j).isSome=true):=fun j b hb=>by
  by_cases hj:j∈ids∧(s.ho j).isSome=true
  ·simp only [β',if_pos hj] at hb; cases hb
  ·simp only [β',if_neg hj] at hb; exact ⟨hb,hj⟩
 refine ⟨β',?_,fun b ⟨h1,h2,h3⟩=>⟨h1,h2,fun j hj=>h3 j (hsome j b hj).1⟩,fun id hi ha b hb=>⟨.inr (hs.hh.bge id b hb).1,hs.hh.lt hb,fun j hj=>?_⟩⟩
 ·have hl:=hs.hh.less (U':=U) (β':=β') (V':=(s.drops ids).vw C) (fun _ h=>h) (fun id=>?_) (fun id=>?_)
  ·exact hs.carry rfl (fun id o hy=>by simp only [DS.drops]; rw [hs.yd id o hy]; simp) hl
  ·by_cases hi:id∈ids∧(s.ho id).isSome=true
   ·refine .inr ⟨by simp [β',hi],?_⟩
    have:=hs.apart hi.2
    simp [DS.vw,vwF,DS.drops,hi.1,this]
   ·exact .inl (by simp [β',hi])
  ·by_cases hi:id∈ids
   ·cases ho:s.ho id with
    | none=>exact .inl (by simp [DS.vw,vwF,DS.drops,ho])
    | some o=>
     have:=hs.apart (i:=id) (by rw [ho]; rfl)
     exact .inr (by simp [DS.vw,vwF,DS.drops,hi,this])
   ·exact .inl (by simp [DS.vw,vwF,DS.drops,hi])
 ·obtain ⟨h1,h2⟩:=hsome j b hj
  have:=hs.hh.inj j id b h1 hb
  subst this
  exact h2 ⟨hi,ha⟩
theorem Cf3 {f:FuncId} {ds:List DV} {vs:List Value} {K:DS→DV→Prop} (hs:HoldsB C (Us C s.nx) s β a w) (hR:∀ id,C.R id→id < s.nx) (hl:vs.length=ds.length)
  (hr:∀ (j:Nat) (v:Value) (d:DV),vs[j]?=some v→ds[j]?=some d→WV C (Us C s.nx) (s.vw C) β w v d) (hk:callK C.P f ds s K) :
  Calls C.P f vs.toArray w fun e w'=>∃ v d s' β',e=.returned v∧K s' d∧(∀ id,C.R id→id < s'.nx)∧HoldsB C (Us C s'.nx) s' β' a w'∧WV C (Us C s'.nx) (s'.vw C) β' w' v d:=by
 rcases hk with ⟨R,himm,hcall,hK⟩ | ⟨ds',R,hm,hcall,hK⟩ | ⟨ids,ds',R,hg,hm,hcall,hK⟩ | hcallI
 ·refine (Ba2 hs hl (fun j v d hv hd=>?_) hcall).mono ?_
  ·have h0:=himm d (List.mem_of_getElem? hd)
   exact A12 ((hr j v d hv hd).2.1 fun id hi=>by rw [h0] at hi; cases hi) h0
  ·rintro e w' ⟨v,d,rfl,hR',h1,h2⟩
   exact ⟨v,d,s,β,rfl,hK d hR',hR,h1,h2⟩
 ·obtain ⟨hml,hmr⟩:=mapM_some hm
  refine (hcall w (frz C w) vs (fun b hb=>hb.2) (by omega) (fun j v d hv hd=>?_) (fun x d hx=>(B62 hs x d hx).mono fun b hb=>⟨⟨hb.1,hb.2.1⟩,rfl⟩)).mono ?_
  ·have hj:j < ds.length:=by have:=(List.getElem?_eq_some_iff.1 hd).1; omega
   exact rz_ok hs.hh (fun _ _=>Ad9) 5 v ds[j] d (hr j v _ hv (List.getElem?_eq_getElem hj)) (hmr j _ d (List.getElem?_eq_getElem hj) hd)
  ·rintro e w' ⟨v,r,rfl,hR',hb,hrel⟩
   exact ⟨v,r,s,β,rfl,(hK r hR').2,hR,hs.keep hb,Al3 (Bk2 hrel (hK r hR').1)⟩
 ·obtain ⟨hml,hmr⟩:=mapM_some hm
  simp only [B61,Bool.and_eq_true,List.all_eq_true] at hg
  obtain ⟨hg1,hg2⟩:=hg
  obtain ⟨β',h1,h2,h3⟩:=hs.drops ids
  refine (Ba2 h1 (by omega) (fun j v d hv hd=>?_) hcall).mono ?_
  ·have hj:j < ds.length:=by have:=(List.getElem?_eq_some_iff.1 hd).1; omega
   have hz:=hmr j _ d (List.getElem?_eq_getElem hj) hd
   refine B60 hs.hh (fun _ _=>Ad9) (alw C w β') (fun id=>id∈ids) h2 (fun id b hi ha hb=>h3 id hi ha b hb) (fun id T cs hi ho k hk=>?_) 5 v ds[j] d (fun id hi=>?_) (hr j v _ hv (List.getElem?_eq_getElem hj)) hz
   ·have:=hg1 id hi
    rw [ho] at this
    have:=List.all_eq_true.1 this k hk
    simpa using this
   ·have:=hg2 id (DV.refsL_mem (List.getElem_mem hj) hi)
    simpa using this
  ·rintro e w' ⟨v,d,rfl,hR',h4,h5⟩
   exact ⟨v,d,s.drops ids,β',rfl,hK d hR',hR,h4,h5⟩
 ·exact Bd5 hs hR hl hr hcallI
end
end Go.DD

/- Rounds of a range over a function. -/
namespace Go.DD
open Go.RowKit (Below)
def zipF:List Nat→List DV→(Nat→DV)→Nat→DV
 | p :: ps,d :: ds,f=>zipF ps ds (fun u=>if p=u then d else f u)
 | _,_,f=>f
theorem Bo0 {W:Value→DV→Prop} {nt:Nat} : ∀ (ps:List Nat) (vs:List Value) (ds:List DV) (tmps:Array Value) (f:Nat→DV),vs.length=ps.length→ds.length=ps.length→
  (∀ t∈ps,t < nt)→tmps.size=nt→(∀ (j:Nat) (v:Value) (d:DV),vs[j]?=some v→ds[j]?=some d→W v d)→(∀ t,W (tmps.getD t undef) (f t))→
  ((ps.zip vs).foldl (fun (t:Array Value) (p:Nat×Value)=>t.setIfInBounds p.1 p.2) tmps).size=nt∧∀ t,W (((ps.zip vs).foldl (fun (t:Array Value) (p:Nat×Value)=>t.setIfInBounds p.1 p.2) tmps).getD t undef) (zipF ps ds f t)
 | [],_,_,tmps,f,_,_,_,hsz,_,hr=>⟨hsz,hr⟩
 | p :: ps,[],_,_,_,h,_,_,_,_,_=>by simp at h
 | p :: ps,_ :: _,[],_,_,_,h,_,_,_,_=>by simp at h
 | p :: ps,v :: vs,d :: ds,tmps,f,h1,h2,h3,hsz,hvd,hr=>by
  simp only [List.zip_cons_cons,List.foldl_cons,zipF]
  refine Bo0 ps vs ds _ _ (by simpa using h1) (by simpa using h2) (fun t ht=>h3 t (by simp [ht])) (by simpa using hsz) (fun j u e hu he=>hvd (j+1) u e (by simpa using hu) (by simpa using he)) fun t=>?_
  by_cases hpt:p=t
  ·subst hpt
   simp only [if_true]
   have hlt:p < tmps.size:=by rw [hsz]; exact h3 p (by simp)
   have:(tmps.setIfInBounds p v).getD p undef=v:=by simp [hlt]
   rw [this]; exact hvd 0 v d rfl rfl
  ·simp only [hpt,if_false]
   have:(tmps.setIfInBounds p v).getD t undef=tmps.getD t undef:=by simp [Array.getElem?_setIfInBounds_ne hpt]
   rw [this]; exact hr t
def A55 (P:Program) (id:Nat) (ds:List DV) (s:DS) (K:DS→DV→Prop):Prop:=
 ∃ lp,s.ho id=some (.loop lp)∧lp.st=.ready∧ds.length=lp.ps.length∧(∀ t∈lp.ps,t < lp.nt)∧∀ (S G:Nat→Prop) (w0:World) (X:Value→DV→Prop) (M:Nat→Prop) (Y:Nat→Option DObj) (R:Nat→Prop) (l:Nat),
  DW ⟨P,S,G,w0,lp.nt,X,M,some l,Y,R⟩ lp.asg (fun e s1=>e=.normal∧∃ lp1,s1.ho id=some (.loop lp1)∧lp1.st=.ready∧
   DW ⟨P,S,G,w0,lp.nt,X,M,some l,Y,R⟩ lp.body (fun e s2=>∃ lp2,s2.ho id=some (.loop lp2)∧match e with
    | .normal=>K ⟨s.sv,setH s2.ho id (some (.loop { lp2 with st:=.ready,pend:=none })),s2.nx⟩ (.v (.bool true))
    | .ret=>K ⟨s.sv,setH s2.ho id (some (.loop { lp2 with st:=.done,pend:=some .ret })),s2.nx⟩ (.v (.bool false))
    | .exit i=>K ⟨s.sv,setH s2.ho id (some (.loop { lp2 with st:=.done,pend:=some (.exit i) })),s2.nx⟩ (.v (.bool false))
    | _=>False) (s1.lay id (some (.loop { lp1 with st:=.busy })))) ⟨zipF lp.ps ds lp.sl.get,s.ho,s.nx⟩
section
variable {C:Ctx} {U:Nat→Prop} {s:DS} {β:Nat→Option Nat} {a:Act} {w:World}
theorem HoldsB.mark (hs:HoldsB C U s β a w) {id b:Nat} {lp:DLoop} {r:Loop} (hb:β id=some b) (ho:s.ho id=some (.loop lp)) (hr:w.heap[b]?=some (.loop r))
  (st:LoopState) (pend:Option Code):HoldsB C U (s.lay id (some (.loop { lp with st:=st,pend:=pend }))) β a (w.putObj b (.loop { r with state:=st,pending:=pend })):=by
 have hlt:b < w.heap.size:=(Array.getElem?_eq_some_iff.1 hr).1
 obtain ⟨b',r',hb',hr',q1,q2,q3,q4,q5,q6,hrel⟩:=hs.hh.hp id _ (Ad9 ho)
 rw [hb] at hb'; cases hb'
 rw [hr] at hr'
 cases hr'
 exact (hs.wrote (w':=w.putObj b (.loop { r with state:=st,pending:=pend })) 0 id b (.loop { lp with st:=st,pend:=pend }) hb (by rw [ho]; rfl) (fun k hk=>World.putObj_heap_other hk) (by simp) rfl rfl rfl
  (fun c T hc=>by rw [hr] at hc; cases hc) fun hrel'=>⟨b,_,hb,World.putObj_heap_same hlt,q1,q2,q3,q4,rfl,rfl,fun t=>hrel' _ _ (hrel t)⟩).1
theorem Bz7 {id b:Nat} {ds:List DV} {vs:List Value} {K:DS→DV→Prop} (hs:HoldsB C (Us C s.nx) s β a w) (hR:∀ id,C.R id→id < s.nx) (hb:β id=some b) (hl:vs.length=ds.length)
  (hr:∀ (j:Nat) (v:Value) (d:DV),vs[j]?=some v→ds[j]?=some d→WV C (Us C s.nx) (s.vw C) β w v d) (hk:A55 C.P id ds s K) :
  ∃ fn tmps assign body,(Instr.yield b vs.toArray).run C.P w=.ok (.round b fn tmps assign body) w∧
   RoundIn C.F 0 C.P b fn tmps assign body w fun e w'=>∃ v d s' β',e=.returned v∧K s' d∧(∀ id,C.R id→id < s'.nx)∧HoldsB C (Us C s'.nx) s' β' a w'∧WV C (Us C s'.nx) (s'.vw C) β' w' v d:=by
 obtain ⟨lp,ho,hst,hlen,hps,h⟩:=hk
 obtain ⟨b',r,hb',hrb,q1,q2,q3,q4,q5,q6,hrel⟩:=hs.hh.hp id _ (Ad9 ho)
 rw [hb] at hb'; cases hb'
 have hsz:vs.toArray.size=r.params.size:=by rw [List.size_toArray,hl,hlen,← q1,Array.length_toList]
 refine ⟨r.fn,_,r.assign,r.body,run_yield hrb hsz,roundIn_of_wpIn trivial ?_⟩
 obtain ⟨hz1,hz2⟩:=Bo0 (W:=WV C (Us C s.nx) (s.vw C) β w) lp.ps vs ds r.tmps lp.sl.get (by omega) hlen hps q2 hr hrel
 have htm:(r.params.zip vs.toArray).foldl (fun tmps (x:Nat×Value)=>tmps.setIfInBounds x.1 x.2) r.tmps=(lp.ps.zip vs).foldl (fun (t:Array Value) (p:Nat×Value)=>t.setIfInBounds p.1 p.2) r.tmps:=by
  rw [← Array.foldl_toList,Array.toList_zip,q1]
 obtain ⟨C',hC'⟩:∃ C',C'=C.inner (Us C s.nx) (s.vw C) β a.defers w lp.nt (some b) (fun _=>none) C.R:=⟨_,rfl⟩
 have hY:C'.Y=C.Y:=by rw [hC']; rfl
 have hP:C'.P=C.P:=by rw [hC']; rfl
 have hnt:C'.nt=lp.nt:=by rw [hC']; rfl
 have hUs:∀ nx,Us C' nx=Us C nx:=fun nx=>by rw [hC']; rfl
 have hvw:∀ s:DS,s.vw C'=s.vw C:=fun s=>by unfold DS.vw; rw [hY]
 have hto:∀ {U:Nat→Prop} {V:Nat→Option DObj} {β:Nat→Option Nat} {w:World},HH C U V β w→HH C' U V β w∧∀ x d,WV C' U V β w x d↔WV C U V β w x d:=fun h=>HH.ctx (by rw [hC']; rfl) (by rw [hC']; rfl) (by rw [hC']; rfl) (by rw [hC']; rfl) h
 have hfrom:∀ {U:Nat→Prop} {V:Nat→Option DObj} {β:Nat→Option Nat} {w:World},HH C' U V β w→HH C U V β w∧∀ x d,WV C U V β w x d↔WV C' U V β w x d:=fun h=>HH.ctx (by rw [hC']; rfl) (by rw [hC']; rfl) (by rw [hC']; rfl) (by rw [hC']; rfl) h
 have hmk:∀ {β:Nat→Option Nat} {w:World} {d:Deferred},Mark C' β w d↔Mark C β w d:=by rw [hC']; exact Iff.rfl
 have hent:HoldsB C' (Us C' s.nx) ⟨zipF lp.ps ds lp.sl.get,s.ho,s.nx⟩ β { tmps:=(lp.ps.zip vs).foldl (fun (t:Array Value) (p:Nat×Value)=>t.setIfInBounds p.1 p.2) r.tmps,defers:=[] } w:=by
  obtain ⟨g1,g2⟩:=hto hs.hh
  have e:(⟨zipF lp.ps ds lp.sl.get,s.ho,s.nx⟩:DS).vw C'=s.vw C:=hvw s
  refine ⟨by rw [hUs,e]; exact g1,⟨List.nodup_nil,(fun d hd=>by cases hd),(fun D hD=>?_),(fun D hD=>by cases hD)⟩,by rw [hnt]; exact hz1,fun t=>by rw [hUs,e]; exact (g2 _ _).2 (hz2 t),fun x d hx=>?_,by rw [hY]; exact hs.yd⟩
  ·rw [hC'] at hD
   exact hmk.2 (hD.elim (hs.df.out D) hs.df.ownC)
  ·rw [hUs,e]
   rw [hC'] at hx
   rcases hx with hx | hx
   ·exact (g2 _ _).2 hx
   ·exact (g2 _ _).2 (hs.gh x d (.inr hx))
 have hyl:WV C (Us C s.nx) (s.vw C) β w (.func (.yield b) #[] #[]) (.yl id):=hs.hh.wv (.yl id b hb) fun i hi=>by
  obtain rfl:i=id:=by simpa [DV.refs] using hi
  exact Ae5 (by rw [ho]; rfl)
 have hC2:C'=⟨C.P,C.S,C.G,C.w0,lp.nt,C'.X,C'.M,some b,C'.Y,C'.R⟩:=by rw [hC']; rfl
 have hX:∀ x d,WV C (Us C s.nx) (s.vw C) β w x d→C'.X x d:=fun x d hx=>by rw [hC']; exact hx
 have hRR:C'.R=C.R:=by rw [hC']; rfl
 have hrun:=h C.S C.G C.w0 C'.X C'.M C'.Y C'.R b
 rw [← hC2] at hrun
 have hasg:=hrun r.assign (by rw [hP,hnt]; exact q3) _ w ⟨by rw [hRR]; exact hR,β,hent⟩
 rw [← htm] at hasg
 have hF:C'.F=C.F.inRound b:=by rw [hC']; rfl
 rw [hF,hP] at hasg
 -- the record's block is where it was
 have hblock:∀ {s1:DS} {β1:Nat→Option Nat} {a1:Act} {w1:World} {o:DObj},HoldsB C' (Us C' s1.nx) s1 β1 a1 w1→s1.ho id=some o→β1 id=some b:=fun {s1 β1 a1 w1 o} hs1 ho1=>by
  have h1:=(hs1.gh _ _ (.inl (hX _ _ hyl))).2.1 fun i hi=>by
   obtain rfl:i=id:=by simpa [DV.refs] using hi
   exact Ae5 (by rw [ho1]; rfl)
  obtain ⟨b2,e,hb2⟩:=Bc3 h1
  cases e; exact hb2
 refine wpIn_mono (F:=C.F.inRound b) hasg ?_
 rintro e a1 w1 ⟨s1,⟨rfl,lp1,ho1,hst1,hbody⟩,hR1,β1,hs1⟩
 have hb1:=hblock hs1 ho1
 obtain ⟨b1',r1,hb1',hrb1,_,_,_,_,q51,q61,_⟩:=hs1.hh.hp id _ (Ad9 ho1)
 rw [hb1] at hb1'; cases hb1'
 refine ⟨_,run_beginRound hrb1 (by rw [q51,hst1]),?_⟩
 have hs1':=hs1.mark hb1 ho1 hrb1 .busy lp1.pend
 rw [← q61] at hs1'
 have hw1':({ lp1 with st:=LoopState.busy,pend:=r1.pending } : DLoop) = { lp1 with st:=.busy }:=by rw [q61]
 rw [hw1'] at hs1'
 have hbw:=hbody r.body (by rw [hP,hnt]; exact q4) a1 _ ⟨hR1,β1,hs1'⟩
 rw [hF,hP] at hbw
 refine wpIn_mono (F:=C.F.inRound b) hbw ?_
 rintro e a2 w2 ⟨s2,⟨lp2,ho2,hpost⟩,hR2,β2,hs2⟩
 have hb2:=hblock hs2 ho2
 obtain ⟨b2',r2,hb2',hrb2,_⟩:=hs2.hh.hp id _ (Ad9 ho2)
 rw [hb2] at hb2'; cases hb2'
 have fin:∀ (jump:Option Code) ,K ⟨s.sv,setH s2.ho id (some (.loop { lp2 with st:=if jump.isNone then .ready else .done,pend:=jump })),s2.nx⟩ (.v (.bool jump.isNone))→
   ∃ v w',(Instr.endRound b jump).run C.P w2=.ok v w'∧∃ v' d s' β',Ending.returned v=.returned v'∧K s' d∧(∀ id,C.R id→id < s'.nx)∧HoldsB C (Us C s'.nx) s' β' a w'∧WV C (Us C s'.nx) (s'.vw C) β' w' v' d:=fun jump hK=>by
  have hs3:=hs2.mark hb2 ho2 hrb2 (if jump.isNone then .ready else .done) jump
  obtain ⟨s3,hs3e⟩:∃ s3,s2.lay id (some (.loop { lp2 with st:=if jump.isNone then .ready else .done,pend:=jump }))=s3:=⟨_,rfl⟩
  rw [hs3e] at hs3
  have hn3:s3.nx=s2.nx:=by rw [← hs3e]; rfl
  have hK':K ⟨s.sv,s3.ho,s3.nx⟩ (.v (.bool jump.isNone)):=by rw [← hs3e]; exact hK
  obtain ⟨g1,g2⟩:=hfrom hs3.hh
  have e:s3.vw C'=(⟨s.sv,s3.ho,s3.nx⟩:DS).vw C:=hvw s3
  rw [hUs,e] at g1 g2
  have g3:∀ x d,WV C' (Us C' s2.nx) (s3.vw C') β2 _ x d→WV C (Us C s2.nx) ((⟨s.sv,s3.ho,s3.nx⟩:DS).vw C) β2 _ x d:=fun x d hx=>by
   rw [hUs,e] at hx; exact (g2 x d).2 hx
  refine ⟨_,_,run_endRound jump hrb2,_,_,⟨s.sv,s3.ho,s3.nx⟩,β2,rfl,hK',fun id hid=>by simp only [hn3]; exact hR2 id (by rw [hRR]; exact hid),?_,WV.v _⟩
  simp only [hn3]
  refine ⟨by rw [← hn3]; simpa only [hn3] using g1,⟨hs.df.nodup,fun d hd=>?_,fun D hD=>?_,hs.df.apart⟩,hs.sz,fun t=>?_,fun x d hx=>?_,fun i o hy=>?_⟩
  ·rcases hs.df.own d hd with ⟨D,e,_⟩ | hq
   ·subst e
    exact .inl (hmk.1 (hs3.df.out D (by rw [hC']; exact .inr hd)))
   ·exact .inr hq
  ·exact hmk.1 (hs3.df.out D (by rw [hC']; exact .inl hD))
  ·have:=g3 _ _ (hs3.gh _ _ (.inl (hX _ _ (hs.sl t))))
   simpa only [hn3] using this
  ·have:=g3 _ _ (hs3.gh _ _ (.inl (hX _ _ (hs.gh x d hx))))
   simpa only [hn3] using this
  ·exact hs3.yd i o (by rw [hY]; exact hy)
 cases e with
 | normal=>exact fin none hpost
 | ret=>exact fin (some .ret) hpost
 | exit i=>exact fin (some (.exit i)) hpost
 | _=>exact hpost.elim
end
end Go.DD

/- Regions in the text's order, and whole bodies. -/
namespace Go.DD
open Go.RowKit (Below)
def DS.wanted (s:DS):Option (Nat×Bool)→Option Bool
 | none=>some true
 | some (t,b)=>match s.sv t with
  | .v (.bool c)=>some (c == b)
  | .v (.tuple _)=>some false
  | _=>none
def stepR (P:Program) (r:DR) (s:DS) (K:DS→Prop):Prop:=
 match r.op with
 | .call f args=>Ac7 P f=true∧callK P f (args.map s.rv) s fun s' d=>K (s'.put r.dst d)
 | .cv tb x args=>match (s.ev x).tgt tb with
  | some (f,fr,cs)=>Ac7 P f=true∧callK P f (fr ++ args.map s.rv ++ cs) s fun s' d=>K (s'.put r.dst d)
  | none=>match (s.ev x).tgY tb with
   | some i=>A55 P i (args.map s.rv) s fun s' d=>K (s'.put r.dst d)
   | none=>False
 | .nxm k x=>match nxmL s k x with
  | some l=>∀ p∈l,K ((s.upd s.nx p.2).put r.dst p.1)
  | none=>False
 | op=>match exec s op with
  | some (d,s')=>K (s'.put r.dst d)
  | none=>False
def Aj3 (P:Program):List DR→DS→(DS→Prop)→Prop
 | [],s,K=>K s
 | r :: rest,s,K=>match s.wanted r.g with
  | some true=>stepR P r s fun s'=>Aj3 P rest s' K
  | some false=>Aj3 P rest (s.put r.dst (.v undef)) K
  | none=>False
theorem Ar8 {P:Program} {c:Call} : Ai1 P (.defer c)=none:=rfl
theorem Ae9 {P:Program} {f:FuncId} (h:Ac7 P f=true) (vs:Array Value) (w:World):(callFunc f vs).run P w=.ok (.enter f vs) w:=by
 unfold Ac7 at h
 split at h
 ·rename_i fn hf
  simp only [Bool.and_eq_true,bne_iff_ne,ne_eq] at h
  obtain ⟨h1,h2⟩:=h
  have h5:¬ fn.body=none:=by intro hb; rw [hb] at h1; cases h1
  simp [callFunc,hf,h2,h5]
 ·cases h
theorem Av2 {dr:Bool} {C:Ctx} {U:Nat→Prop} {s:DS} {β:Nat→Option Nat} {a:Act} {w:World} {ops:Array Oper} {o:Oper} {r:DR} {b:Bool} (hs:HoldsB C U s β a w) (hr:compR C.P C.nt dr ops o=some r) (hw:s.wanted r.g=some b) :
  Region.wanted o (yielded ops a.tmps)=b:=by
 unfold compR at hr
 split at hr
 rotate_left
 ·cases hr
 split at hr
 rotate_left
 ·cases hr
 rename_i hg
 cases hr
 split at hg
 ·rename_i hgd
  cases hg
  simp [DS.wanted] at hw
  simp [Region.wanted,hgd,← hw]
 ·rename_i j want hgd
  obtain ⟨t,ht,hg⟩:=Option.map_eq_some_iff.1 hg
  cases hg
  simp only [DS.wanted] at hw
  have h0:=hs.sl t
  split at hw
  ·rename_i c hc
   cases hw
   rw [hc] at h0
   have h2:=rel_v (h0.2.1 (fun id hi=>by simp [DV.refs] at hi))
   have h3:a.tmps[t]?=some (.bool c):=by
    cases hq:a.tmps[t]? with
    | none=>simp [hq,undef] at h2
    | some u=>simp [hq] at h2; rw [h2]
   simp [Region.wanted,hgd,yielded,ht,h3]
  ·rename_i vs hc
   cases hw
   rw [hc] at h0
   have h2:=rel_v (h0.2.1 (fun id hi=>by simp [DV.refs] at hi))
   have h3:∀ c,a.tmps[t]?≠some (.bool c):=by
    intro c hq
    simp [hq] at h2
   have h4:yielded ops a.tmps j=none:=by
    simp only [yielded,ht,Option.bind_some]
   simp [Region.wanted,hgd,h4]
  ·cases hw
theorem A13 {P:Program} {nt:Nat} {dr:Bool} {ops:Array Oper} {o:Oper} {r:DR} (h:compR P nt dr ops o=some r):r.dst=o.dst∧(∀ t,r.dst=some t→t < nt)∧r.op=(Ai1 P o.op).getD .bad:=by
 unfold compR at h
 split at h
 ·rename_i hd
  split at h
  ·cases h
   refine ⟨rfl,fun t ht=>?_,rfl⟩
   simp only at ht
   rw [ht] at hd
   simpa [dstOk] using hd
  ·cases h
 ·cases h
theorem Av3 {P:Program} {op:Op} {f:FuncId} {args:List Operand} (h:Ai1 P op=some (.call f args)):∃ c,op=.call c∧c.callee=.value (.func f)∧args=c.args.toList:=by
 unfold Ai1 at h
 split at h
 case h_22 c=>
  split at h
  ·rename_i f' hc; cases h; exact ⟨c,rfl,hc,rfl⟩
  ·cases h
  all_goals (exfalso; (repeat' split at h) <;> first | (cases h; done) | (simp [Option.bind_eq_some_iff] at h; done) | (obtain ⟨z,_,h⟩:=Option.bind_eq_some_iff.1 h; split at h <;> cases h))
 all_goals (exfalso; (repeat' split at h) <;> first | (cases h; done) | (simp [Option.bind_eq_some_iff] at h; done) | (obtain ⟨z,_,h⟩:=Option.bind_eq_some_iff.1 h; split at h <;> cases h))
theorem A56 {P:Program} {op:Op} {tb:Option (List (TypeId×FuncId))} {f:Operand} {args:List Operand} (h:Ai1 P op=some (.cv tb f args)):∃ c,op=.call c∧args=c.args.toList∧((tb=none∧c.callee=.value f)∨∃ name,tb=some (mthT P name)∧c.callee=.invoke f name):=by
 unfold Ai1 at h
 split at h
 case h_22 c=>
  split at h
  ·cases h
  ·rename_i f' _ hc; cases h; exact ⟨c,rfl,rfl,.inl ⟨rfl,hc⟩⟩
  ·rename_i x name hc; cases h; exact ⟨c,rfl,rfl,.inr ⟨name,rfl,hc⟩⟩
  all_goals (exfalso; (repeat' split at h) <;> first | (cases h; done) | (simp [Option.bind_eq_some_iff] at h; done) | (obtain ⟨z,_,h⟩:=Option.bind_eq_some_iff.1 h; split at h <;> cases h))
 all_goals (exfalso; (repeat' split at h) <;> first | (cases h; done) | (simp [Option.bind_eq_some_iff] at h; done) | (obtain ⟨z,_,h⟩:=Option.bind_eq_some_iff.1 h; split at h <;> cases h))
theorem Bk3 {P:Program} {op:Op} {k:Bool} {x:Operand} (h:Ai1 P op=some (.nxm k x)):op=if k then .entry x else .next x false:=by
 unfold Ai1 at h
 split at h
 case h_28 y isS=>
  split at h
  ·rename_i hS; subst hS; cases h; rfl
  ·cases h
 case h_29 y=>cases h; rfl
 all_goals (exfalso; (repeat' split at h) <;> first | (cases h; done) | (simp [Option.bind_eq_some_iff] at h; done) | (obtain ⟨z,_,h⟩:=Option.bind_eq_some_iff.1 h; split at h <;> cases h))
theorem Bk4 {P:Program} {w:World} {name:String} {T:TypeId} {f:FuncId} (h:mthF P name T=some f) (v:Value) (k:Nat):(method (k+1) T v name).run P w=.ok (f,v) w:=by
 unfold mthF at h
 split at h
 ·rename_i e hu
  split at h
  ·rename_i i hi
   split at h
   ·rename_i m hm
    split at h
    ·rename_i hp
     split at h
     ·rename_i f' hf
      cases h
      have hpath:m.path.toList=[]:=by
       have:=hp
       simp at this
       rw [this]
      unfold method
      simp only [Sem.run_bind,typeInfo,run_program,hi,Sem.run_pure,Result.andThen_ok,hm,hpath,follow,hf,receiverAt,run_underlying hu,Place.get]
     ·cases h
    ·cases h
   ·cases h
  ·cases h
 ·cases h
theorem B63:∀ {l:List (TypeId×FuncId)} {T:TypeId} {f:FuncId},lkT l T=some f→(T,f)∈l
 | [],_,_,h=>by cases h
 | p :: l,T,f,h=>by
  simp only [lkT] at h
  split at h
  ·rename_i e; cases h; subst e; simp
  ·exact List.mem_cons_of_mem _ (B63 h)
theorem Cf4 {P:Program} {name:String} {T:TypeId} {f:FuncId} (h:lkT (mthT P name) T=some f):mthF P name T=some f:=by
 have:=B63 h
 unfold mthT at this
 obtain ⟨T',_,hT⟩:=List.mem_filterMap.1 this
 obtain ⟨f',hf,e⟩:=Option.map_eq_some_iff.1 hT
 cases e; exact hf
theorem An7 {P:Program} {w:World} {name:String} {T:TypeId} {f:FuncId} (h:lkT (mthT P name) T=some f) (hc:Ac7 P f=true) (v:Value) (args:Array Value):(callMethod (.iface T v) name args).run P w=.ok (.enter f (#[v] ++ args)) w:=by
 have hm:=Bk4 (w:=w) (Cf4 h) v (P.types.size+99)
 have hd:P.types.size+Made.depth=P.types.size+99+1:=rfl
 unfold callMethod
 simp only [Sem.run_bind,run_program,Result.andThen_ok,hd,hm]
 exact Ae9 hc _ _
theorem A14 {a:Act} (args:Array Operand):args.map a.eval=(args.toList.map a.eval).toArray:=by apply Array.ext'; simp
structure HoldsS (C:Ctx) (s:DS) (β:Nat→Option Nat) (a:Act) (w:World):Prop where
 b:HoldsB C (Us C s.nx) s β a w
 r:∀ id,C.R id→id < s.nx
theorem Holds.of {C:Ctx} {s:DS} {β:Nat→Option Nat} {a:Act} {w:World} (h:HoldsS C s β a w):Holds C s a w:=⟨h.r,β,h.b⟩
theorem HoldsS.exec {C:Ctx} {s s':DS} {β:Nat→Option Nat} {a:Act} {w:World} {o:Oper} {d:DV} {op:DOp} (hs:HoldsS C s β a w)
  (hc:Ai1 C.P o.op=some op) (he:exec s op=some (d,s')):∃ nx w' β' x,(execOp a.eval o).run C.P w=.ok nx w'∧(nx=.value x∨(nx=.skip∧x=undef))∧HoldsS C s' β' a w'∧WV C (Us C s'.nx) (s'.vw C) β' w' x d:=by
 unfold Go.DD.exec at he
 split at he
 rotate_left
 ·cases he
 rename_i d' u hu
 cases he
 obtain ⟨nx,w',β',x,h1,h2,h3,h4⟩:=A09 hs.b (fun h=>by have:=h.1; omega) hc hu
 have hgrow:∀ id,Ux (Us C s.nx) s.nx u id→Us C (if u.new=true then s.nx+1 else s.nx) id:=fun id hi=>by
  have key:Un (Us C s.nx) s.nx id→Us C (s.nx+1) id:=fun h=>by
   rcases h with h | rfl
   ·exact ⟨by have:=h.1; omega,h.2⟩
   ·exact ⟨by omega,fun hr=>by have:=hs.r _ hr; omega⟩
  cases u <;> simp only [Upd.new,Bool.false_eq_true,if_false,if_true,Ux] at hi ⊢ <;> first | exact hi | exact key hi
 refine ⟨nx,w',β',x,h1,h2,⟨?_,fun id hr=>?_⟩,h4.grow hgrow⟩
 ·obtain ⟨g1,g2,g3,g4,g5,g6⟩:=h3.grow hgrow
  exact ⟨g1,g2,g3,g4,g5,g6⟩
 ·have:=hs.r id hr
  simp only
  split <;> omega
theorem Bz8 {dr:Bool} {C:Ctx} {s:DS} {β:Nat→Option Nat} {a:Act} {w:World} {ops:Array Oper} {o:Oper} {r:DR} {K:DS→Prop} {next:Act→World→Prop} {Q:Exit→Act→World→Prop} (hs:HoldsS C s β a w) (hr:compR C.P C.nt dr ops o=some r)
  (hk:stepR C.P r s K) (hnext:∀ s' β' a' w',HoldsS C s' β' a' w'→K s'→next a' w'):o.wpIn C.F 0 C.P a w next Q:=by
 obtain ⟨hd,hdlt,hop⟩:=A13 hr
 have hnd:∀ c,o.op≠.defer c:=fun c hc=>by
  rw [hc,Ar8] at hop
  simp [stepR,hop,exec,execU] at hk
 have hput:∀ (s':DS) (β':Nat→Option Nat) (w':World) (x:Value) (d:DV),HoldsS C s' β' a w'→WV C (Us C s'.nx) (s'.vw C) β' w' x d→K (s'.put r.dst d)→next (a.put o.dst x) w':=fun s' β' w' x d h1 h2 h3=>by
  rw [← hd]
  exact hnext _ β' _ w' ⟨by rw [DS.nx_put]; exact h1.b.put r.dst hdlt h2,by rw [DS.nx_put]; exact h1.r⟩ h3
 have hcallF:∀ f (vs:List Value) (ds:List DV),vs.length=ds.length→(∀ (j:Nat) (v:Value) (d:DV),vs[j]?=some v→ds[j]?=some d→WV C (Us C s.nx) (s.vw C) β w v d)→Ac7 C.P f=true→
   callK C.P f ds s (fun s' d=>K (s'.put r.dst d))→(execOp a.eval o).run C.P w=.ok (.enter f vs.toArray) w→o.wpIn C.F 0 C.P a w next Q:=by
  intro f vs ds hl hrel hcb hck hrun
  refine ⟨fun _ _=>trivial,?_⟩
  rw [Oper.semAt_plain _ _ _ hnd,hrun,Oper.uponIn_enter]
  refine ⟨fun h=>by simp [Ctx.F,Fence.wide] at h,A10 ((Cf3 hs.b hs.r hl hrel hck).mono ?_)⟩
  rintro e w' ⟨v,d,s',β',rfl,hK,hR',hh,hrel'⟩
  exact hput s' β' w' v d ⟨hh,hR'⟩ hrel' hK
 have hargs:∀ (args:List Operand) (j:Nat) (v:Value) (d:DV),(args.map a.eval)[j]?=some v→(args.map s.rv)[j]?=some d→WV C (Us C s.nx) (s.vw C) β w v d:=by
  intro args j v d hv hd
  simp only [List.getElem?_map,Option.map_eq_some_iff] at hv hd
  obtain ⟨x,hx,rfl⟩:=hv
  obtain ⟨y,hy,rfl⟩:=hd
  rw [hx] at hy; cases hy
  exact hs.b.rvw x
 cases hc:Ai1 C.P o.op with
 | none=>rw [hc] at hop; simp [stepR,hop,exec,execU] at hk
 | some op=>
  rw [hc] at hop
  simp only [Option.getD_some] at hop
  unfold stepR at hk
  rw [hop] at hk
  split at hk
  ·rename_i f args
   obtain ⟨c,ho,hcal,rfl⟩:=Av3 hc
   refine hcallF f (c.args.toList.map a.eval) (c.args.toList.map s.rv) (by simp) (hargs _) hk.1 hk.2 ?_
   simp [execOp,ho,resolve,hcal,Deferred.ofValue,Act.eval,invoke,Ae9 hk.1,A14]
  ·rename_i tb x args
   obtain ⟨c,ho,rfl,hcal⟩:=A56 hc
   split at hk
   ·rename_i f fr cs hx0
    rcases hcal with ⟨rfl,hcal⟩ | ⟨name,rfl,hcal⟩
    ·have hx:=Ay0 hx0
     simp only at hx
     have h1:=hs.b.ev x
     rw [hx] at h1
     obtain ⟨us,vs,e1,hl1,hl2,hrel1,hrel2⟩:=A97 h1
     refine hcallF _ (us ++ c.args.toList.map a.eval ++ vs) (fr ++ c.args.toList.map s.rv ++ cs) (by simp [hl1,hl2]) (Bc2 (by simp [hl1]) (Bc2 hl1 (fun j v d hv hd=>?_) (hargs _)) fun j v d hv hd=>?_) hk.1 hk.2 ?_
     ·exact hs.b.evp x (hrel1 _ v d hv hd) fun id hi=>by rw [hx,DV.refs,DV.refsL,DV.refs]; exact List.mem_append_left _ (DV.refsL_mem (List.mem_of_getElem? hd) hi)
     ·exact hs.b.evp x (hrel2 _ v d hv hd) fun id hi=>by rw [hx,DV.refs,DV.refsL]; exact List.mem_append_right _ (DV.refsL_mem (List.mem_of_getElem? hd) hi)
     ·have h3:(us.toArray ++ (c.args.map a.eval ++ vs.toArray):Array Value)=(us ++ (c.args.toList.map a.eval ++ vs)).toArray:=by apply Array.ext'; simp
      simp [execOp,ho,resolve,hcal,e1,Deferred.ofValue,invoke]
      rw [h3]
      exact Ae9 hk.1 _ _
    ·simp only [DV.tgt] at hx0
     split at hx0
     ·rename_i T e hx
      obtain ⟨f',hlk,hx2⟩:=Option.map_eq_some_iff.1 hx0
      cases hx2
      have h1:=hs.b.ev x
      rw [hx] at h1
      obtain ⟨u,e1,hrel⟩:=Al1 h1
      refine hcallF _ ([u] ++ c.args.toList.map a.eval) ([e] ++ c.args.toList.map s.rv ++ []) (by simp) (fun j v d hv hd=>?_) hk.1 hk.2 ?_
      ·rw [List.append_nil] at hd
       cases j with
       | zero=>
        simp at hv hd
        subst hv hd
        exact hs.b.evp x hrel fun id hi=>by rw [hx,DV.refs]; exact hi
       | succ j=>exact hargs c.args.toList j v d hv hd
      ·have h3:=An7 (w:=w) hlk hk.1 u (c.args.map a.eval)
       have h4:(#[u] ++ c.args.map a.eval:Array Value)=([u] ++ c.args.toList.map a.eval).toArray:=by apply Array.ext'; simp
       rw [h4] at h3
       have h5:Array.extract (#[a.eval x] ++ c.args.map a.eval) 1 (#[a.eval x] ++ c.args.map a.eval).size=c.args.map a.eval:=by
        apply Array.ext'
        simp [List.extract_eq_take_drop]
        exact List.take_of_length_le (by simp)
       have h6:(#[a.eval x] ++ c.args.map a.eval:Array Value)[0]?=some (.iface T u):=by rw [e1]; first | rfl | simp [Array.getElem?_append]
       simp only [execOp,ho,resolve,hcal,Sem.run_bind,Sem.run_pure,Result.andThen_ok,invoke,h6,h5,h3]
     ·cases hx0
   ·split at hk
    ·rename_i i hi
     have hyl:=(Bc1 hi).2
     obtain ⟨rfl,_⟩:=Bc1 hi
     rcases hcal with ⟨_,hcal⟩ | ⟨name,h,_⟩
     rotate_left
     ·cases h
     have h1:=hs.b.ev x
     rw [hyl] at h1
     obtain ⟨b,e1,hb⟩:=Bc3 h1
     obtain ⟨fn,tmps,assign,body,hy,hround⟩:=Bz7 (vs:=c.args.toList.map a.eval) (ds:=c.args.toList.map s.rv) hs.b hs.r hb (by simp) (hargs _) hk
     refine ⟨fun _ _=>trivial,?_⟩
     have hrun:(execOp a.eval o).run C.P w=.ok (.round b fn tmps assign body) w:=by
      rw [← hy]
      simp [execOp,ho,resolve,hcal,e1,Deferred.ofValue,invoke,A14]
     rw [Oper.semAt_plain _ _ _ hnd,hrun,Oper.uponIn_round]
     refine ⟨fun h=>by simp [Ctx.F,Fence.wide] at h,hround.mono ?_⟩
     rintro e w' ⟨v,d,s',β',rfl,hK,hR',hh,hrel'⟩
     exact hput s' β' w' v d ⟨hh,hR'⟩ hrel' hK
    ·exact hk.elim
  ·rename_i k x
   have ho:=Bk3 hc
   split at hk
   ·rename_i l hl
    obtain ⟨p,hp,nx,w',β',y,h1,h2,h3,h4⟩:=Co3 (nid:=s.nx) ho hs.b hl
    refine ⟨fun _ _=>trivial,?_⟩
    rw [Oper.semAt_plain _ _ _ hnd,h1]
    have h5:HoldsS C (s.upd s.nx p.2) β' a w':=⟨h3,hs.r⟩
    rcases h2 with rfl | ⟨rfl,rfl⟩
    ·exact hput _ β' w' y p.1 h5 h4 (hk p hp)
    ·exact hput _ β' w' undef p.1 h5 h4 (hk p hp)
   ·exact hk.elim
  ·rename_i hne1 hne2 hne3
   split at hk
   ·rename_i d s' he
    obtain ⟨nx,w',β',x,h1,h2,h3,h4⟩:=hs.exec hc he
    refine ⟨fun _ _=>trivial,?_⟩
    rw [Oper.semAt_plain _ _ _ hnd,h1]
    rcases h2 with rfl | ⟨rfl,rfl⟩
    ·exact hput s' β' w' x d h3 h4 hk
    ·exact hput s' β' w' undef d h3 h4 hk
   ·exact hk.elim
theorem Av4 {dr:Bool} {C:Ctx} {ops:Array Oper} {K:DS→Prop} {Q:Exit→Act→World→Prop} (hQ:∀ s β a w,HoldsS C s β a w→K s→Q .normal a w) :
  ∀ (l:List DR) (i:Nat) (s:DS) (β:Nat→Option Nat) (a:Act) (w:World),(∀ (j:Nat) (r:DR),l[j]?=some r→∃ o,ops[i+j]?=some o∧compR C.P C.nt dr ops o=some r)→
   HoldsS C s β a w→Aj3 C.P l s K→wpOpsIn C.F 0 C.P ops Q (List.range' i l.length) a w
 | [],i,s,β,a,w,_,hs,hk=>by simp only [List.length_nil,List.range'_zero,wpOpsIn]; exact hQ s β a w hs hk
 | r :: rest,i,s,β,a,w,hl,hs,hk=>by
  obtain ⟨o,ho,hr⟩:=hl 0 r rfl
  simp only [Nat.add_zero] at ho
  have hrest:∀ (j:Nat) (r':DR),rest[j]?=some r'→∃ o,ops[i+1+j]?=some o∧compR C.P C.nt dr ops o=some r':=fun j r' hj=>by
   have:=hl (j+1) r' (by simpa using hj)
   rwa [show i+(j+1)=i+1+j by omega] at this
  obtain ⟨hd,hdlt,_⟩:=A13 hr
  simp only [Aj3] at hk
  simp only [List.length_cons,List.range'_succ,wpOpsIn,ho]
  split at hk
  ·rename_i hw
   rw [if_pos (Av2 hs.b hr hw)]
   exact Bz8 hs hr hk (fun s' β' a' w' h1 h2=>Av4 hQ rest (i+1) s' β' a' w' hrest h1 h2)
  ·rename_i hw
   rw [Av2 hs.b hr hw]
   simp only [Bool.false_eq_true,if_false]
   refine ⟨fun _ _=>trivial,Av4 hQ rest (i+1) _ β _ w hrest ?_ hk⟩
   rw [← hd]
   exact ⟨by rw [DS.nx_put]; exact hs.b.put r.dst hdlt (WV.v undef),by rw [DS.nx_put]; exact hs.r⟩
  ·exact hk.elim
def thenQ (next:DS→Prop) (Q:Exit→DS→Prop):Exit→DS→Prop
 | .normal,s=>next s
 | e,s=>Q e s
def blkQ (id:Nat) (Q:Exit→DS→Prop):Exit→DS→Prop
 | .exit id',s=>if id'=id then Q .normal s else Q (.exit id') s
 | e,s=>Q e s
section rules
variable {C:Ctx} {Q:Exit→DS→Prop} {s:DS}
theorem DW.reg {ops:List DR} {info:RI} (h:Aj3 C.P ops s fun s'=>Q .normal s'):DW C (.reg false ops info) Q s:=by
 intro code hc a w ⟨hR,β,hs⟩
 obtain ⟨id,os,rfl,hl,_⟩:=Au0 hc
 obtain ⟨h1,h2⟩:=mapM_some hl
 refine wpIn_region ?_
 have:=Av4 (dr:=false) (ops:=os) (K:=fun s'=>Q .normal s') (Q:=liftQ C Q) (fun s β a w hh hk=>⟨s,hk,.of hh⟩) ops 0 s β a w (fun j r hj=>?_) ⟨hs,hR⟩ h
 ·rw [h1,Array.length_toList,← List.range_eq_range'] at this
  exact this
 ·have hjl:j < os.toList.length:=by have:=(List.getElem?_eq_some_iff.1 hj).1; omega
  have:=h2 j os.toList[j] r (List.getElem?_eq_getElem hjl) hj
  exact ⟨os.toList[j],by simp at hjl ⊢,this⟩
theorem DW.mono {c:DC} {Q':Exit→DS→Prop} (h:DW C c Q s) (hq:∀ e s,Q e s→Q' e s):DW C c Q' s:=
 fun code hc a w hs=>wpIn_mono (h code hc a w hs) fun _ _ _ ⟨s,h1,h2⟩=>⟨s,hq _ _ h1,h2⟩
theorem DW.dfq {t:Nat} {g:FuncId} {cap:List Operand} (hrd:C.rd=none) (h:Q .normal (s.put (some t) (.fn (.func g) (.tup [] :: cap.map s.ev)))):DW C (.dfq t g cap) Q s:=by
 intro code hc a w ⟨hR,β,hs⟩
 obtain ⟨id,os,rfl,hd⟩:=Bm2 hc
 obtain ⟨o,p,first,c,cs,rfl,hop,rfl,hdst,hg,hpop,hpdst,hpg,hcal,hf0,hc0,ht,hq⟩:=Bj2 hd
 have hfe:first = #[]:=Array.eq_empty_of_size_eq_zero hf0
 obtain ⟨nx,w1,β1,x,h1,h2,h3,h4⟩:=B53 hop hs
 rw [hfe] at h4
 have hrun:(execOp a.eval o).run C.P w=.ok (.value (.func (.func g) #[] (cs.map a.eval))) w:=by
  have:first = #[]:=Array.eq_empty_of_size_eq_zero hf0
  simp [execOp,hop,Instr.makeFunc,this]
 rw [hrun] at h1
 cases h1
 have hx:x=.func (.func g) #[] (cs.map a.eval):=by
  rcases h2 with h2 | ⟨h2,_⟩
  ·cases h2; rfl
  ·cases h2
 subst hx
 refine wpIn_region ?_
 have g0:(#[o,p]:Array Oper)[0]?=some o:=rfl
 have g1:(#[o,p]:Array Oper)[1]?=some p:=rfl
 have gw0:∀ y,Region.wanted o y=true:=fun y=>by unfold Region.wanted; rw [hg]
 have gw1:∀ y,Region.wanted p y=true:=fun y=>by unfold Region.wanted; rw [hpg]
 show wpOpsIn C.F 0 C.P #[o,p] (liftQ C Q) [0,1] a w
 simp only [wpOpsIn,g0,g1,gw0,gw1,if_true]
 have hnd:∀ c,o.op≠.defer c:=fun c hc=>by rw [hop] at hc; cases hc
 refine ⟨fun _ _=>trivial,?_⟩
 rw [Oper.semAt_plain _ _ _ hnd,hrun,Oper.uponIn_value,hdst]
 have hp:=h3.put (some t) (fun t' e=>by cases e; exact ht) h4
 have hev:(a.put (some t) (.func (.func g) #[] (cs.map a.eval))).eval (.tmp t)=.func (.func g) #[] (cs.map a.eval):=by
  have:t < a.tmps.size:=by rw [hs.sz]; exact ht
  simp [Act.put,Act.eval,this]
 have hrn:C.F.round=none:=by
  show C.rd=none
  exact hrd
 refine ⟨fun _ _=>trivial,?_⟩
 have hargs:c.args = #[]:=Array.eq_empty_of_size_eq_zero hc0
 have hrun2:(execOp (a.put (some t) (.func (.func g) #[] (cs.map a.eval))).eval p).run C.P w=.ok (.defer { target:=.fn (.func g) (cs.map a.eval),args:=#[] }) w:=by
  simp [execOp,hpop,resolve,hcal,hargs,hev,Deferred.ofValue]
 rw [hrn,Oper.semAt_none,hrun2,Oper.uponIn_defer,hpdst]
 refine ⟨_,h,by rw [DS.nx_put]; exact hR,β1,?_⟩
 rw [DS.nx_put]
 exact ⟨hp.hh,hp.df.quiet ⟨g,_,hq,rfl⟩,hp.sz,hp.sl,hp.gh,hp.yd⟩
theorem DW.skip (h:Q .normal s):DW C .skip Q s:=by
 intro code hc a w hs
 obtain rfl:=Bj3 hc
 exact wpIn_skip ⟨s,h,hs⟩
theorem DW.ret (h:Q .ret s):DW C .ret Q s:=by
 intro code hc a w hs
 obtain rfl:=Bm3 hc
 exact wpIn_ret ⟨s,h,hs⟩
theorem DW.exit {id:Nat} (h:Q (.exit id) s):DW C (.exit id) Q s:=by
 intro code hc a w hs
 obtain rfl:=Bj4 hc
 exact wpIn_exit ⟨s,h,hs⟩
theorem DW.seq {x y:DC} (h:DW C x (thenQ (DW C y Q) Q) s):DW C (.seq x y) Q s:=by
 intro code hc a w hs
 obtain ⟨p,q,rfl,hx,hy⟩:=Bm4 hc
 refine wpIn_seq (wpIn_mono (h p hx a w hs) ?_)
 rintro e a w ⟨s',h1,h2⟩
 cases e <;> first | exact h1 q hy a w h2 | exact ⟨s',h1,h2⟩
theorem DW.cond {x:Operand} {y z:DC} {b:Bool} (hb:s.ev x=.v (.bool b)) (ht:b=true→DW C y Q s) (hf:b=false→DW C z Q s):DW C (.cond x y z) Q s:=by
 intro code hc a w hs
 obtain ⟨p,q,rfl,hy,hz⟩:=Bj5 hc
 have hs0:=hs
 obtain ⟨hR,β,hh⟩:=hs
 have h1:=hh.ev x
 rw [hb] at h1
 exact wpIn_cond_split (rel_v h1) (fun h=>ht h _ hy a w hs0) (fun h=>hf h _ hz a w hs0)
theorem DW.blk {id:Nat} {c:DC} (h:DW C c (blkQ id Q) s):DW C (.blk id c) Q s:=by
 intro code hc a w hs
 obtain ⟨p,rfl,hc'⟩:=Bm5 hc
 refine wpIn_block (wpIn_mono (h _ hc' a w hs) ?_)
 rintro e a w ⟨s',h1,h2⟩
 cases e <;> first | exact ⟨s',h1,h2⟩ | skip
 rename_i id'
 simp only [blkQ] at h1
 simp only [Exit.inBlock]
 split
 ·rename_i he; rw [if_pos he] at h1; exact ⟨s',h1,h2⟩
 ·rename_i he; rw [if_neg he] at h1; exact ⟨s',h1,h2⟩
theorem DW.loop {c:DC} (I:Nat→DS→Prop) (n:Nat) (h0:I n s) (round:∀ n s,I n s→DW C c (thenQ (fun s'=>∃ m,m < n∧I m s') Q) s):DW C (.loop c) Q s:=by
 intro code hc a w hs
 obtain ⟨p,rfl,hc'⟩:=Bj6 hc
 intro b k cs hro hb hr
 have key:∀ (n:Nat) (s:DS),I n s→∀ a w,Holds C s a w→∃ e a' w',liftQ C Q e a' w'∧ArrivesIn (Machine.fenced C.P C.F) C.P (lone (b.atR a (.code p :: .inLoop p :: k)) cs w) b k cs e a' w':=by
  intro n
  induction n using Nat.strongRecOn with
  | _ n ih=>
   intro s hI a w hs
   obtain ⟨e,a₁,w₁,⟨s',h1,h2⟩,harr⟩:=round n s hI _ hc' a w hs b (.inLoop p :: k) cs hro hb hr
   cases e with
   | normal=>
    obtain ⟨m,hm,hI'⟩:=h1
    obtain ⟨e₂,a₂,w₂,hq₂,harr₂⟩:=ih m hm s' hI' a₁ w₁ h2
    exact ⟨e₂,a₂,w₂,hq₂,.of_steps (StepsIn.trans harr (.one (fenced_calm hb hr rfl) stepR_inLoop)) harr₂⟩
   | exit id=>exact ⟨_,a₁,w₁,⟨s',h1,h2⟩,.pass (x:=.inLoop p) rfl (fun _ _=>.inl (by simp)) harr⟩
   | goto l=>exact ⟨_,a₁,w₁,⟨s',h1,h2⟩,.pass (x:=.inLoop p) rfl (fun _ _=>.inl (by simp)) harr⟩
   | ret=>exact ⟨_,a₁,w₁,⟨s',h1,h2⟩,.pass (x:=.inLoop p) rfl (fun _ _=>.inl (by simp)) harr⟩
   | panic ch=>exact ⟨_,a₁,w₁,⟨s',h1,h2⟩,.pass (x:=.inLoop p) rfl (fun _ _=>.inl (by simp)) harr⟩
   | outgrown=>exact ⟨_,a₁,w₁,⟨s',h1,h2⟩,.pass (x:=.inLoop p) rfl (fun _ _=>.inl (by simp)) harr⟩
 obtain ⟨e,a',w',hq,harr⟩:=key n s h0 a w hs
 exact ⟨e,a',w',hq,.of_steps (.one (fenced_calm hb hr rfl) stepR_loop) harr⟩
theorem DW.rng {g:Operand} {ps:List Nat} {x y:DC} {sl:Sl} (hsl:sl.get=s.sv) (hrd:C.rd=none) {f:FuncId} {caps:List DV}
  (hg:(s.ev g).asFn=some (f,caps)) (hcb:Ac7 C.P f=true)
  (h:callI C.P f (.yl s.nx :: caps) { s with ho:=setH s.ho s.nx (some (.loop ⟨C.nt,sl,ps,x,y,.ready,none⟩)),nx:=s.nx+1 } fun s2 _=>∃ lp,s2.ho s.nx=some (.loop lp)∧lp.st≠.busy∧match lp.pend with
   | none=>Q .normal (s2.lay s.nx none)
   | some .ret=>Q .ret (s2.lay s.nx none)
   | some (.exit i)=>Q (.exit i) (s2.lay s.nx none)
   | _=>False):DW C (.rng g ps x y) Q s:=by
 intro code hc a w ⟨hR,β,hs⟩
 obtain ⟨qs,ac,bc,rfl,hqs,hpslt,hx,hy⟩:=Bm6 hc
 refine wpIn_rangeFunc fun fn _=>?_
 have hFr:C.F.round=none:=hrd
 rw [hFr]
 obtain ⟨rec,hrec⟩:∃ rec:Loop,rec = { state:=.ready,pending:=none,fn,tmps:=a.tmps,params:=qs,assign:=ac,body:=bc,defers:=w.heap.size }:=⟨_,rfl⟩
 obtain ⟨w1,hw1⟩:∃ w1,(w.alloc (.deferred (some []))).alloc (.loop rec)=w1:=⟨_,rfl⟩
 have hsz1:w1.heap.size=w.heap.size+2:=by rw [← hw1]; simp
 have hD:w1.heap[w.heap.size]?=some (.deferred (some [])):=by
  rw [← hw1]; exact (Below.heap_alloc _ _ _ (by simp)).trans (World.alloc_heap_new w _)
 have hL:w1.heap[w.heap.size+1]?=some (.loop rec):=by
  rw [← hw1]; have:=World.alloc_heap_new (w.alloc (.deferred (some []))) (.loop rec); rwa [World.size_alloc] at this
 have hbl:Below w.heap.size w w1:=by
  rw [← hw1]; exact ((Below.refl _ w).alloc (Nat.le_refl _) _).alloc (by simp) _
 obtain ⟨id,hid⟩:∃ id,s.nx=id:=⟨_,rfl⟩
 have hfresh:¬ Us C s.nx id:=fun h=>by have:=h.1; omega
 obtain ⟨s1,hs1⟩:∃ s1:DS,{ s with ho:=setH s.ho s.nx (some (.loop ⟨C.nt,sl,ps,x,y,.ready,none⟩)),nx:=s.nx+1 } = s1:=⟨_,rfl⟩
 have hn1:s1.nx=id+1:=by rw [← hs1,← hid]
 have hR1:∀ i,C.R i→i < s1.nx:=fun i hi=>by have:=hR i hi; omega
 have hl1:HoldsB C (Us C s1.nx) s1 (upd β id (some (w.heap.size+1))) a w1:=by
  have ht:=(hs.turned (β':=upd β id (some (w.heap.size+1))) (w':=w1) hfresh none (fun _ h=>by cases h) (.loop ⟨C.nt,sl,ps,x,y,.ready,none⟩) (fun b hb _=>hbl.block b hb) hbl.os hbl.tape hbl.output hbl.size (fun j hj _=>Ac8 β _ hj) (fun _ h=>by cases h)
   (fun b hb=>by rw [upd_same] at hb; cases hb; exact ⟨.inr (by omega),by omega⟩)
   (fun hrel=>by
    subst hrec
    exact ⟨_,_,upd_same _ _ _,hL,hqs,hs.sz,hx,hy,rfl,rfl,fun t=>by rw [hsl]; exact hrel _ _ (hs.sl t)⟩)).1
  have ht':=ht.grow (U':=Us C s1.nx) fun i hi=>by
   rcases hi with hi | rfl
   ·exact ⟨by have:=hi.1; omega,hi.2⟩
   ·exact ⟨by omega,fun hr=>by have:=hR _ hr; omega⟩
  have e:s1.ho=(s.upd id (.mv none (.loop ⟨C.nt,sl,ps,x,y,.ready,none⟩))).ho:=by rw [← hs1,hid]; rfl
  have e2:s1.vw C=(s.upd id (.mv none (.loop ⟨C.nt,sl,ps,x,y,.ready,none⟩))).vw C:=by unfold DS.vw; rw [e]
  have e3:s1.sv=s.sv:=by rw [← hs1]
  obtain ⟨g1,g2,g3,g4,g5,g6⟩:=ht'
  exact ⟨by rw [e2]; exact g1,g2,g3,by rw [e2,e3]; exact g4,by rw [e2]; exact g5,by rw [e]; exact g6⟩
 have hnewD:∀ (d:Deferred) (D:Nat) (β':Nat→Option Nat),Mark C β' w d→d = { target:=.collected D,args:=#[] }→D < w.heap.size:=fun d D β' hm e=>by
  obtain ⟨D',e',h1,_⟩:=hm
  rw [e] at e'
  simp only [Deferred.mk.injEq,Target.collected.injEq,and_true] at e'
  subst e'
  exact (Array.getElem?_eq_some_iff.1 h1).1
 have hs':HoldsB C (Us C s1.nx) s1 (upd β id (some (w.heap.size+1))) { a with defers:=[{ target:=.collected w.heap.size,args:=#[] }] ++ a.defers } w1:=by
  refine ⟨hl1.hh,⟨?_,fun d hd=>?_,hl1.df.out,fun D hD' hM=>?_⟩,hl1.sz,hl1.sl,hl1.gh,hl1.yd⟩
  ·rw [List.singleton_append,List.filter_cons_of_pos (by rfl),List.nodup_cons]
   exact ⟨fun hm=>by have:=hnewD _ _ _ (hs.df.ownC (List.mem_filter.1 hm).1) rfl; omega,hs.df.nodup⟩
  ·rcases List.mem_cons.1 hd with rfl | hd
   ·refine .inl ⟨_,rfl,hD,hs.hh.bel.size,fun j hj=>?_⟩
    by_cases hji:j=id
    ·subst hji; rw [upd_same] at hj; simp at hj
    ·rw [Ac8 β _ hji] at hj; have:=hs.hh.lt hj; omega
   ·exact hl1.df.own d hd
  ·rcases List.mem_cons.1 hD' with e | hD'
   ·simp only [Deferred.mk.injEq,Target.collected.injEq,and_true] at e
    subst e
    have:=hnewD _ _ _ (hs.df.out _ hM) rfl
    omega
   ·exact hs.df.apart D hD' hM
 have hge:=hs.ev g
 have hg':=Bm7 hg
 simp only at hg'
 rw [hg'] at hge
 obtain ⟨us,vs,e1,hus,hl,_,hrel⟩:=A97 hge
 have hus':us=[]:=List.eq_nil_of_length_eq_zero (by simpa using hus)
 subst hus'
 have e1':a.eval g=.func (.func f) #[] vs.toArray:=by rw [← e1]
 -- what was captured is as it was
 have hcap:∀ (j:Nat) (v:Value) (d:DV),vs[j]?=some v→caps[j]?=some d→WV C (Us C s1.nx) (s1.vw C) (upd β id (some (w.heap.size+1))) w1 v d:=fun j v d hv hd=>by
  have h1:=hs.evp g (hrel j v d hv hd) fun i hi=>by rw [hg',DV.refs,DV.refsL]; exact List.mem_append_right _ (DV.refsL_mem (List.mem_of_getElem? hd) hi)
  have ht:=(hs.turned (β':=upd β id (some (w.heap.size+1))) (w':=w1) hfresh none (fun _ h=>by cases h) (.loop ⟨C.nt,sl,ps,x,y,.ready,none⟩) (fun b hb _=>hbl.block b hb) hbl.os hbl.tape hbl.output hbl.size (fun j hj _=>Ac8 β _ hj) (fun _ h=>by cases h)
   (fun b hb=>by rw [upd_same] at hb; cases hb; exact ⟨.inr (by omega),by omega⟩)
   (fun hrel=>by
    subst hrec
    exact ⟨_,_,upd_same _ _ _,hL,hqs,hs.sz,hx,hy,rfl,rfl,fun t=>by rw [hsl]; exact hrel _ _ (hs.sl t)⟩)).2 _ _ h1
  have e2:s1.vw C=(s.upd id (.mv none (.loop ⟨C.nt,sl,ps,x,y,.ready,none⟩))).vw C:=by rw [← hs1,hid]; rfl
  rw [e2]
  refine ht.grow fun i hi=>?_
  rcases hi with hi | rfl
  ·exact ⟨by have:=hi.1; omega,hi.2⟩
  ·exact ⟨by omega,fun hr=>by have:=hR _ hr; omega⟩
 have hho1:s1.ho id=some (.loop ⟨C.nt,sl,ps,x,y,.ready,none⟩):=by rw [← hs1,hid]; simp
 have hyl:WV C (Us C s1.nx) (s1.vw C) (upd β id (some (w.heap.size+1))) w1 (.func (.yield (w.heap.size+1)) #[] #[]) (.yl id):=
  hl1.hh.wv (.yl id _ (upd_same _ _ _)) fun i hi=>by
   obtain rfl:i=id:=by simpa [DV.refs] using hi
   exact Ae5 (by rw [hho1]; rfl)
 rw [hs1,hid] at h
 refine ⟨w.heap.size+1,[{ target:=.collected w.heap.size,args:=#[] }],w1,{ target:=.fn (.func f) vs.toArray,args:=#[.func (.yield (w.heap.size+1)) #[] #[]] },w1,f,
  #[.func (.yield (w.heap.size+1)) #[] #[]] ++ vs.toArray,w1,?_,?_,fun _ _=>trivial,?_,fun h=>by simp [Ctx.F,Fence.wide] at h,?_⟩
 ·rw [← hw1,hrec]; exact run_enterLoop_outer _ _ _ _ _
 ·simp only [resolve,e1']
  simp [go_sem]
 ·simp [invoke,Ae9 hcb]
 ·refine A10 ?_
  have hk':callI C.P f (.yl id :: caps) s1 fun s2 _=>∃ lp,s2.ho id=some (.loop lp)∧lp.st≠.busy∧match lp.pend with
   | none=>Q .normal (s2.lay id none)
   | some .ret=>Q .ret (s2.lay id none)
   | some (.exit i)=>Q (.exit i) (s2.lay id none)
   | _=>False:=h
  have hX':=hs'
  -- the yield's record goes on lying where it lies: others hold it
  obtain ⟨C2,hC2⟩:∃ C2:Ctx,C2 = { C with X:=fun x d=>C.X x d∨(x=.func (.yield (w.heap.size+1)) #[] #[]∧d=.yl id) }:=⟨_,rfl⟩
  have hsX:HoldsB C2 (Us C2 s1.nx) s1 (upd β id (some (w.heap.size+1))) { a with defers:=[{ target:=.collected w.heap.size,args:=#[] }] ++ a.defers } w1:=by
   obtain ⟨g1,g2,g3,g4,g5,g6⟩:=hs'
   obtain ⟨q1,q2⟩:=HH.ctx (C:=C) (C':=C2) (by rw [hC2]) (by rw [hC2]) (by rw [hC2]) (by rw [hC2]) g1
   have eU:Us C2 s1.nx=Us C s1.nx:=by rw [hC2]; rfl
   have eV:s1.vw C2=s1.vw C:=by rw [hC2]; rfl
   refine ⟨by rw [eU,eV]; exact q1,⟨g2.nodup,fun d hd=>?_,fun D hD=>?_,fun D hD=>?_⟩,by rw [hC2]; exact g3,fun t=>by rw [eU,eV]; exact (q2 _ _).2 (g4 t),fun v d hx=>?_,by rw [hC2]; exact g6⟩
   ·have:=g2.own d hd; rw [hC2]; exact this
   ·rw [hC2] at hD ⊢; exact g2.out D hD
   ·rw [hC2]; exact g2.apart D hD
   ·rw [eU,eV,q2]
    rw [hC2] at hx
    rcases hx with (hx | ⟨rfl,rfl⟩) | hx
    ·exact g5 _ _ (.inl hx)
    ·exact hyl
    ·exact g5 _ _ (.inr hx)
  have hP2:C2.P=C.P:=by rw [hC2]
  have hcall:=Bd5 (C:=C2) (vs:=.func (.yield (w.heap.size+1)) #[] #[] :: vs) (ds:=.yl id :: caps) hsX (by rw [hC2]; exact hR1) (by simp [hl]) (fun j v d hv hd=>by
   have e:∀ v d,WV C2 (Us C2 s1.nx) (s1.vw C2) (upd β id (some (w.heap.size+1))) w1 v d↔WV C (Us C s1.nx) (s1.vw C) (upd β id (some (w.heap.size+1))) w1 v d:=fun v d=>by rw [hC2]; exact Iff.rfl
   rw [e]
   cases j with
   | zero=>simp at hv hd; subst hv hd; exact hyl
   | succ j=>exact hcap j v d (by simpa using hv) (by simpa using hd)) (by rw [hP2]; exact hk')
  rw [hP2] at hcall
  have hargs:(Value.func (.yield (w.heap.size+1)) #[] #[] :: vs).toArray = #[.func (.yield (w.heap.size+1)) #[] #[]] ++ vs.toArray:=by simp
  rw [hargs] at hcall
  refine hcall.mono ?_
  rintro e w3 ⟨v,d,s2,β2,rfl,⟨lp,ho2,hst,hpend⟩,hR2,hs2X,_⟩
  have hb2:β2 id=some (w.heap.size+1):=by
   have h1:=(hs2X.gh (.func (.yield (w.heap.size+1)) #[] #[]) (.yl id) (.inl (by rw [hC2]; exact .inr ⟨rfl,rfl⟩))).2.1 fun i hi=>by
    obtain rfl:i=id:=by simpa [DV.refs] using hi
    exact Ae5 (by rw [ho2]; rfl)
   obtain ⟨b2,e,hb2⟩:=Bc3 h1
   cases e; exact hb2
  have hs2:HoldsB C (Us C s2.nx) s2 β2 { a with defers:=[{ target:=.collected w.heap.size,args:=#[] }] ++ a.defers } w3:=by
   obtain ⟨g1,g2,g3,g4,g5,g6⟩:=hs2X
   obtain ⟨q1,q2⟩:=HH.ctx (C:=C2) (C':=C) (by rw [hC2]) (by rw [hC2]) (by rw [hC2]) (by rw [hC2]) g1
   have eU:Us C2 s2.nx=Us C s2.nx:=by rw [hC2]; rfl
   have eV:s2.vw C2=s2.vw C:=by rw [hC2]; rfl
   rw [eU,eV] at q1 q2
   refine ⟨q1,⟨g2.nodup,fun d hd=>?_,fun D hD=>?_,fun D hD=>?_⟩,by rw [hC2] at g3; exact g3,fun t=>(q2 _ _).2 (by have:=g4 t; rwa [eU,eV] at this),fun v d hx=>(q2 _ _).2 (by have:=g5 v d (hx.imp (fun hx=>by rw [hC2]; exact .inl hx) (fun h=>h)); rwa [eU,eV] at this),by rw [hC2] at g6; exact g6⟩
   ·have:=g2.own d hd; rw [hC2] at this; exact this
   ·have:=g2.out D (by rw [hC2]; exact hD); rw [hC2] at this; exact this
   ·have:=g2.apart D hD; rw [hC2] at this; exact this
  obtain ⟨b',r2,hb',hr2,_,_,_,_,q5,q6,_⟩:=hs2.hh.hp id _ (Ad9 ho2)
  rw [hb2] at hb'; cases hb'
  have hlt2:=(Array.getElem?_eq_some_iff.1 hr2).1
  have hend:=run_endLoop (P:=C.P) hr2 (by rw [q5]; exact hst)
  have hs3:Holds C (s2.lay id none) { a with defers:=[{ target:=.collected w.heap.size,args:=#[] }] ++ a.defers } (w3.putObj (w.heap.size+1) (.loop { r2 with state:=.exhausted })):=by
   -- first the record is written,then it is forgotten
   have hm:=hs2.mark hb2 ho2 hr2 .exhausted r2.pending
   have hless:=hm.hh.less (U':=Us C s2.nx) (V':=(s2.lay id none).vw C) (β':=upd β2 id none) (fun _ h=>h) (fun i=>?_) (fun i=>?_)
   ·refine ⟨by rw [hC2] at hR2; exact hR2,_,hm.carry (s':=s2.lay id none) rfl (fun i o hy=>?_) hless⟩
    by_cases hi:i=id
    ·subst hi; simp
    ·rw [DS.ho_lay_other _ _ hi]; have:=hs2.yd i o hy; exact this
   ·by_cases hi:i=id
    ·subst hi
     refine .inr ⟨upd_same _ _ _,?_⟩
     have:=hs2.apart (i:=i) (by rw [ho2]; rfl)
     simp [DS.vw,vwF,DS.lay,this]
    ·exact .inl (Ac8 _ _ hi)
   ·by_cases hi:i=id
    ·subst hi
     have:=hs2.apart (i:=i) (by rw [ho2]; rfl)
     exact .inr (by simp [DS.vw,vwF,DS.lay,this])
    ·exact .inl (by simp [DS.vw,vwF,DS.lay,setH,hi])
  obtain ⟨w4,hw4⟩:∃ w4,w3.putObj (w.heap.size+1) (.loop { r2 with state:=.exhausted })=w4:=⟨_,rfl⟩
  rw [hw4] at hend hs3
  refine ⟨r2.pending,w4,hend,?_⟩
  rw [q6]
  split at hpend
  ·rename_i hp; rw [hp]; exact ⟨_,hpend,hs3⟩
  ·rename_i hp; rw [hp]; exact wpIn_ret ⟨_,hpend,hs3⟩
  ·rename_i i hp; rw [hp]; exact wpIn_exit ⟨_,hpend,hs3⟩
  ·exact hpend.elim
def Imp (s s':DS):Prop:=∀ C a w,Holds C s a w→Holds C s' a w
end rules
end Go.DD

/- Regions that draw their order: one run in the text's order serves every order. The operations that write, and the calls, stand in one order by their edges; what is only made lies by itself; all others read the same at every moment at which they may come. -/
namespace Go.DD
open Go.RowKit (Below)
structure Agree (op:DOp) (s s':DS):Prop where
 ev:∀ x∈op.opnds,s'.ev x=s.ev x
 rv:∀ x∈op.opnds,s'.rv x=s.rv x
 ho:op.rdC=true→∀ x∈op.opnds,∀ id∈(s.ev x).refs,s'.ho id=s.ho id
theorem An0 {s s':DS} {dflt:Int} {x:Option Operand} (h:∀ y∈x.toList,s'.ev y=s.ev y):bndD s' dflt x=bndD s dflt x:=by
 cases x with
 | none=>rfl
 | some y=>simp [bndD,h y (by simp)]
theorem Ak1 {nid:Nat} {s s':DS} {op:DOp} (h:Agree op s s'):execU nid s' op=execU nid s op:=by
 obtain ⟨h1,h1',h2⟩:=h
 cases op with
 | bld z ps=>
  have:ps.map (fun p=>(p.1,p.2.1,s'.ev p.2.2))=ps.map fun p=>(p.1,p.2.1,s.ev p.2.2):=
   List.map_congr_left fun p hp=>by rw [h1 p.2.2 (by simp only [DOp.opnds,List.mem_map]; exact ⟨p,hp,rfl⟩)]
  simp only [execU,this]
 | bsl T n es z ps=>
  have:ps.map (fun p=>(p.1,p.2.1,s'.ev p.2.2))=ps.map fun p=>(p.1,p.2.1,s.ev p.2.2):=
   List.map_congr_left fun p hp=>by rw [h1 p.2.2 (by simp only [DOp.opnds,List.mem_map]; exact ⟨p,hp,rfl⟩)]
  simp only [execU,this]
 | mkf f fst cap=>
  have e1:fst.map s'.ev=fst.map s.ev:=List.map_congr_left fun x hx=>h1 x (by simp [DOp.opnds,hx])
  have e2:cap.map s'.ev=cap.map s.ev:=List.map_congr_left fun x hx=>h1 x (by simp [DOp.opnds,hx])
  simp only [execU,e1,e2]
 | sli es x lo hi=>
  have hx:=h1 x (by simp [DOp.opnds])
  have hlo:∀ d,bndD s' d lo=bndD s d lo:=fun d=>An0 fun y hy=>h1 y (by simp [DOp.opnds]; exact .inr (.inl (by simpa using hy)))
  have hhi:∀ d,bndD s' d hi=bndD s d hi:=fun d=>An0 fun y hy=>h1 y (by simp [DOp.opnds]; exact .inr (.inr (by simpa using hy)))
  simp only [execU,hx,hlo,hhi]
 | sls x lo hi=>
  have hx:=h1 x (by simp [DOp.opnds])
  have hlo:∀ d,bndD s' d lo=bndD s d lo:=fun d=>An0 fun y hy=>h1 y (by simp [DOp.opnds]; exact .inr (.inl (by simpa using hy)))
  have hhi:∀ d,bndD s' d hi=bndD s d hi:=fun d=>An0 fun y hy=>h1 y (by simp [DOp.opnds]; exact .inr (.inr (by simpa using hy)))
  simp only [execU,hx,hlo,hhi]
 | ld k x=>
  have hx:=h1 x (by simp [DOp.opnds])
  have hh:=h2 rfl x (by simp [DOp.opnds])
  simp only [execU,hx]
  split
  ·rfl
  ·rename_i id off e
   rw [hh id (by rw [e]; simp [DV.refs])]
  ·rfl
 | st n p x=>
  have hp:=h1 p (by simp [DOp.opnds])
  have hx:=h1 x (by simp [DOp.opnds])
  have hh:=h2 rfl p (by simp [DOp.opnds])
  simp only [execU,hp,hx]
  split
  ·rename_i id off e
   rw [hh id (by rw [e]; simp [DV.refs])]
  ·rfl
 | app T es bytes d x=>
  have hd:=h1 d (by simp [DOp.opnds])
  have hx:=h1 x (by simp [DOp.opnds])
  have hhd:=h2 rfl d (by simp [DOp.opnds])
  have hhx:=h2 rfl x (by simp [DOp.opnds])
  have e1:dstD s' T es (s.ev d)=dstD s T es (s.ev d):=by
   unfold dstD
   split
   ·rfl
   ·rename_i id n es' e
    rw [hhd id (by rw [e]; simp [DV.refs])]
   ·rfl
  have e2:srcD s' T es (s.ev x)=srcD s T es (s.ev x):=by
   unfold srcD
   split
   ·rfl
   ·rfl
   ·rfl
   ·rename_i id off n es' e
    rw [hhx id (by rw [e]; simp [DV.refs])]
   ·rfl
  simp only [execU,hd,hx,e1,e2]
 | mkm=>rfl
 | lkp kd z x k ok=>
  have hx:=h1 x (by simp [DOp.opnds])
  have hh:=h2 rfl x (by simp [DOp.opnds])
  simp only [execU,hx,h1 k (by simp [DOp.opnds])]
  split
  ·split
   ·split
    ·rfl
    ·rename_i id e
     rw [hh id (by rw [e]; simp [DV.refs])]
    ·rfl
   ·rfl
  ·rfl
 | men kd z x k=>
  have hx:=h1 x (by simp [DOp.opnds])
  have hh:=h2 rfl x (by simp [DOp.opnds])
  simp only [execU,hx,h1 k (by simp [DOp.opnds])]
  split
  ·split
   ·split
    ·rename_i id e
     rw [hh id (by rw [e]; simp [DV.refs])]
    ·rfl
   ·rfl
  ·rfl
 | mes x q y=>
  have hx:=h1 x (by simp [DOp.opnds])
  have hh:=h2 rfl x (by simp [DOp.opnds])
  simp only [execU,hx,h1 q (by simp [DOp.opnds]),h1 y (by simp [DOp.opnds])]
  split
  ·rename_i id n e _
   rw [hh id (by rw [e]; simp [DV.refs])]
  ·rfl
 | rgm x=>
  have hx:=h1 x (by simp [DOp.opnds])
  have hh:=h2 rfl x (by simp [DOp.opnds])
  simp only [execU,hx]
  split
  ·rfl
  ·rename_i id e
   rw [hh id (by rw [e]; simp [DV.refs])]
  ·rfl
 | nxm k x=>rfl
 | rgs x=>simp only [execU,h1 x (by simp [DOp.opnds])]
 | nxs x=>
  have hx:=h1 x (by simp [DOp.opnds])
  have hh:=h2 rfl x (by simp [DOp.opnds])
  simp only [execU,hx]
  split
  ·rename_i id e
   rw [hh id (by rw [e]; simp [DV.refs])]
  ·rfl
 | mki T x=>simp only [execU,h1 x (by simp [DOp.opnds])]
 | tas T z x ok=>simp only [execU,h1 x (by simp [DOp.opnds])]
 | sla T n es x=>
  have hx:=h1 x (by simp [DOp.opnds])
  have hh:=h2 rfl x (by simp [DOp.opnds])
  simp only [execU,hx]
  split
  ·rename_i id e
   rw [hh id (by rw [e]; simp [DV.refs])]
  ·rfl
 | cpy es x y=>
  have hx:=h1 x (by simp [DOp.opnds])
  have hy:=h1 y (by simp [DOp.opnds])
  have hhx:=h2 rfl x (by simp [DOp.opnds])
  have hhy:=h2 rfl y (by simp [DOp.opnds])
  have e2:srcC s' es (s.ev y)=srcC s es (s.ev y):=by
   unfold srcC
   split
   ·rfl
   ·rfl
   ·rename_i id off n es' e
    rw [hhy id (by rw [e]; simp [DV.refs])]
   ·rfl
  simp only [execU,hx,hy,e2]
  split
  ·rename_i id off n es' news m e _
   rw [hhx id (by rw [e]; simp [DV.refs])]
  ·rfl
 | mup kd x k y=>
  have hx:=h1 x (by simp [DOp.opnds])
  have hh:=h2 rfl x (by simp [DOp.opnds])
  simp only [execU,hx,h1 k (by simp [DOp.opnds]),h1 y (by simp [DOp.opnds])]
  split
  ·split
   ·split
    ·rename_i id e
     rw [hh id (by rw [e]; simp [DV.refs])]
    ·rfl
   ·rfl
  ·rfl
 | lnm x=>
  have hx:=h1 x (by simp [DOp.opnds])
  have hh:=h2 rfl x (by simp [DOp.opnds])
  simp only [execU,hx]
  split
  ·rfl
  ·rename_i id e
   rw [hh id (by rw [e]; simp [DV.refs])]
  ·rfl
 | mv x=>simp only [execU,h1' x (by simp [DOp.opnds])]
 | pick c p q=>simp only [execU,h1 c (by simp [DOp.opnds]),h1' p (by simp [DOp.opnds]),h1' q (by simp [DOp.opnds])]
 | al T z=>rfl
 | bx T x=>simp only [execU,h1 x (by simp [DOp.opnds])]
 | nck x=>simp only [execU,h1 x (by simp [DOp.opnds])]
 | bin o x y=>simp only [execU,h1 x (by simp [DOp.opnds]),h1 y (by simp [DOp.opnds])]
 | bb o x y=>simp only [execU,h1 x (by simp [DOp.opnds]),h1 y (by simp [DOp.opnds])]
 | eqs o k x y=>simp only [execU,h1 x (by simp [DOp.opnds]),h1 y (by simp [DOp.opnds])]
 | nilq o k x y=>simp only [execU,h1 x (by simp [DOp.opnds]),h1 y (by simp [DOp.opnds])]
 | un o x=>simp only [execU,h1 x (by simp [DOp.opnds])]
 | cvi o x=>simp only [execU,h1 x (by simp [DOp.opnds])]
 | fa o x=>simp only [execU,h1 x (by simp [DOp.opnds])]
 | fld o k x=>simp only [execU,h1 x (by simp [DOp.opnds])]
 | ia es x i=>simp only [execU,h1 x (by simp [DOp.opnds]),h1 i (by simp [DOp.opnds])]
 | ixs x i=>simp only [execU,h1 x (by simp [DOp.opnds]),h1 i (by simp [DOp.opnds])]
 | len x=>simp only [execU,h1 x (by simp [DOp.opnds])]
 | lns x=>simp only [execU,h1 x (by simp [DOp.opnds])]
 | fx n es x i=>simp only [execU,h1 x (by simp [DOp.opnds]),h1 i (by simp [DOp.opnds])]
 | s2b x=>simp only [execU,h1 x (by simp [DOp.opnds])]
 | b2s x=>
  have hx:=h1 x (by simp [DOp.opnds])
  have hhx:=h2 rfl x (by simp [DOp.opnds])
  have e2:srcC s' 1 (s.ev x)=srcC s 1 (s.ev x):=by
   unfold srcC
   split
   ·rfl
   ·rfl
   ·rename_i id off m es' e
    rw [hhx id (by rw [e]; simp [DV.refs])]
   ·rfl
  simp only [execU,hx,e2]
 | frz x=>
  have hx:=h1 x (by simp [DOp.opnds])
  have hhx:=h2 rfl x (by simp [DOp.opnds])
  simp only [execU,hx]
  split
  ·rename_i id n e
   rw [hhx id (by rw [e]; simp [DV.refs])]
  ·rfl
 | mks T es b z l c=>simp only [execU,h1 l (by simp [DOp.opnds]),h1 c (by simp [DOp.opnds])]
 | ext x i=>simp only [execU,h1 x (by simp [DOp.opnds]),h1' x (by simp [DOp.opnds])]
 | mm o x y=>simp only [execU,h1 x (by simp [DOp.opnds]),h1 y (by simp [DOp.opnds])]
 | call f args=>rfl
 | cv tb f args=>rfl
 | bad=>rfl
theorem As6:∀ (rs:List DR) (acc:List (List Nat)),(ancs rs acc).length=acc.length+rs.length
 | [],acc=>by simp [ancs]
 | r :: rs,acc=>by simp [ancs,As6 rs]; omega
theorem Al4:∀ (rs:List DR) (acc:List (List Nat)) (k:Nat),k < acc.length→(ancs rs acc)[k]?=acc[k]?
 | [],acc,k,_=>rfl
 | r :: rs,acc,k,h=>by
  simp only [ancs]
  rw [Al4 rs _ k (by simp; omega),List.getElem?_append_left h]
theorem A15:∀ (rs:List DR) (acc:List (List Nat)) (k:Nat) (r:DR) (l:List Nat),rs[k]?=some r→(∀ (k:Nat) (r:DR),rs[k]?=some r→∀ j∈r.pre,j < acc.length+k)→(ancs rs acc)[acc.length+k]?=some l→
  ∀ x∈l,x∈r.pre∨∃ j∈r.pre,∃ l',(ancs rs acc)[j]?=some l'∧x∈l'
 | [],acc,k,r,l,h,_,_=>by simp at h
 | r0 :: rs,acc,0,r,l,h,hb,hl=>by
  simp at h; subst h
  intro x hx
  have hl':l=(r0.pre ++ r0.pre.flatMap fun j=>(acc[j]?).getD []).eraseDups:=by
   simp only [ancs] at hl
   rw [Al4 rs _ _ (by simp)] at hl
   simpa using hl.symm
  rw [hl',List.mem_eraseDups,List.mem_append] at hx
  rcases hx with hx | hx
  ·exact .inl hx
  ·obtain ⟨j,hj,hx⟩:=List.mem_flatMap.1 hx
   have hjl:j < acc.length:=hb 0 r0 rfl j hj
   refine .inr ⟨j,hj,acc[j],?_,by simpa [List.getElem?_eq_getElem hjl] using hx⟩
   simp only [ancs]
   rw [Al4 rs _ j (by simp; omega),List.getElem?_append_left hjl,List.getElem?_eq_getElem hjl]
 | r0 :: rs,acc,k+1,r,l,h,hb,hl=>by
  have key:=A15 rs (acc ++ [(r0.pre ++ r0.pre.flatMap fun j=>(acc[j]?).getD []).eraseDups]) k r l (by simpa using h)
   (fun k' r' hr' j hj=>by have:=hb (k'+1) r' (by simpa using hr') j hj; simp; omega)
   (by simp only [ancs] at hl; rw [← hl]; congr 1; simp; omega)
  simpa only [ancs] using key
def unl:List Bool→Nat
 | []=>0
 | b :: bs=>(if b then 0 else 1)+unl bs
theorem Bo1:∀ (l:List Bool) (i:Nat),l[i]?=some false→unl (l.set i true)+1=unl l
 | [],i,h=>by simp at h
 | b :: bs,0,h=>by simp at h; subst h; simp [unl]; omega
 | b :: bs,i+1,h=>by
  have:=Bo1 bs i (by simpa using h)
  simp only [List.set_cons_succ,unl]
  omega
theorem Bd6:∀ (l:List Bool),unl l=0→∀ b∈l,b=true
 | [],_,b,hb=>by cases hb
 | c :: bs,h,b,hb=>by
  simp only [unl] at h
  rcases List.mem_cons.1 hb with rfl | hb
  ·cases b
   ·simp at h
   ·rfl
  ·exact Bd6 bs (by omega) b hb
theorem Ba3 {rs:List DR} {L:List Bool} (hpre:∀ (k:Nat) (r:DR),rs[k]?=some r→∀ j∈r.pre,j < k) (hcl:∀ (i:Nat) (r:DR),L[i]?=some true→rs[i]?=some r→∀ j∈r.pre,L[j]?=some true) :
  ∀ (i:Nat) (r:DR) (l:List Nat),rs[i]?=some r→(∀ j∈r.pre,L[j]?=some true)→(ancs rs [])[i]?=some l→∀ x∈l,L[x]?=some true:=by
 intro i
 induction i using Nat.strongRecOn with
 | _ i ih=>
  intro r l hr hp hl x hx
  rcases A15 rs [] i r l hr (fun k r' hk j hj=>by have:=hpre k r' hk j hj; simp; omega) (by simpa using hl) x hx with h | ⟨j,hj,l',hl',hx'⟩
  ·exact hp x h
  ·have hji:=hpre i r hr j hj
   have hil:i < rs.length:=(List.getElem?_eq_some_iff.1 hr).1
   have hrj:rs[j]?=some rs[j]:=List.getElem?_eq_getElem (by omega)
   exact ih j hji rs[j] l' hrj (hcl j rs[j] (hp j hj) hrj) hl' x hx'
structure RG where
 d:Nat→DV
 lay:Nat→Option DObj
 tgt:Nat→Option Nat
 ob:Nat→DObj
 main:List Nat
 H:Nat→Nat→Option DObj
 N:Nat→Nat
section
variable (rs:List DR) (s0:DS) (D:RG)
def anR (i:Nat):List Nat:=((ancs rs [])[i]?).getD []
def anB (i j:Nat):Bool:=(anR rs i).contains j
def RG.pr (k j:Nat):Bool:=(D.main.take k).any fun q=>anB rs q j
def RG.unp (k id:Nat):Option Nat:=if s0.nx≤id∧id < s0.nx+rs.length∧(D.lay (id - s0.nx)).isSome=true∧D.pr rs k (id - s0.nx)=false then some (id - s0.nx) else none
def lastW (tgt:Nat→Option Nat) (L:Nat→Bool) (j:Nat):Nat→Option Nat
 | 0=>none
 | n+1=>if tgt n=some j∧L n=true then some n else lastW tgt L j n
def RG.cur (L:Nat→Bool) (j:Nat):Option DObj:=match lastW D.tgt L j rs.length with
 | some w=>some (D.ob w)
 | none=>D.lay j
def RG.full (L:Nat→Bool) (k:Nat):Nat→Option DObj:=fun id=>match D.unp rs s0 k id with
 | some j=>if L j then D.cur rs L j else none
 | none=>D.H k id
def RG.sv (L:Nat→Bool):Nat→DV:=fun t=>match rs.findIdx? (fun r=>r.dst == some t) with
 | some p=>if L p then D.d p else s0.sv t
 | none=>s0.sv t
def RG.at_ (L:Nat→Bool) (k:Nat):DS:=⟨D.sv rs s0 L,D.full rs s0 L k,D.N k⟩
def RG.st (i k:Nat):DS:=D.at_ rs s0 (anB rs i) k
def liveR (s:DS) (r:DR):Prop:=∀ t,.tmp t∈r.op.opnds→s.live (s.sv t)=true
def RG.may (i k:Nat):Prop:=k≤D.main.length∧(∀ (q j:Nat),q < k→D.main[q]?=some j→anB rs j i=false)∧(∀ (q j:Nat),k≤q→D.main[q]?=some j→anB rs i j=false)
def DS.hasU (s:DS):Upd→Bool
 | .wr id _=>(s.ho id).isSome
 | .mv (some id) _=>(s.ho id).isSome
 | _=>true
def callM (P:Program) (f:FuncId) (ds:List DV) (s:DS) (d:DV) (H':Nat→Option DObj) (n':Nat):Prop:=
 Ac7 P f=true∧(callI P f ds s (fun s' d'=>d'=d∧s'.ho=H'∧s'.nx=n')∨(H'=s.ho∧n'=s.nx∧(∀ x∈ds,x.refs=[])∧DCall P f ds fun d'=>d'=d))
def RG.ev (P:Program) (i:Nat) (r:DR):Prop:=
 match (D.st rs s0 i 0).wanted r.g with
 | none=>False
 | some false=>D.d i=.v undef∧D.lay i=none∧D.tgt i=none∧i∉D.main
 | some true=>match r.op with
  | .call f args=>∃ k,D.main[k]?=some i∧liveR (D.st rs s0 i k) r∧callM P f (args.map (D.st rs s0 i k).rv) (D.st rs s0 i k) (D.d i) (D.H (k+1)) (D.N (k+1))
  | .cv tb x args=>∃ k f fr cs,D.main[k]?=some i∧liveR (D.st rs s0 i k) r∧((D.st rs s0 i k).ev x).tgt tb=some (f,fr,cs)∧callM P f (fr ++ args.map (D.st rs s0 i k).rv ++ cs) (D.st rs s0 i k) (D.d i) (D.H (k+1)) (D.N (k+1))
  | op=>(∃ k u,D.main[k]?=some i∧liveR (D.st rs s0 i k) r∧(D.st rs s0 i k).hasU u=true∧execU (D.N k) (D.st rs s0 i k) op=some (D.d i,u)∧D.H (k+1)=u.app (D.N k) (D.st rs s0 i k).ho∧D.N (k+1)=if u.new then D.N k+1 else D.N k)∨
    (i∉D.main∧∀ k,D.may rs i k→liveR (D.st rs s0 i k) r∧∃ u,execU (s0.nx+i) (D.st rs s0 i k) op=some (D.d i,u)∧match u with
     | .keep=>D.lay i=none∧D.tgt i=none
     | .lay o=>D.lay i=some o∧D.tgt i=none
     | .wr id o=>∃ j,D.unp rs s0 k id=some j∧anB rs i j=true∧D.tgt i=some j∧D.ob i=o∧D.lay i=none
     | _=>False)
structure RG.OKs:Prop where
 pre:∀ (k:Nat) (r:DR),rs[k]?=some r→∀ j∈r.pre,j < k
 dst:∀ (i j:Nat) (r r':DR) (t:Nat),rs[i]?=some r→rs[j]?=some r'→r.dst=some t→r'.dst=some t→i=j
 rd:∀ (i:Nat) (r:DR) (t p:Nat),rs[i]?=some r→t∈r.tmps→rs.findIdx? (fun r=>r.dst == some t)=some p→anB rs i p=true∨anB rs p i=true∨p=i
 chain:∀ (a b i j:Nat),D.main[a]?=some i→D.main[b]?=some j→a < b→anB rs j i=true
 mlt:∀ (a i:Nat),D.main[a]?=some i→i < rs.length∧D.lay i=none∧D.tgt i=none
 wr1:∀ (w j:Nat),D.tgt w=some j→anB rs w j=true
 wr2:∀ (i j w:Nat),i < rs.length→w < rs.length→anB rs i j=true→D.tgt w=some j→anB rs i w=true∨anB rs w i=true∨w=i
 h0:D.H 0=s0.ho
 n0:D.N 0=s0.nx+rs.length
 mono:∀ k,D.N k≤D.N (k+1)
structure RG.OK (P:Program):Prop extends RG.OKs rs s0 D where
 ev:∀ (i:Nat) (r:DR),rs[i]?=some r→D.ev rs s0 P i r
end
end Go.DD
