/- Rounds of a range over a function. -/
import Derived.Test.YtpaggdhijeabnaaGreatDoorHi
namespace Go.DD
open Go.RowKit (Below)

def zipF : List Nat → List DV → (Nat → DV) → Nat → DV
  | p :: ps, d :: ds, f => zipF ps ds (fun u => if p = u then d else f u)
  | _, _, f => f

theorem zip_rel {W : Value → DV → Prop} {nt : Nat} : ∀ (ps : List Nat) (vs : List Value) (ds : List DV) (tmps : Array Value) (f : Nat → DV), vs.length = ps.length → ds.length = ps.length →
    (∀ t ∈ ps, t < nt) → tmps.size = nt → (∀ (j : Nat) (v : Value) (d : DV), vs[j]? = some v → ds[j]? = some d → W v d) → (∀ t, W (tmps.getD t undef) (f t)) →
    ((ps.zip vs).foldl (fun (t : Array Value) (p : Nat × Value) => t.setIfInBounds p.1 p.2) tmps).size = nt ∧ ∀ t, W (((ps.zip vs).foldl (fun (t : Array Value) (p : Nat × Value) => t.setIfInBounds p.1 p.2) tmps).getD t undef) (zipF ps ds f t)
  | [], _, _, tmps, f, _, _, _, hsz, _, hr => ⟨hsz, hr⟩
  | p :: ps, [], _, _, _, h, _, _, _, _, _ => by simp at h
  | p :: ps, _ :: _, [], _, _, _, h, _, _, _, _ => by simp at h
  | p :: ps, v :: vs, d :: ds, tmps, f, h1, h2, h3, hsz, hvd, hr => by
    simp only [List.zip_cons_cons, List.foldl_cons, zipF]
    refine zip_rel ps vs ds _ _ (by simpa using h1) (by simpa using h2) (fun t ht => h3 t (by simp [ht])) (by simpa using hsz) (fun j u e hu he => hvd (j + 1) u e (by simpa using hu) (by simpa using he)) fun t => ?_
    by_cases hpt : p = t
    · subst hpt
      simp only [if_true]
      have hlt : p < tmps.size := by rw [hsz]; exact h3 p (by simp)
      have : (tmps.setIfInBounds p v).getD p undef = v := by simp [hlt]
      rw [this]; exact hvd 0 v d rfl rfl
    · simp only [hpt, if_false]
      have : (tmps.setIfInBounds p v).getD t undef = tmps.getD t undef := by simp [Array.getElem?_setIfInBounds_ne hpt]
      rw [this]; exact hr t

/-- One round: the loop's code, in the frame of its record. -/
def roundK (P : Program) (id : Nat) (ds : List DV) (s : DS) (K : DS → DV → Prop) : Prop :=
  ∃ lp, s.ho id = some (.loop lp) ∧ lp.st = .ready ∧ ds.length = lp.ps.length ∧ (∀ t ∈ lp.ps, t < lp.nt) ∧ ∀ (S G : Nat → Prop) (w0 : World) (X : Value → DV → Prop) (M : Nat → Prop) (Y : Nat → Option DObj) (R : Nat → Prop) (l : Nat),
    DW ⟨P, S, G, w0, lp.nt, X, M, some l, Y, R⟩ lp.asg (fun e s1 => e = .normal ∧ ∃ lp1, s1.ho id = some (.loop lp1) ∧ lp1.st = .ready ∧
      DW ⟨P, S, G, w0, lp.nt, X, M, some l, Y, R⟩ lp.body (fun e s2 => ∃ lp2, s2.ho id = some (.loop lp2) ∧ match e with
        | .normal => K ⟨s.sv, setH s2.ho id (some (.loop { lp2 with st := .ready, pend := none })), s2.nx⟩ (.v (.bool true))
        | .ret => K ⟨s.sv, setH s2.ho id (some (.loop { lp2 with st := .done, pend := some .ret })), s2.nx⟩ (.v (.bool false))
        | .exit i => K ⟨s.sv, setH s2.ho id (some (.loop { lp2 with st := .done, pend := some (.exit i) })), s2.nx⟩ (.v (.bool false))
        | _ => False) (s1.lay id (some (.loop { lp1 with st := .busy })))) ⟨zipF lp.ps ds lp.sl.get, s.ho, s.nx⟩

section
variable {C : Ctx} {U : Nat → Prop} {s : DS} {β : Nat → Option Nat} {a : Act} {w : World}

/-- The record of an own loop is written. -/
theorem HoldsB.mark (hs : HoldsB C U s β a w) {id b : Nat} {lp : DLoop} {r : Loop} (hb : β id = some b) (ho : s.ho id = some (.loop lp)) (hr : w.heap[b]? = some (.loop r))
    (st : LoopState) (pend : Option Code) : HoldsB C U (s.lay id (some (.loop { lp with st := st, pend := pend }))) β a (w.putObj b (.loop { r with state := st, pending := pend })) := by
  have hlt : b < w.heap.size := (Array.getElem?_eq_some_iff.1 hr).1
  obtain ⟨b', r', hb', hr', q1, q2, q3, q4, q5, q6, hrel⟩ := hs.hh.hp id _ (vw_some ho)
  rw [hb] at hb'; cases hb'
  rw [hr] at hr'
  cases hr'
  exact (hs.wrote (w' := w.putObj b (.loop { r with state := st, pending := pend })) 0 id b (.loop { lp with st := st, pend := pend }) hb (by rw [ho]; rfl) (fun k hk => World.putObj_heap_other hk) (by simp) rfl rfl rfl
    (fun c T hc => by rw [hr] at hc; cases hc) fun hrel' => ⟨b, _, hb, World.putObj_heap_same hlt, q1, q2, q3, q4, rfl, rfl, fun t => hrel' _ _ (hrel t)⟩).1

theorem round_ok {id b : Nat} {ds : List DV} {vs : List Value} {K : DS → DV → Prop} (hs : HoldsB C (Us C s.nx) s β a w) (hR : ∀ id, C.R id → id < s.nx) (hb : β id = some b) (hl : vs.length = ds.length)
    (hr : ∀ (j : Nat) (v : Value) (d : DV), vs[j]? = some v → ds[j]? = some d → WV C (Us C s.nx) (s.vw C) β w v d) (hk : roundK C.P id ds s K) :
    ∃ fn tmps assign body, (Instr.yield b vs.toArray).run C.P w = .ok (.round b fn tmps assign body) w ∧
      RoundIn C.F 0 C.P b fn tmps assign body w fun e w' => ∃ v d s' β', e = .returned v ∧ K s' d ∧ (∀ id, C.R id → id < s'.nx) ∧ HoldsB C (Us C s'.nx) s' β' a w' ∧ WV C (Us C s'.nx) (s'.vw C) β' w' v d := by
  obtain ⟨lp, ho, hst, hlen, hps, h⟩ := hk
  obtain ⟨b', r, hb', hrb, q1, q2, q3, q4, q5, q6, hrel⟩ := hs.hh.hp id _ (vw_some ho)
  rw [hb] at hb'; cases hb'
  have hsz : vs.toArray.size = r.params.size := by rw [List.size_toArray, hl, hlen, ← q1, Array.length_toList]
  refine ⟨r.fn, _, r.assign, r.body, run_yield hrb hsz, roundIn_of_wpIn trivial ?_⟩
  obtain ⟨hz1, hz2⟩ := zip_rel (W := WV C (Us C s.nx) (s.vw C) β w) lp.ps vs ds r.tmps lp.sl.get (by omega) hlen hps q2 hr hrel
  have htm : (r.params.zip vs.toArray).foldl (fun tmps (x : Nat × Value) => tmps.setIfInBounds x.1 x.2) r.tmps = (lp.ps.zip vs).foldl (fun (t : Array Value) (p : Nat × Value) => t.setIfInBounds p.1 p.2) r.tmps := by
    rw [← Array.foldl_toList, Array.toList_zip, q1]
  obtain ⟨C', hC'⟩ : ∃ C', C' = C.inner (Us C s.nx) (s.vw C) β a.defers w lp.nt (some b) (fun _ => none) C.R := ⟨_, rfl⟩
  have hY : C'.Y = C.Y := by rw [hC']; rfl
  have hP : C'.P = C.P := by rw [hC']; rfl
  have hnt : C'.nt = lp.nt := by rw [hC']; rfl
  have hUs : ∀ nx, Us C' nx = Us C nx := fun nx => by rw [hC']; rfl
  have hvw : ∀ s : DS, s.vw C' = s.vw C := fun s => by unfold DS.vw; rw [hY]
  have hto : ∀ {U : Nat → Prop} {V : Nat → Option DObj} {β : Nat → Option Nat} {w : World}, HH C U V β w → HH C' U V β w ∧ ∀ x d, WV C' U V β w x d ↔ WV C U V β w x d := fun h => HH.ctx (by rw [hC']; rfl) (by rw [hC']; rfl) (by rw [hC']; rfl) (by rw [hC']; rfl) h
  have hfrom : ∀ {U : Nat → Prop} {V : Nat → Option DObj} {β : Nat → Option Nat} {w : World}, HH C' U V β w → HH C U V β w ∧ ∀ x d, WV C U V β w x d ↔ WV C' U V β w x d := fun h => HH.ctx (by rw [hC']; rfl) (by rw [hC']; rfl) (by rw [hC']; rfl) (by rw [hC']; rfl) h
  have hmk : ∀ {β : Nat → Option Nat} {w : World} {d : Deferred}, Mark C' β w d ↔ Mark C β w d := by rw [hC']; exact Iff.rfl
  have hent : HoldsB C' (Us C' s.nx) ⟨zipF lp.ps ds lp.sl.get, s.ho, s.nx⟩ β { tmps := (lp.ps.zip vs).foldl (fun (t : Array Value) (p : Nat × Value) => t.setIfInBounds p.1 p.2) r.tmps, defers := [] } w := by
    obtain ⟨g1, g2⟩ := hto hs.hh
    have e : (⟨zipF lp.ps ds lp.sl.get, s.ho, s.nx⟩ : DS).vw C' = s.vw C := hvw s
    refine ⟨by rw [hUs, e]; exact g1, ⟨List.nodup_nil, (fun d hd => by cases hd), (fun D hD => ?_), (fun D hD => by cases hD)⟩, by rw [hnt]; exact hz1, fun t => by rw [hUs, e]; exact (g2 _ _).2 (hz2 t), fun x d hx => ?_, by rw [hY]; exact hs.yd⟩
    · rw [hC'] at hD
      exact hmk.2 (hD.elim (hs.df.out D) hs.df.ownC)
    · rw [hUs, e]
      rw [hC'] at hx
      rcases hx with hx | hx
      · exact (g2 _ _).2 hx
      · exact (g2 _ _).2 (hs.gh x d (.inr hx))
  have hyl : WV C (Us C s.nx) (s.vw C) β w (.func (.yield b) #[] #[]) (.yl id) := hs.hh.wv (.yl id b hb) fun i hi => by
    obtain rfl : i = id := by simpa [DV.refs] using hi
    exact vw_alive (by rw [ho]; rfl)
  have hC2 : C' = ⟨C.P, C.S, C.G, C.w0, lp.nt, C'.X, C'.M, some b, C'.Y, C'.R⟩ := by rw [hC']; rfl
  have hX : ∀ x d, WV C (Us C s.nx) (s.vw C) β w x d → C'.X x d := fun x d hx => by rw [hC']; exact hx
  have hRR : C'.R = C.R := by rw [hC']; rfl
  have hrun := h C.S C.G C.w0 C'.X C'.M C'.Y C'.R b
  rw [← hC2] at hrun
  have hasg := hrun r.assign (by rw [hP, hnt]; exact q3) _ w ⟨by rw [hRR]; exact hR, β, hent⟩
  rw [← htm] at hasg
  have hF : C'.F = C.F.inRound b := by rw [hC']; rfl
  rw [hF, hP] at hasg
  -- the record's block is where it was
  have hblock : ∀ {s1 : DS} {β1 : Nat → Option Nat} {a1 : Act} {w1 : World} {o : DObj}, HoldsB C' (Us C' s1.nx) s1 β1 a1 w1 → s1.ho id = some o → β1 id = some b := fun {s1 β1 a1 w1 o} hs1 ho1 => by
    have h1 := (hs1.gh _ _ (.inl (hX _ _ hyl))).2.1 fun i hi => by
      obtain rfl : i = id := by simpa [DV.refs] using hi
      exact vw_alive (by rw [ho1]; rfl)
    obtain ⟨b2, e, hb2⟩ := rel_yl h1
    cases e; exact hb2
  refine wpIn_mono (F := C.F.inRound b) hasg ?_
  rintro e a1 w1 ⟨s1, ⟨rfl, lp1, ho1, hst1, hbody⟩, hR1, β1, hs1⟩
  have hb1 := hblock hs1 ho1
  obtain ⟨b1', r1, hb1', hrb1, _, _, _, _, q51, q61, _⟩ := hs1.hh.hp id _ (vw_some ho1)
  rw [hb1] at hb1'; cases hb1'
  refine ⟨_, run_beginRound hrb1 (by rw [q51, hst1]), ?_⟩
  have hs1' := hs1.mark hb1 ho1 hrb1 .busy lp1.pend
  rw [← q61] at hs1'
  have hw1' : ({ lp1 with st := LoopState.busy, pend := r1.pending } : DLoop) = { lp1 with st := .busy } := by rw [q61]
  rw [hw1'] at hs1'
  have hbw := hbody r.body (by rw [hP, hnt]; exact q4) a1 _ ⟨hR1, β1, hs1'⟩
  rw [hF, hP] at hbw
  refine wpIn_mono (F := C.F.inRound b) hbw ?_
  rintro e a2 w2 ⟨s2, ⟨lp2, ho2, hpost⟩, hR2, β2, hs2⟩
  have hb2 := hblock hs2 ho2
  obtain ⟨b2', r2, hb2', hrb2, _⟩ := hs2.hh.hp id _ (vw_some ho2)
  rw [hb2] at hb2'; cases hb2'
  have fin : ∀ (jump : Option Code) , K ⟨s.sv, setH s2.ho id (some (.loop { lp2 with st := if jump.isNone then .ready else .done, pend := jump })), s2.nx⟩ (.v (.bool jump.isNone)) →
      ∃ v w', (Instr.endRound b jump).run C.P w2 = .ok v w' ∧ ∃ v' d s' β', Ending.returned v = .returned v' ∧ K s' d ∧ (∀ id, C.R id → id < s'.nx) ∧ HoldsB C (Us C s'.nx) s' β' a w' ∧ WV C (Us C s'.nx) (s'.vw C) β' w' v' d := fun jump hK => by
    have hs3 := hs2.mark hb2 ho2 hrb2 (if jump.isNone then .ready else .done) jump
    obtain ⟨s3, hs3e⟩ : ∃ s3, s2.lay id (some (.loop { lp2 with st := if jump.isNone then .ready else .done, pend := jump })) = s3 := ⟨_, rfl⟩
    rw [hs3e] at hs3
    have hn3 : s3.nx = s2.nx := by rw [← hs3e]; rfl
    have hK' : K ⟨s.sv, s3.ho, s3.nx⟩ (.v (.bool jump.isNone)) := by rw [← hs3e]; exact hK
    obtain ⟨g1, g2⟩ := hfrom hs3.hh
    have e : s3.vw C' = (⟨s.sv, s3.ho, s3.nx⟩ : DS).vw C := hvw s3
    rw [hUs, e] at g1 g2
    have g3 : ∀ x d, WV C' (Us C' s2.nx) (s3.vw C') β2 _ x d → WV C (Us C s2.nx) ((⟨s.sv, s3.ho, s3.nx⟩ : DS).vw C) β2 _ x d := fun x d hx => by
      rw [hUs, e] at hx; exact (g2 x d).2 hx
    refine ⟨_, _, run_endRound jump hrb2, _, _, ⟨s.sv, s3.ho, s3.nx⟩, β2, rfl, hK', fun id hid => by simp only [hn3]; exact hR2 id (by rw [hRR]; exact hid), ?_, WV.v _⟩
    simp only [hn3]
    refine ⟨by rw [← hn3]; simpa only [hn3] using g1, ⟨hs.df.nodup, fun d hd => ?_, fun D hD => ?_, hs.df.apart⟩, hs.sz, fun t => ?_, fun x d hx => ?_, fun i o hy => ?_⟩
    · rcases hs.df.own d hd with ⟨D, e, _⟩ | hq
      · subst e
        exact .inl (hmk.1 (hs3.df.out D (by rw [hC']; exact .inr hd)))
      · exact .inr hq
    · exact hmk.1 (hs3.df.out D (by rw [hC']; exact .inl hD))
    · have := g3 _ _ (hs3.gh _ _ (.inl (hX _ _ (hs.sl t))))
      simpa only [hn3] using this
    · have := g3 _ _ (hs3.gh _ _ (.inl (hX _ _ (hs.gh x d hx))))
      simpa only [hn3] using this
    · exact hs3.yd i o (by rw [hY]; exact hy)
  cases e with
  | normal => exact fin none hpost
  | ret => exact fin (some .ret) hpost
  | exit i => exact fin (some (.exit i)) hpost
  | _ => exact hpost.elim
end

end Go.DD
