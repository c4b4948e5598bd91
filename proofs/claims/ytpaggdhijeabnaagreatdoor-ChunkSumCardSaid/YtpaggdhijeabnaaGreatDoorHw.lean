/- The evaluator's regions that draw their order: the run in the text's order serves every order. -/
import Derived.Test.YtpaggdhijeabnaaGreatDoorHv
namespace Go.DD

/-! What the text says of a region. -/
def kdI (rs : List DR) (i : Nat) : Nat := ((rs[i]?).map fun r => if (mupTgt rs r.op).isSome then 3 else r.op.kind).getD 0
def tgtI (rs : List DR) (r : DR) : Nat := (mupTgt rs r.op).getD 0
def mainsI (rs : List DR) : List Nat := (List.range rs.length).filter fun i => kdI rs i == 2
theorem kd_le (rs : List DR) (i : Nat) : kdI rs i ≤ 3 := by
  unfold kdI
  cases rs[i]? with
  | none => simp
  | some r =>
    simp only [Option.map_some, Option.getD_some]
    split
    · omega
    · have : r.op.kind ≤ 2 := by cases r.op <;> simp [DOp.kind]
      omega
theorem kd_get (rs : List DR) (i : Nat) : (((List.range rs.length).map (kdI rs))[i]?).getD 0 = kdI rs i := by
  by_cases h : i < rs.length
  · simp [h]
  · simp [h, kdI]
def okI (rs : List DR) : Bool :=
    (rs.zipIdx.all fun (r, i) => (r.pre.all fun j => decide (j < i)) &&
      (match r.dst with | some t => dstIx rs t == some i | none => true) &&
      r.tmps.all fun t => match dstIx rs t with | some p => anB rs i p || anB rs p i || p == i | none => true) &&
    ((mainsI rs).all fun b => (mainsI rs).all fun a => !(decide (a < b)) || anB rs b a) &&
    ((rs.zipIdx.map fun (r, i) => { an := anR rs i, cls := kdI rs i, tgt := tgtI rs r, wide := (mainsI rs).any fun q => !anB rs q i && !anB rs i q : OI }).zipIdx.all fun (o, w) => o.cls != 3 || (anB rs w o.tgt && (List.range rs.length).all fun i => !anB rs i o.tgt || anB rs i w || anB rs w i || w == i))
theorem info_eq (rs : List DR) : regInfo rs = { l := rs.zipIdx.map fun (r, i) => { an := anR rs i, cls := kdI rs i, tgt := tgtI rs r, wide := (mainsI rs).any fun q => !anB rs q i && !anB rs i q : OI }, ok := okI rs } := by
  have e : (fun i => (((List.range rs.length).map (kdI rs))[i]?).getD 0) = kdI rs := funext fun i => kd_get rs i
  have e' : ∀ i, (((List.range rs.length).map (kdI rs))[i]?).getD 0 = kdI rs i := kd_get rs
  have h : regInfo rs = (fun K : Nat → Nat => ({ l := rs.zipIdx.map fun (r, i) => { an := anR rs i, cls := K i, tgt := tgtI rs r, wide := ((List.range rs.length).filter fun i => K i == 2).any fun q => !anB rs q i && !anB rs i q : OI }, ok := 
    (rs.zipIdx.all fun (r, i) => (r.pre.all fun j => decide (j < i)) &&
      (match r.dst with | some t => dstIx rs t == some i | none => true) &&
      r.tmps.all fun t => match dstIx rs t with | some p => anB rs i p || anB rs p i || p == i | none => true) &&
    (((List.range rs.length).filter fun i => K i == 2).all fun b => ((List.range rs.length).filter fun i => K i == 2).all fun a => !(decide (a < b)) || anB rs b a) &&
    ((rs.zipIdx.map fun (r, i) => { an := anR rs i, cls := K i, tgt := tgtI rs r, wide := ((List.range rs.length).filter fun i => K i == 2).any fun q => !anB rs q i && !anB rs i q : OI }).zipIdx.all fun (o, w) => o.cls != 3 || (anB rs w o.tgt && (List.range rs.length).all fun i => !anB rs i o.tgt || anB rs i w || anB rs w i || w == i)) } : RI)) (fun i => (((List.range rs.length).map (kdI rs))[i]?).getD 0) := rfl
  rw [h, e]
  rfl
theorem info_get {rs : List DR} {i : Nat} {r : DR} (hr : rs[i]? = some r) : (regInfo rs).l[i]? = some { an := anR rs i, cls := kdI rs i, tgt := tgtI rs r, wide := (mainsI rs).any fun q => !anB rs q i && !anB rs i q : OI } := by
  rw [info_eq]
  simp [List.getElem?_map, List.getElem?_zipIdx, hr]
theorem info_len (rs : List DR) : (regInfo rs).l.length = rs.length := by rw [info_eq]; simp

theorem zipIdx_mem {α : Type} {l : List α} {i : Nat} {x : α} (h : l[i]? = some x) : (x, i) ∈ l.zipIdx := by
  rw [List.mem_zipIdx_iff_getElem?]; exact h
structure OkI (rs : List DR) : Prop where
  pre : ∀ (k : Nat) (r : DR), rs[k]? = some r → ∀ j ∈ r.pre, j < k
  dst : ∀ (i : Nat) (r : DR) (t : Nat), rs[i]? = some r → r.dst = some t → dstIx rs t = some i
  rd : ∀ (i : Nat) (r : DR) (t p : Nat), rs[i]? = some r → t ∈ r.tmps → dstIx rs t = some p → anB rs i p = true ∨ anB rs p i = true ∨ p = i
  ch : ∀ a b, a < rs.length → b < rs.length → kdI rs a = 2 → kdI rs b = 2 → a < b → anB rs b a = true
  wr : ∀ (w : Nat) (r : DR), rs[w]? = some r → kdI rs w = 3 → anB rs w (tgtI rs r) = true ∧ ∀ i, i < rs.length → anB rs i (tgtI rs r) = true → anB rs i w = true ∨ anB rs w i = true ∨ w = i
theorem okI_ok {rs : List DR} (h : (regInfo rs).ok = true) : OkI rs := by
  rw [info_eq] at h
  replace h : okI rs = true := h
  unfold okI at h
  rw [Bool.and_eq_true, Bool.and_eq_true] at h
  obtain ⟨⟨h1, h2⟩, h3⟩ := h
  have k1 : ∀ (i : Nat) (r : DR), rs[i]? = some r → _ := fun i r hr => List.all_eq_true.1 h1 (r, i) (zipIdx_mem hr)
  simp only [Bool.and_eq_true] at k1
  have hm : ∀ a, a < rs.length → kdI rs a = 2 → a ∈ mainsI rs := fun a h1 h2 => by simp [mainsI, h1, h2]
  refine ⟨fun k r hr j hj => ?_, fun i r t hr ht => ?_, fun i r t p hr ht hp => ?_, fun a b ha hb ka kb hlt => ?_, fun w r hr hk => ?_⟩
  · simpa using List.all_eq_true.1 (k1 k r hr).1.1 j hj
  · have := (k1 i r hr).1.2
    rw [ht] at this
    simpa using this
  · have := List.all_eq_true.1 (k1 i r hr).2 t ht
    rw [hp] at this
    simp only [Bool.or_eq_true, beq_iff_eq] at this
    rcases this with (h | h) | h
    · exact .inl h
    · exact .inr (.inl h)
    · exact .inr (.inr h)
  · have := List.all_eq_true.1 (List.all_eq_true.1 h2 b (hm b hb kb)) a (hm a ha ka)
    simpa [hlt] using this
  · have hl := info_get hr
    rw [info_eq] at hl
    have := List.all_eq_true.1 h3 _ (zipIdx_mem hl)
    simp only [hk, Bool.or_eq_true, Bool.and_eq_true] at this
    rcases this with h | ⟨h4, h5⟩
    · simp at h
    · refine ⟨h4, fun i hi hit => ?_⟩
      have := List.all_eq_true.1 h5 i (by simpa using hi)
      simp only [hit, Bool.not_true, Bool.false_or, Bool.or_eq_true, beq_iff_eq] at this
      rcases this with (h | h) | h
      · exact .inl h
      · exact .inr (.inl h)
      · exact .inr (.inr h)

theorem ancs_conv : ∀ (rs : List DR) (acc : List (List Nat)) (k : Nat) (r : DR) (l : List Nat), rs[k]? = some r → (∀ (k : Nat) (r : DR), rs[k]? = some r → ∀ j ∈ r.pre, j < acc.length + k) → (ancs rs acc)[acc.length + k]? = some l →
    ∀ x, (x ∈ r.pre ∨ ∃ j ∈ r.pre, ∃ l', (ancs rs acc)[j]? = some l' ∧ x ∈ l') → x ∈ l
  | [], acc, k, r, l, h, _, _ => by simp at h
  | r0 :: rs, acc, 0, r, l, h, hb, hl => by
    simp at h; subst h
    intro x hx
    have hl' : l = (r0.pre ++ r0.pre.flatMap fun j => (acc[j]?).getD []).eraseDups := by
      simp only [ancs] at hl
      rw [ancs_keep rs _ _ (by simp)] at hl
      simpa using hl.symm
    rw [hl', List.mem_eraseDups, List.mem_append]
    rcases hx with hx | ⟨j, hj, l', hl2, hx⟩
    · exact .inl hx
    · have hjl : j < acc.length := hb 0 r0 rfl j hj
      refine .inr (List.mem_flatMap.2 ⟨j, hj, ?_⟩)
      simp only [ancs] at hl2
      rw [ancs_keep rs _ j (by simp; omega), List.getElem?_append_left hjl] at hl2
      rw [hl2]; exact hx
  | r0 :: rs, acc, k + 1, r, l, h, hb, hl => by
    have key := ancs_conv rs (acc ++ [(r0.pre ++ r0.pre.flatMap fun j => (acc[j]?).getD []).eraseDups]) k r l (by simpa using h)
      (fun k' r' hr' j hj => by have := hb (k' + 1) r' (by simpa using hr') j hj; simp; omega)
      (by simp only [ancs] at hl; rw [← hl]; congr 1; simp; omega)
    simpa only [ancs] using key

section
variable {rs : List DR} (hI : OkI rs)

theorem an_get {i : Nat} {r : DR} (hr : rs[i]? = some r) : (ancs rs [])[i]? = some (anR rs i) := by
  have hil : i < (ancs rs []).length := by rw [ancs_len]; have := (List.getElem?_eq_some_iff.1 hr).1; simpa using this
  simp [anR, List.getElem?_eq_getElem hil]
include hI
theorem an_iff {i : Nat} {r : DR} (hr : rs[i]? = some r) (x : Nat) : anB rs i x = true ↔ x ∈ r.pre ∨ ∃ j ∈ r.pre, anB rs j x = true := by
  have hb : ∀ (k : Nat) (r : DR), rs[k]? = some r → ∀ j ∈ r.pre, j < ([] : List (List Nat)).length + k := fun k r' hk j hj => by have := hI.pre k r' hk j hj; simp; omega
  have hpre : ∀ j ∈ r.pre, ∃ rj, rs[j]? = some rj := fun j hj => by
    have h1 := hI.pre i r hr j hj
    have h2 := (List.getElem?_eq_some_iff.1 hr).1
    exact ⟨rs[j], List.getElem?_eq_getElem (by omega)⟩
  constructor
  · intro h
    rcases ancs_ok rs [] i r _ hr hb (by simpa using an_get hr) x (by simpa [anB] using h) with h | ⟨j, hj, l', hl', hx⟩
    · exact .inl h
    · exact .inr ⟨j, hj, by simp [anB, anR, hl', hx]⟩
  · intro h
    have := ancs_conv rs [] i r _ hr hb (by simpa using an_get hr) x (by
      rcases h with h | ⟨j, hj, h⟩
      · exact .inl h
      · obtain ⟨rj, hrj⟩ := hpre j hj
        exact .inr ⟨j, hj, _, an_get hrj, by simpa [anB] using h⟩)
    simpa [anB] using this
theorem an_lt {i j : Nat} (hi : i < rs.length) (h : anB rs i j = true) : j < i := by
  induction i using Nat.strongRecOn with
  | _ i ih =>
    have hr : rs[i]? = some rs[i] := List.getElem?_eq_getElem hi
    rcases (an_iff hI hr j).1 h with h | ⟨x, hx, h⟩
    · exact hI.pre i _ hr j h
    · have h1 := hI.pre i _ hr x hx
      have := ih x h1 (by omega) h
      omega
theorem an_trans {a b c : Nat} (ha : a < rs.length) (h1 : anB rs a b = true) (h2 : anB rs b c = true) : anB rs a c = true := by
  induction a using Nat.strongRecOn with
  | _ a ih =>
    have hr : rs[a]? = some rs[a] := List.getElem?_eq_getElem ha
    rcases (an_iff hI hr b).1 h1 with h | ⟨x, hx, h⟩
    · exact (an_iff hI hr c).2 (.inr ⟨b, h, h2⟩)
    · have hxl := hI.pre a _ hr x hx
      exact (an_iff hI hr c).2 (.inr ⟨x, hx, ih x hxl (by omega) h⟩)
end

/-! What is the same is equal. -/
theorem sameV_eq : ∀ {a b : Value}, sameV a b = true → a = b := by
  intro a b h
  unfold sameV at h
  split at h
  · simpa using h
  · simp only [Bool.and_eq_true, beq_iff_eq] at h; rw [h.1, h.2]
  · rename_i a b
    have h1 : a.data.toList = b.data.toList := by simpa using h
    have h2 : a.data = b.data := Array.toList_inj.1 h1
    obtain ⟨a⟩ := a; obtain ⟨b⟩ := b
    simp only at h2; rw [h2]
  · rfl
  · simp only [Bool.and_eq_true, beq_iff_eq] at h; rw [h.1, h.2]
  · rfl
  · rfl
  · rfl
  · cases h
theorem sameL_eq {f : DV → DV → Bool} (hf : ∀ a b, f a b = true → a = b) : ∀ {a b : List DV}, sameL f a b = true → a = b
  | [], [], _ => rfl
  | a :: as, b :: bs, h => by
    simp only [sameL, Bool.and_eq_true] at h
    rw [hf a b h.1, sameL_eq hf h.2]
  | [], _ :: _, h => by cases h
  | _ :: _, [], h => by cases h
theorem sameFn_eq {a b : Fn} (h : sameFn a b = true) : a = b := by
  unfold sameFn at h
  split at h
  · rw [beq_iff_eq.1 h]
  · cases h
theorem sameDV_eq : ∀ (n : Nat) (a b : DV), sameDV n a b = true → a = b
  | 0, _, _, h => by cases h
  | n + 1, a, b, h => by
    have ih := sameDV_eq n
    cases a <;> cases b <;> simp only [sameDV, Bool.and_eq_true, beq_iff_eq] at h <;> first
      | rfl
      | (cases h; done)
      | (rw [sameV_eq h]; done)
      | (rw [sameL_eq ih h]; done)
      | (rw [h.1, sameL_eq ih h.2]; done)
      | (rw [sameFn_eq h.1, sameL_eq ih h.2]; done)
      | (rw [h.1, ih _ _ h.2]; done)
      | (rw [h]; done)
      | (obtain ⟨⟨⟨h1, h2⟩, h3⟩, h4⟩ := h; rw [h1, h2, h3, h4]; done)
      | (obtain ⟨h1, h2⟩ := h; rw [h1, h2]; done)
theorem sameK_eq {a b : Value} (h : sameK' a b = true) : a = b := by
  unfold sameK' at h
  split at h
  · rename_i x y
    have key : ∀ l m : List Value, sameL (fun x y => match x, y with | .v x, .v y => sameV x y | _, _ => false) (l.map .v) (m.map .v) = true → l = m := by
      intro l
      induction l with
      | nil => intro m h; cases m with
        | nil => rfl
        | cons _ _ => simp [sameL] at h
      | cons u l ih => intro m h; cases m with
        | nil => simp [sameL] at h
        | cons v m =>
          simp only [List.map_cons, sameL, Bool.and_eq_true] at h
          rw [sameV_eq h.1, ih m h.2]
    rw [Array.toList_inj.1 (key _ _ h)]
  · exact sameV_eq h
theorem sameM_eq {n : Nat} : ∀ {a b : List ME}, sameM n a b = true → a = b
  | [], [], _ => rfl
  | ⟨k, v, c⟩ :: a, ⟨k', v', c'⟩ :: b, h => by
    simp only [sameM, Bool.and_eq_true, beq_iff_eq] at h
    obtain ⟨⟨⟨h1, h2⟩, h3⟩, h4⟩ := h
    rw [sameK_eq h1, sameDV_eq n _ _ h2, h3, sameM_eq h4]
  | [], _ :: _, h => by simp [sameM] at h
  | _ :: _, [], h => by simp [sameM] at h
theorem sameNs_eq : ∀ {a b : List Nat}, sameNs a b = true → a = b
  | [], [], _ => rfl
  | x :: a, y :: b, h => by
    simp only [sameNs, Bool.and_eq_true, beq_iff_eq] at h
    rw [h.1, sameNs_eq h.2]
  | [], _ :: _, h => by simp [sameNs] at h
  | _ :: _, [], h => by simp [sameNs] at h
theorem sameO_eq {a b : DObj} (h : sameO a b = true) : a = b := by
  unfold sameO at h
  split at h
  · simp only [Bool.and_eq_true, beq_iff_eq] at h
    rw [h.1, sameL_eq (sameDV_eq 6) h.2]
  · simp only [Bool.and_eq_true, beq_iff_eq] at h
    rw [h.1, sameM_eq h.2]
  · simp only [Bool.and_eq_true, beq_iff_eq] at h
    obtain ⟨⟨⟨h1, h2⟩, h3⟩, h4⟩ := h
    rw [sameDV_eq 2 _ _ h1, h2, sameNs_eq h3, h4]
  · cases h
theorem sameAt_eq {a b : Tr DObj} {id : Nat} (h : sameAt a b id = true) : a.get id = b.get id := by
  unfold sameAt at h
  split at h
  · rename_i h1 h2; rw [h1, h2, sameO_eq h]
  · cases h

/-! The run. -/
structure Run (P : Program) (rs : List DR) (s0 : DS) (Δ : Nat → DSt) (ρ : Nat → Rec) : Prop where
  ok : OkI rs
  fr : s0.Fr
  z : (Δ 0).es.ds = ⟨s0.sv, s0.ho, s0.nx + rs.length⟩
  lo0 : (Δ 0).lo = []
  sem : ∀ i r o, rs[i]? = some r → (regInfo rs).l[i]? = some o → Sem P s0.nx rs.length i r o (Δ i) (Δ (i + 1)) (ρ i)
  nil : ∀ i, rs.length ≤ i → ρ i = Rec.nil
  look : okLook s0.nx rs.length (Δ rs.length).ws (Δ rs.length).ps = true

theorem Sem.gw {P : Program} {n0 m i : Nat} {r : DR} {o : OI} {δ δ' : DSt} {ρ : Rec} (h : Sem P n0 m i r o δ δ' ρ) (hi : i < m) (hn : n0 + m ≤ δ.es.nx) : δ.es.nx ≤ δ'.es.nx ∧ ∀ id, δ.es.ds.ho id = none → δ'.es.ds.ho id ≠ none → n0 ≤ id ∧ id < δ'.es.nx := by
  have nxe : ∀ {s : DS} {d : DV}, δ'.es.ds = s.put r.dst d → δ'.es.nx = s.nx ∧ δ'.es.ds.ho = s.ho := fun {s d} h => by
    have h1 : δ'.es.ds.nx = s.nx := by rw [h, DS.nx_put]
    exact ⟨h1, by rw [h, DS.ho_put]⟩
  have nxd : δ.es.ds.nx = δ.es.nx := rfl
  cases h with
  | off hw hd hl ht hm he hlo hws hps =>
    obtain ⟨e1, e2⟩ := nxe he
    rw [e1, e2]
    exact ⟨Nat.le_refl _, fun id h1 h2 => absurd h1 h2⟩
  | read hw hrf hx hl ht hm he hlo hws hlk hps =>
    obtain ⟨e1, e2⟩ := nxe he
    rw [e1, e2]
    exact ⟨Nat.le_refl _, fun id h1 h2 => absurd h1 h2⟩
  | lay ob hw hrf hx hl ht hm he hlo hws hlk hps =>
    obtain ⟨e1, e2⟩ := nxe he
    rw [e1, e2]
    refine ⟨Nat.le_refl _, fun id h1 h2 => ?_⟩
    simp only [setH] at h2
    split at h2
    · show n0 ≤ id ∧ id < δ.es.nx; omega
    · exact absurd h1 h2
  | wr ob hw hc hrf hx hal hlt han hl ht hob hm he hlo hws hps =>
    obtain ⟨e1, e2⟩ := nxe he
    rw [e1, e2]
    refine ⟨Nat.le_refl _, fun id h1 h2 => ?_⟩
    simp only [setH] at h2
    split at h2
    · rename_i e
      have := execU_hasU hx
      simp only [DS.hasU] at this
      rw [e] at h1; rw [h1] at this; cases this
    · exact absurd h1 h2
  | main hid hs hhid hhs hw hc hrf hx hg hl ht hm he hlo hws hps =>
    obtain ⟨e1, e2⟩ := nxe he
    rw [e1, e2]
    have hle : δ.es.nx ≤ ρ.N := by have := hg.le; rw [hhs] at this; exact this
    refine ⟨hle, fun id h1 h2 => ?_⟩
    simp only at h2
    split at h2
    · exact absurd h1 h2
    · rename_i hnh
      have := hg.new id (by rw [hhs]; simp only; rw [if_neg hnh]; exact h1) h2
      rw [hhs] at this
      have h3 : δ.es.nx ≤ id ∧ id < ρ.N := this
      exact ⟨by omega, h3.2⟩
theorem Sem.fr {P : Program} {n0 m i : Nat} {r : DR} {o : OI} {δ δ' : DSt} {ρ : Rec} (h : Sem P n0 m i r o δ δ' ρ) (hi : i < m) (hn : n0 + m ≤ δ.es.nx) (hfr : δ.es.ds.Fr) : δ'.es.ds.Fr := fun id hid => by
  obtain ⟨h1, h2⟩ := h.gw hi hn
  have hid' : δ'.es.nx ≤ id := hid
  cases h4 : δ'.es.ds.ho id with
  | none => rfl
  | some o =>
    have := h2 id (hfr id (by show δ.es.nx ≤ id; omega)) (by rw [h4]; simp)
    omega

theorem run_trace {P : Program} {call : CallT} (hc : CallOK P call) {n0 m : Nat} : ∀ (rs : List DR) (os : List OI) (i : Nat) (δ δ' : DSt), rs.length = os.length → i + rs.length ≤ m → rundE rs os i call n0 m δ = some δ' → δ.es.ds.Fr → n0 + m ≤ δ.es.nx →
    ∃ (Δ : Nat → DSt) (ρ : Nat → Rec), Δ 0 = δ ∧ Δ rs.length = δ' ∧ ∀ j r o, rs[j]? = some r → os[j]? = some o → Sem P n0 m (i + j) r o (Δ j) (Δ (j + 1)) (ρ j)
  | [], os, i, δ, δ', hl, hm, h, hfr, hn => by
    have h3 : some δ = some δ' := by
      cases os <;> exact h
    cases h3
    exact ⟨fun _ => δ, fun _ => Rec.nil, rfl, rfl, fun j r o hr => by simp at hr⟩
  | r :: rs, [], i, δ, δ', hl, hm, h, hfr, hn => by simp at hl
  | r :: rs, o :: os, i, δ, δ', hl, hm, h, hfr, hn => by
    have h' : dq (dstpG i r o) (rundE rs os (i + 1)) call n0 m δ = some δ' := h
    obtain ⟨δ1, h1, h2⟩ := optR h'
    obtain ⟨ρ0, hs⟩ := dstpG_sem hc hfr h1
    have him : i < m := by simp at hm; omega
    obtain ⟨g1, _⟩ := hs.gw him hn
    obtain ⟨Δ, ρ, e1, e2, e3⟩ := run_trace hc rs os (i + 1) δ1 δ' (by simpa using hl) (by simp at hm; omega) h2 (hs.fr him hn hfr) (by omega)
    refine ⟨fun j => match j with | 0 => δ | j + 1 => Δ j, fun j => match j with | 0 => ρ0 | j + 1 => ρ j, rfl, e2, fun j r' o' hr ho => ?_⟩
    cases j with
    | zero =>
      simp at hr ho
      subst hr; subst ho
      show Sem P n0 m (i + 0) r o δ (Δ 0) ρ0
      rw [e1]; exact hs
    | succ j =>
      have := e3 j r' o' (by simpa using hr) (by simpa using ho)
      rw [show i + (j + 1) = i + 1 + j by omega]
      exact this

theorem run_of {P : Program} {call : CallT} (hc : CallOK P call) {rs : List DR} {es es' : ES} (hok : (regInfo rs).ok = true) (h : regE rs.length (rundE rs (regInfo rs).l 0) call es = some es') (hfr : es.ds.Fr) : ∃ Δ ρ, Run P rs es.ds Δ ρ ∧ (Δ rs.length).es = es' := by
  unfold regE at h
  obtain ⟨δ', h1, h2⟩ := optR h
  obtain ⟨h3, h4⟩ := iteB_some h2
  cases h4
  rw [cs_eq, forceN_eq] at h1
  obtain ⟨Δ, ρ, e1, e2, e3⟩ := run_trace hc rs (regInfo rs).l 0 _ _ (info_len rs).symm (by omega) h1 (fun id hid => hfr id (by
    have : es.nx + rs.length ≤ id := hid
    show es.nx ≤ id; omega)) (Nat.le_refl _)
  refine ⟨Δ, fun i => if i < rs.length then ρ i else Rec.nil, ⟨okI_ok hok, hfr, by rw [e1]; rfl, by rw [e1], fun i r o hr ho => ?_, fun i hi => if_neg (by omega), by rw [e2]; exact h3⟩, by rw [e2]⟩
  have := e3 i r o hr ho
  rw [Nat.zero_add] at this
  rw [if_pos (List.getElem?_eq_some_iff.1 hr).1]
  exact this
end Go.DD
