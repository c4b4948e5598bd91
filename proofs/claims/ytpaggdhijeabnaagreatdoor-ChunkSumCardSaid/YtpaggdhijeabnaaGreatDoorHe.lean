/- Each operation on deep values is what the model's operation does (second part: reads, and addresses). -/
import Derived.Test.YtpaggdhijeabnaaGreatDoorHd
import Derived.Laws.CopyRow
import Derived.Laws.Slices
import Derived.Laws.IdiomStrings
namespace Go.DD
open Go.RowKit (Below)

section ops
variable {C : Ctx} {U : Nat → Prop} {s : DS} {β : Nat → Option Nat} {a : Act} {w : World} {o : Oper} {d : DV} {s' : DS} {nid : Nat}

theorem run_sizeOf_pos {P : Program} {t : TypeId} (h : P.cellsOf t ≠ 0) (w : World) : (sizeOf t).run P w = .ok (P.cellsOf t) w := by
  unfold Program.cellsOf at *
  cases hi : P.info? t with
  | none => simp [hi] at h
  | some i => simp [sizeOf, typeInfo, hi]

theorem run_loadVar_list {P : Program} {t : TypeId} {k : Option Nat} (hk : tkind P t = some k) (ad : Addr) (us : List Value) (hc : ∀ (j : Nat) (u : Value), us[j]? = some u → w.cell? (ad.add j) = some u) :
    (k = none → ∀ u, us[0]? = some u → (loadVar t ad).run P w = .ok u w) ∧ (∀ n, k = some n → n ≤ us.length → (loadVar t ad).run P w = .ok (.agg (us.take n).toArray) w) := by
  constructor
  · rintro rfl u hu
    obtain ⟨h1, _, _⟩ := run_tkind_one hk w
    have := hc 0 u hu
    simp [Addr.add] at this
    simp [loadVar, h1, this]
  · rintro n rfl hn
    obtain ⟨h1, h2, _⟩ := run_tkind_agg hk w
    have h3 := run_loadCells_list (P := P) w ad (us.take n) (fun j v hv => hc j v (by
      rw [List.getElem?_take] at hv
      split at hv
      · exact hv
      · cases hv))
    rw [List.length_take, Nat.min_eq_left hn] at h3
    simp [loadVar, h1, h2, h3]

theorem relI_refs {al : Nat → Prop} {x : Value} {d : DV} (h : RelI w al x d) : d.refs = [] := by
  have hl : ∀ cs : List DV, (∀ d ∈ cs, d.refs = []) → DV.refsL cs = [] := fun cs => by
    induction cs with
    | nil => intro _; rfl
    | cons c cs ih => intro hc; simp only [DV.refsL]; rw [hc c (by simp), ih fun d hd => hc d (by simp [hd])]; rfl
  induction h with
  | any x => rfl
  | v x => rfl
  | agg vs cs hl' _ _ ih =>
    rw [DV.refs]
    refine hl cs fun d hd => ?_
    obtain ⟨j, hj, rfl⟩ := List.mem_iff_getElem.1 hd
    exact ih j vs[j] _ (List.getElem?_eq_getElem (by omega)) (List.getElem?_eq_getElem hj)
  | tup vs cs hl' _ ih =>
    rw [DV.refs]
    refine hl cs fun d hd => ?_
    obtain ⟨j, hj, rfl⟩ := List.mem_iff_getElem.1 hd
    exact ih j vs[j] _ (List.getElem?_eq_getElem (by omega)) (List.getElem?_eq_getElem hj)
  | fn f us vs cs hl' _ ih =>
    rw [DV.refs]
    refine hl cs fun d hd => ?_
    obtain ⟨j, hj, rfl⟩ := List.mem_iff_getElem.1 hd
    exact ih j (Value.tuple us.toArray :: vs)[j] _ (List.getElem?_eq_getElem (by omega)) (List.getElem?_eq_getElem hj)
  | ifc T u d _ ih => rw [DV.refs]; exact ih
  | _ => rfl

theorem wv_imm {V : Nat → Option DObj} {x : Value} {d : DV} (h : RelI w (alw C w β) x d) : WV C U V β w x d := WV.flat (.imm _ _ h) (relI_refs h)

theorem part_rel {V : Nat → Option DObj} {k : Option Nat} {us : List Value} {cs : List DV} (hl : cs.length ≤ us.length) (ho : ∀ (j : Nat) (u : Value), us[j]? = some u → j < cs.length → u.oneCell' = true)
    (hr : ∀ (j : Nat) (u : Value) (d : DV), us[j]? = some u → cs[j]? = some d → WV C U V β w u d) (hp : partD k cs = some d) :
    (k = none → ∃ u, us[0]? = some u ∧ WV C U V β w u d) ∧ (∀ n, k = some n → n ≤ us.length ∧ WV C U V β w (.agg (us.take n).toArray) d) := by
  cases k with
  | none =>
    refine ⟨fun _ => ?_, fun n hn => (by cases hn)⟩
    simp only [partD] at hp
    split at hp
    · rename_i c tl
      cases hp
      have h0 : 0 < us.length := by simp at hl; omega
      exact ⟨us[0], List.getElem?_eq_getElem h0, hr 0 _ _ (List.getElem?_eq_getElem h0) (by simp)⟩
    · cases hp
  | some n =>
    refine ⟨fun h => (by cases h), fun n' hn' => ?_⟩
    cases hn'
    simp only [partD] at hp
    split at hp
    rotate_left
    · cases hp
    rename_i hn
    cases hp
    have hget : ∀ (j : Nat) (u : Value) (d : DV), (us.take n)[j]? = some u → (cs.take n)[j]? = some d → WV C U V β w u d := fun j u d hu hd => by
      rw [List.getElem?_take] at hu hd
      split at hu
      · exact hr j u d hu (by simpa [*] using hd)
      · cases hu
    have hlt : (us.take n).length = (cs.take n).length := by simp; omega
    refine ⟨by omega, fun id hi => ?_, fun ha => .agg (us.take n) (cs.take n) hlt (fun u hu => ?_) fun j u d hu hd => ?_, TP.nt fun _ h => by cases h⟩
    · rw [DV.refs] at hi
      obtain ⟨d, hd, hi⟩ := DV.mem_refsL hi
      obtain ⟨j, hj, rfl⟩ := List.mem_iff_getElem.1 hd
      exact (hget j (us.take n)[j] _ (List.getElem?_eq_getElem (by omega)) (List.getElem?_eq_getElem hj)).1 id hi
    · obtain ⟨j, hj, rfl⟩ := List.mem_iff_getElem.1 hu
      simp at hj
      refine ho j _ ?_ (by omega)
      rw [List.getElem_take]
      exact List.getElem?_eq_getElem (by omega)
    · exact (hget j u d hu hd).2.1 fun id hi => ha id (by rw [DV.refs]; exact DV.refsL_mem (List.mem_of_getElem? hd) hi)

/-- What an own row's cells are, in the world. -/
theorem HoldsB.row (hs : HoldsB C U s β a w) {id b : Nat} {T : TypeId} {cs : List DV} (hb : β id = some b) (ho : s.ho id = some (.row T cs)) :
    ∃ c : Array Value, w.heap[b]? = some (.cells c T (0, 0)) ∧ cs.length ≤ c.size ∧ (isArr C.P T = true → c.size = cs.length) ∧ ∀ (j : Nat) (u : Value) (d : DV), c[j]? = some u → cs[j]? = some d → WV C U (s.vw C) β w u d ∧ u.oneCell' = true := by
  rcases hs.hh.hp id _ (vw_some ho) with ⟨h1, _⟩ | ⟨b', c, hb', hc, hl, hx, hr⟩
  · rw [hb] at h1; cases h1
  · rw [hb] at hb'; cases hb'; exact ⟨c, hc, hl, hx, hr⟩

theorem cell_row {b off : Nat} {c : Array Value} {T : TypeId} {f : Nat × Nat} (h : w.heap[b]? = some (.cells c T f)) (j : Nat) (u : Value) (hu : (c.toList.drop off)[j]? = some u) :
    w.cell? ((⟨b, off, none⟩ : Addr).add j) = some u := by
  rw [Addr.add_lit, cell_of_row w b (off + j) c T f h]
  simpa using hu

theorem ok_ld_ia {k : Option Nat} {t : TypeId} {x : Operand} {cs : List DV} (ho : o.op = .load t x) (hk : tkind C.P t = some k) (hs : HoldsB C U s β a w) (hx : s.ev x = .ia cs) (hp : partD k cs = some d) : OpOk C U a w o d s := by
  have h1 := hs.ev x
  rw [hx] at h1
  obtain ⟨ad, us, e1, hl, _, h1c, hc, hr⟩ := rel_ia h1
  obtain ⟨g1, g2⟩ := run_loadVar_list hk ad us hc
  obtain ⟨p1, p2⟩ := part_rel (C := C) (U := U) (V := s.vw C) (w := w) (β := β) (by omega) (fun j u hu _ => h1c u (List.mem_of_getElem? hu)) (fun j u d hu hd => wv_imm (hr j u d hu hd)) hp
  cases k with
  | none =>
    obtain ⟨u, hu, hrel⟩ := p1 rfl
    exact .same hs (by simp [execOp, ho, e1, Instr.loadAt, Instr.sureAddr, g1 rfl u hu]) hrel
  | some n =>
    obtain ⟨hn, hrel⟩ := p2 n rfl
    exact .same hs (by simp [execOp, ho, e1, Instr.loadAt, Instr.sureAddr, g2 n rfl hn]) hrel

theorem ok_ld_pt {k : Option Nat} {t T : TypeId} {x : Operand} {id off : Nat} {cs : List DV} (ho : o.op = .load t x) (hk : tkind C.P t = some k) (hs : HoldsB C U s β a w) (hx : s.ev x = .pt id off)
    (hid : s.ho id = some (.row T cs)) (hp : partD k (cs.drop off) = some d) : OpOk C U a w o d s := by
  have h1 := hs.ev x
  rw [hx] at h1
  obtain ⟨b, e1, hb⟩ := rel_pt h1
  obtain ⟨c, hw, hl, _, hr⟩ := hs.row hb hid
  obtain ⟨g1, g2⟩ := run_loadVar_list hk ⟨b, off, none⟩ (c.toList.drop off) (cell_row hw)
  obtain ⟨p1, p2⟩ := part_rel (C := C) (U := U) (V := s.vw C) (w := w) (β := β) (us := c.toList.drop off) (cs := cs.drop off) (by simp; omega)
    (fun j u hu hj => by
      have hj' : off + j < cs.length := by simp at hj; omega
      exact (hr (off + j) u _ (by simpa using hu) (List.getElem?_eq_getElem hj')).2)
    (fun j u d hu hd => (hr (off + j) u d (by simpa using hu) (by simpa using hd)).1) hp
  cases k with
  | none =>
    obtain ⟨u, hu, hrel⟩ := p1 rfl
    exact .same hs (by simp [execOp, ho, e1, Instr.loadAt, Instr.sureAddr, g1 rfl u hu]) hrel
  | some n =>
    obtain ⟨hn, hrel⟩ := p2 n rfl
    exact .same hs (by simp [execOp, ho, e1, Instr.loadAt, Instr.sureAddr, g2 n rfl hn]) hrel

theorem ok_fld {k : Option Nat} {t : TypeId} {x : Operand} {i : Nat} {fs : Array Field} {f : Field} {cs : List DV} (ho : o.op = .field t x i) (ht : C.P.underlying t = some (.struct fs)) (hf : fs[i]? = some f)
    (hk : tkind C.P f.type = some k) (hs : HoldsB C U s β a w) (hx : s.ev x = .agg cs) (hp : partD k (cs.drop f.offset) = some d) : OpOk C U a w o d s := by
  have h1 := hs.ev x
  rw [hx] at h1
  obtain ⟨vs, e1, hl, h1c, hr⟩ := rel_agg h1
  obtain ⟨p1, p2⟩ := part_rel (C := C) (U := U) (V := s.vw C) (w := w) (β := β) (us := vs.drop f.offset) (cs := cs.drop f.offset) (by simp; omega)
    (fun j u hu _ => h1c u (by have := List.mem_of_getElem? hu; exact List.mem_of_mem_drop this))
    (fun j u d hu hd => hs.evp x (hr (f.offset + j) u d (by simpa using hu) (by simpa using hd)) fun id hi => by
      rw [hx, DV.refs]
      exact DV.refsL_mem (List.mem_of_getElem? (by simpa using hd)) hi) hp
  cases k with
  | none =>
    obtain ⟨u, hu, hrel⟩ := p1 rfl
    obtain ⟨g1, _, _⟩ := run_tkind_one hk w
    have hu' : vs[f.offset]? = some u := by simpa using hu
    exact .same hs (by simp [execOp, ho, e1, Instr.field, run_underlying ht, hf, asAgg, part, g1, hu']) hrel
  | some n =>
    obtain ⟨hn, hrel⟩ := p2 n rfl
    obtain ⟨g1, g2, _⟩ := run_tkind_agg hk w
    have he : vs.toArray.extract f.offset (f.offset + n) = (List.take n (List.drop f.offset vs)).toArray := by
      apply Array.ext'
      simp [List.take_drop]
    refine .same hs ?_ hrel
    simp [execOp, ho, e1, Instr.field, run_underlying ht, hf, asAgg, part, g1, g2, List.extract_eq_take_drop]

theorem ok_nck {x : Operand} (ho : o.op = .nilCheck x) (hs : HoldsB C U s β a w) (hx : (∃ cs, s.ev x = .ia cs) ∨ (∃ id off, s.ev x = .pt id off) ∨ (∃ f cs, s.ev x = .fn (.func f) cs) ∨ ∃ T d, s.ev x = .ifc T d) : OpOk C U a w o (s.ev x) s := by
  have h1 := hs.ev x
  refine .same hs (x := a.eval x) ?_ (hs.evw x)
  rcases hx with ⟨cs, hx⟩ | ⟨id, off, hx⟩ | ⟨f, cs, hx⟩ | ⟨T, d, hx⟩ <;> rw [hx] at h1
  · obtain ⟨ad, us, e1, _⟩ := rel_ia h1
    simp [execOp, ho, e1]
  · obtain ⟨b, e1, hb⟩ := rel_pt h1
    simp [execOp, ho, e1]
  · obtain ⟨us, vs, e1, _⟩ := rel_fn h1
    simp [execOp, ho, e1]
  · obtain ⟨u, e1, _⟩ := rel_ifc h1
    simp [execOp, ho, e1]

theorem relI_drop {P : Program} {al : Nat → Prop} {ad : Addr} {us : List Value} {cs : List DV} (m : Nat) (hl : us.length = cs.length) (ha : al ad.block) (h1 : ∀ u ∈ us, u.oneCell' = true)
    (hc : ∀ (j : Nat) (u : Value), us[j]? = some u → w.cell? (ad.add j) = some u) (h : ∀ (j : Nat) (u : Value) (d : DV), us[j]? = some u → cs[j]? = some d → RelI w al u d) :
    Rel P w al β (.pointer (some (ad.add m))) (.ia (cs.drop m)) :=
  .imm _ _ (.ia (ad.add m) (us.drop m) (cs.drop m) (by simp [hl]) (by rw [block_add]; exact ha) (fun u hu => h1 u (List.mem_of_mem_drop hu))
    (fun j u hu => by rw [add_add]; exact hc _ u (by simpa using hu)) fun j u d hu hd => h (m + j) u d (by simpa using hu) (by simpa using hd))

theorem ok_fa {t : TypeId} {x : Operand} {i : Nat} {fs : Array Field} {f : Field} (ho : o.op = .fieldAddr t x i) (ht : C.P.underlying t = some (.struct fs)) (hf : fs[i]? = some f) (hz : C.P.cellsOf f.type ≠ 0)
    (hs : HoldsB C U s β a w) : (∀ cs, s.ev x = .ia cs → OpOk C U a w o (.ia (cs.drop f.offset)) s) ∧ (∀ id off, s.ev x = .pt id off → OpOk C U a w o (.pt id (off + f.offset)) s) := by
  have h1 := hs.ev x
  constructor
  · intro cs hx
    rw [hx] at h1
    obtain ⟨ad, us, e1, hl, ha, h1c, hc, hr⟩ := rel_ia h1
    refine .same hs ?_ (WV.flat (relI_drop f.offset hl ha h1c hc hr) rfl)
    simp [execOp, ho, e1, Instr.fieldAt, run_underlying ht, hf, Instr.sureAddr, fieldPlace, run_sizeOf_pos hz, hz]
  · intro id off hx
    rw [hx] at h1
    obtain ⟨b, e1, hb⟩ := rel_pt h1
    refine .same hs ?_ (hs.evp x (.pt id (off + f.offset) b hb) (by rw [hx]; simp [DV.refs]))
    simp [execOp, ho, e1, Instr.fieldAt, run_underlying ht, hf, Instr.sureAddr, fieldPlace, run_sizeOf_pos hz, hz, Addr.add_lit]

theorem intD_ok {P : Program} {al : Nat → Prop} {x : Value} {d : DV} {n : Int} (h : Rel P w al β x d) (hd : intD d = some n) : ∃ k, x = .int k n := by
  unfold intD at hd
  split at hd
  · cases hd; exact ⟨_, rel_v h⟩
  · cases hd

theorem ok_ia {t e : TypeId} {x i : Operand} {j : Int} (ho : o.op = .indexAddr t x i) (ht : C.P.underlying t = some (.slice e)) (hz : C.P.cellsOf e ≠ 0) (hs : HoldsB C U s β a w) (hi : intD (s.ev i) = some j) (h0 : 0 ≤ j) :
    (∀ cs n, s.ev x = .sl cs n → j < n → OpOk C U a w o (.ia (cs.drop (j.toNat * C.P.cellsOf e))) s) ∧ (∀ id off n es, s.ev x = .ms id off n es → j < n → OpOk C U a w o (.pt id (off + j.toNat * C.P.cellsOf e)) s) := by
  have h1 := hs.ev x
  obtain ⟨k, hk⟩ := intD_ok (hs.ev i) hi
  constructor
  · intro cs n hx hj
    rw [hx] at h1
    rcases rel_sl h1 with ⟨_, _, _, _, rfl⟩ | ⟨ad, cap, us, e1, hl, hn, ha, h1c, hc, hr⟩
    · omega
    · refine .same hs ?_ (WV.flat (relI_drop _ hl ha h1c hc hr) rfl)
      simp [execOp, ho, e1, hk, Instr.indexAt, run_underlying ht, asIntOf, h0, hj, run_sizeOf_pos hz]
  · intro id off n es hx hj
    rw [hx] at h1
    rcases rel_ms h1 with ⟨_, _, rfl⟩ | ⟨b, cap, c, T, e1, hb, hw, hn, hm, hcap⟩
    · omega
    · refine .same hs ?_ (hs.evp x (.pt id _ b hb) (by rw [hx]; simp [DV.refs]))
      simp [execOp, ho, e1, hk, Instr.indexAt, run_underlying ht, asIntOf, h0, hj, run_sizeOf_pos hz, Addr.add_lit]

theorem ok_fx {t e : TypeId} {n : Nat} {x i : Operand} {j : Int} (ho : o.op = .indexAddr t x i) (ht : C.P.underlying t = some (.array n e)) (hz : C.P.cellsOf e ≠ 0) (hs : HoldsB C U s β a w) (hi : intD (s.ev i) = some j) (h0 : 0 ≤ j) (hj : j < n) :
    (∀ cs, s.ev x = .ia cs → OpOk C U a w o (.ia (cs.drop (j.toNat * C.P.cellsOf e))) s) ∧ (∀ id off, s.ev x = .pt id off → OpOk C U a w o (.pt id (off + j.toNat * C.P.cellsOf e)) s) := by
  have h1 := hs.ev x
  obtain ⟨k, hk⟩ := intD_ok (hs.ev i) hi
  constructor
  · intro cs hx
    rw [hx] at h1
    obtain ⟨ad, us, e1, hl, ha, h1c, hc, hr⟩ := rel_ia h1
    refine .same hs ?_ (WV.flat (relI_drop _ hl ha h1c hc hr) rfl)
    simp [execOp, ho, e1, hk, Instr.indexAt, run_underlying ht, asIntOf, h0, hj, run_sizeOf_pos hz, Instr.sureAddr]
  · intro id off hx
    rw [hx] at h1
    obtain ⟨b, e1, hb⟩ := rel_pt h1
    refine .same hs ?_ (hs.evp x (.pt id _ b hb) (by rw [hx]; simp [DV.refs]))
    simp [execOp, ho, e1, hk, Instr.indexAt, run_underlying ht, asIntOf, h0, hj, run_sizeOf_pos hz, Addr.add_lit, Instr.sureAddr]

theorem ok_s2b {t t' e : TypeId} {x : Operand} {b : ByteArray} (ho : o.op = .convert t t' x) (hs' : C.P.underlying t = some .string) (hd : C.P.underlying t' = some (.slice e)) (he : C.P.underlying e = some (.int .u8)) (hs : HoldsB C U s β a w) (hx : s.ev x = .v (.string b)) :
    OpOk C U a w o (.sl (b.data.toList.map fun c => .v (.int .u8 (c.toNat : Int))) b.size) s := by
  have h1 := hs.ev x
  rw [hx] at h1
  obtain ⟨w', hw'⟩ : ∃ w', w.drew.alloc (.cells (bytesRow b (grownCap w b.size 0 e)) e ((bytesRow b (grownCap w b.size 0 e)).size, (bytesRow b (grownCap w b.size 0 e)).size + 1)) = w' := ⟨_, rfl⟩
  have hrun := run_bytes_of_string (P := C.P) w t t' e b hs' hd he
  rw [hw'] at hrun
  have hbl : Below w.heap.size w w' := by rw [← hw']; exact ((Below.refl _ _).drew).alloc (by simp) _
  have hnew : w'.heap[w.heap.size]? = some (.cells (bytesRow b (grownCap w b.size 0 e)) e ((bytesRow b (grownCap w b.size 0 e)).size, (bytesRow b (grownCap w b.size 0 e)).size + 1)) := by
    rw [← hw']
    exact heap_alloc_new w.drew (.cells (bytesRow b (grownCap w b.size 0 e)) e ((bytesRow b (grownCap w b.size 0 e)).size, (bytesRow b (grownCap w b.size 0 e)).size + 1))
  have hlt : w.heap.size < w'.heap.size := (Array.getElem?_eq_some_iff.1 hnew).1
  refine ⟨_, w', β, _, ?_, .inl rfl, hs.keep hbl, wv_imm (.sl ⟨w.heap.size, 0, none⟩ b.size (grownCap w b.size 0 e) (b.data.toList.map fun c => .int .u8 (c.toNat : Int)) _ (by simp) (grownCap_ge w b.size 0 e) ⟨.inr (.inl hs.hh.bel.size), hlt, fun id hid => by have h9 := hs.hh.lt hid; simp only at h9; omega⟩ (fun u hu => ?_) (fun j u hu => ?_) (fun j u d hu hd => ?_))⟩
  · simp [execOp, ho, rel_v h1, hrun]
  · obtain ⟨c, _, rfl⟩ := List.mem_map.1 hu
    rfl
  · rw [Addr.add_lit, cell_of_row w' _ _ _ _ _ hnew]
    have hj : j < b.data.toList.length := by have := (List.getElem?_eq_some_iff.1 hu).1; simpa using this
    simp only [bytesRow, Nat.zero_add]
    rw [Array.getElem?_append_left (by simpa using hj)]
    rw [← Array.getElem?_toList]
    simpa using hu
  · simp only [List.getElem?_map, Option.map_eq_some_iff] at hu hd
    obtain ⟨c, hc, rfl⟩ := hu
    obtain ⟨c', hc', rfl⟩ := hd
    rw [hc] at hc'; cases hc'
    exact .v _

theorem ok_ixs {t : TypeId} {x i : Operand} {j : Int} {b : ByteArray} {c : UInt8} (ho : o.op = .index t x i) (ht : C.P.underlying t = some .string) (hs : HoldsB C U s β a w) (hi : intD (s.ev i) = some j) (h0 : 0 ≤ j)
    (hx : s.ev x = .v (.string b)) (hc : b[j.toNat]? = some c) : OpOk C U a w o (.v (.int .u8 (c.toNat : Int))) s := by
  have h1 := hs.ev x
  rw [hx] at h1
  obtain ⟨k, hk⟩ := intD_ok (hs.ev i) hi
  refine .same hs ?_ (WV.v _)
  simp [execOp, ho, rel_v h1, hk, Instr.index, run_underlying ht, asIntOf, h0, hc]

theorem bndD_ok (hs : HoldsB C U s β a w) {x : Option Operand} {dflt n : Int} (h : bndD s dflt x = some n) : (x = none ∧ n = dflt) ∨ ∃ y k, x = some y ∧ a.eval y = .int k n := by
  unfold bndD at h
  split at h
  · cases h; exact .inl ⟨rfl, rfl⟩
  · rename_i y
    obtain ⟨k, hk⟩ := intD_ok (hs.ev y) h
    exact .inr ⟨y, k, rfl, hk⟩

theorem run_bounds {P : Program} {isS : Bool} {len cap : Nat} {lo hi : Option Value} {l h : Int} (hlo : (lo = none ∧ l = 0) ∨ ∃ k, lo = some (.int k l)) (hhi : (hi = none ∧ h = len) ∨ ∃ k, hi = some (.int k h))
    (h0 : 0 ≤ l) (hlh : l ≤ h) (hh : h ≤ cap) (w : World) : (Instr.sliceBounds isS len cap lo hi none).run P w = .ok (l.toNat, h.toNat, cap) w := by
  have e1 : ((h.toNat : Nat) : Int) = h := by omega
  rcases hlo with ⟨rfl, rfl⟩ | ⟨k, rfl⟩ <;> rcases hhi with ⟨rfl, rfl⟩ | ⟨k', rfl⟩
  · simp [Instr.sliceBounds]
  · simp [Instr.sliceBounds, Instr.sliceBound, asIntOf, hh, show 0 ≤ h by omega]
  · simp [Instr.sliceBounds, Instr.sliceBound, asIntOf, h0, hlh]
  · simp [Instr.sliceBounds, Instr.sliceBound, asIntOf, h0, hh, show 0 ≤ h by omega]
    omega

theorem bnds (hs : HoldsB C U s β a w) {x : Option Operand} {dflt n : Int} (h : bndD s dflt x = some n) : (x.map a.eval = none ∧ n = dflt) ∨ ∃ k, x.map a.eval = some (.int k n) := by
  rcases bndD_ok hs h with ⟨rfl, rfl⟩ | ⟨y, k, rfl, hk⟩
  · exact .inl ⟨rfl, rfl⟩
  · exact .inr ⟨k, by simp [hk]⟩

theorem ok_sli {t e : TypeId} {x : Operand} {lo hi : Option Operand} {l h : Int} (ho : o.op = .slice t x lo hi none) (ht : C.P.underlying t = some (.slice e)) (hinfo : (C.P.info? e).isSome = true) (hs : HoldsB C U s β a w) :
    (∀ cs n, s.ev x = .sl cs n → bndD s 0 lo = some l → bndD s n hi = some h → 0 ≤ l → l ≤ h → h ≤ n → OpOk C U a w o (.sl ((cs.drop (l.toNat * C.P.cellsOf e)).take ((h.toNat - l.toNat) * C.P.cellsOf e)) (h.toNat - l.toNat)) s) ∧
    (∀ id off n, s.ev x = .ms id off n (C.P.cellsOf e) → bndD s 0 lo = some l → bndD s n hi = some h → 0 ≤ l → l ≤ h → h ≤ n → OpOk C U a w o (if l < h ∨ l = 0 then .ms id (off + l.toNat * C.P.cellsOf e) (h.toNat - l.toNat) (C.P.cellsOf e) else .sl [] 0) s) ∧
    (s.ev x = .v (.slice none 0 0) → bndD s 0 lo = some l → bndD s 0 hi = some h → l = 0 → h = 0 → OpOk C U a w o (.v (.slice none 0 0)) s) := by
  have h1 := hs.ev x
  have hsz : (sizeOf e).run C.P w = .ok (C.P.cellsOf e) w := by
    obtain ⟨i, hi⟩ := Option.isSome_iff_exists.1 hinfo
    simp [sizeOf, typeInfo, hi, Program.cellsOf]
  refine ⟨?_, ?_, ?_⟩
  · intro cs n hx hlo hhi h0 hlh hhn
    rw [hx] at h1
    rcases rel_sl h1 with ⟨ad, cap, e1, rfl, rfl⟩ | ⟨ad, cap, us, e1, hl, hn, ha, h1c, hc, hr⟩
    · have : l = 0 := by omega
      have : h = 0 := by omega
      subst l; subst h
      refine .same hs (x := .slice (if cap = 0 then ad else ad.map (·.add (0 * C.P.cellsOf e))) 0 cap) ?_ (by simpa using wv_imm (.sl0 _ _))
      have hb := run_bounds (P := C.P) (isS := true) (len := 0) (cap := cap) (bnds hs hlo) (bnds hs hhi) (Int.le_refl _) (Int.le_refl _) (by omega) w
      simp [execOp, ho, e1, Instr.sliceAt, Instr.slice, run_underlying ht, hb, hsz]
    · have hb := run_bounds (P := C.P) (isS := true) (len := n) (cap := cap) (bnds hs hlo) (bnds hs hhi) h0 hlh (by omega) w
      by_cases hcl : cap = l.toNat
      · subst hcl
        have e2 : h.toNat = l.toNat := by omega
        refine .same hs (x := .slice (some ad) 0 0) ?_ ?_
        · simp [execOp, ho, e1, Instr.sliceAt, Instr.slice, run_underlying ht, hb, hsz, e2]
        · rw [e2]; simpa using wv_imm (.sl0 _ _)
      · refine .same hs (x := .slice (some (ad.add (l.toNat * C.P.cellsOf e))) (h.toNat - l.toNat) (cap - l.toNat)) ?_ ?_
        · simp [execOp, ho, e1, Instr.sliceAt, Instr.slice, run_underlying ht, hb, hsz, hcl]
        · refine wv_imm (.sl _ _ _ ((us.drop (l.toNat * C.P.cellsOf e)).take ((h.toNat - l.toNat) * C.P.cellsOf e)) _ (by simp [hl]) (by omega) (by rw [block_add]; exact ha) (fun u hu => h1c u (List.mem_of_mem_drop (List.mem_of_mem_take hu)))
            (fun j u hu => ?_) fun j u d hu hd => ?_)
          · rw [List.getElem?_take] at hu
            split at hu
            · rw [add_add]; exact hc _ u (by simpa using hu)
            · cases hu
          · rw [List.getElem?_take] at hu hd
            split at hu
            · exact hr (l.toNat * C.P.cellsOf e + j) u d (by simpa using hu) (by simpa [*] using hd)
            · cases hu
  · intro id off n hx hlo hhi h0 hlh hhn
    rw [hx] at h1
    rcases rel_ms h1 with ⟨e1, rfl, rfl⟩ | ⟨b, cap, c, T, e1, hb, hw, hn, hm, hcap⟩
    · have h2 : l = 0 := by omega
      have h3 : h = 0 := by omega
      subst h2; subst h3
      have hbd := run_bounds (P := C.P) (isS := true) (len := 0) (cap := 0) (bnds hs hlo) (bnds hs hhi) (Int.le_refl _) (Int.le_refl _) (by omega) w
      rw [if_pos (.inr rfl)]
      refine .same hs (x := .slice none 0 0) ?_ (hs.evp x (by simpa using .ms0 id (C.P.cellsOf e)) (by rw [hx]; simp [DV.refs]))
      simp [execOp, ho, e1, Instr.sliceAt, Instr.slice, run_underlying ht, hbd, hsz]
    · have hbd := run_bounds (P := C.P) (isS := true) (len := n) (cap := cap) (bnds hs hlo) (bnds hs hhi) h0 (by omega) (by omega) w
      by_cases hc : l < h ∨ l = 0
      · rw [if_pos hc]
        by_cases hcl : cap = l.toNat
        · have h2 : l = 0 := by omega
          subst h2
          have h3 : cap = 0 := by simpa using hcl
          subst h3
          have h4 : h = 0 := by omega
          subst h4
          have hrel : Rel C.P w (alw C w β) β (.slice (some ⟨b, off, none⟩) 0 0) (.ms id (off + (0 : Int).toNat * C.P.cellsOf e) ((0 : Int).toNat - (0 : Int).toNat) (C.P.cellsOf e)) := by
            simpa using .ms id off 0 (C.P.cellsOf e) b 0 c T hb hw (by omega) (by omega) (by simpa using hcap)
          refine .same hs (x := .slice (some ⟨b, off, none⟩) 0 0) ?_ (hs.evp x hrel (by rw [hx]; simp [DV.refs]))
          simp [execOp, ho, e1, Instr.sliceAt, Instr.slice, run_underlying ht, hbd, hsz]
        · refine .same hs (x := .slice (some ⟨b, off + l.toNat * C.P.cellsOf e, none⟩) (h.toNat - l.toNat) (cap - l.toNat)) ?_ (hs.evp x (.ms _ _ _ _ b _ c T hb hw (by omega) (by omega) ?_) (by rw [hx]; simp [DV.refs]))
          · simp [execOp, ho, e1, Instr.sliceAt, Instr.slice, run_underlying ht, hbd, hsz, hcl, Addr.add_lit]
          · rw [← hcap, Nat.add_assoc, ← Nat.add_mul, Nat.add_sub_cancel' (show l.toNat ≤ cap by omega)]
      · rw [if_neg hc]
        have e2 : h.toNat = l.toNat := by omega
        refine .same hs (x := .slice (if cap = l.toNat then some ⟨b, off, none⟩ else some ((⟨b, off, none⟩ : Addr).add (l.toNat * C.P.cellsOf e))) 0 (cap - l.toNat)) ?_ (wv_imm (.sl0 _ _))
        simp [execOp, ho, e1, Instr.sliceAt, Instr.slice, run_underlying ht, hbd, hsz, e2]
  · intro hx hlo hhi hl hh
    rw [hx] at h1
    have e1 := rel_v h1
    subst hl hh
    have hbd := run_bounds (P := C.P) (isS := true) (len := 0) (cap := 0) (bnds hs hlo) (bnds hs hhi) (Int.le_refl _) (Int.le_refl _) (by omega) w
    refine .same hs (x := .slice none 0 0) ?_ (WV.v _)
    simp [execOp, ho, e1, Instr.sliceAt, Instr.slice, run_underlying ht, hbd, hsz]

theorem ok_sls {t : TypeId} {x : Operand} {lo hi : Option Operand} {l h : Int} {b : ByteArray} (ho : o.op = .slice t x lo hi none) (ht : C.P.underlying t = some .string) (hs : HoldsB C U s β a w) (hx : s.ev x = .v (.string b))
    (hlo : bndD s 0 lo = some l) (hhi : bndD s b.size hi = some h) (h0 : 0 ≤ l) (hlh : l ≤ h) (hhn : h ≤ b.size) : OpOk C U a w o (.v (.string (b.extract l.toNat h.toNat))) s := by
  have h1 := hs.ev x
  rw [hx] at h1
  have hb := run_bounds (P := C.P) (isS := false) (len := b.size) (cap := b.size) (bnds hs hlo) (bnds hs hhi) h0 hlh (by omega) w
  refine .same hs ?_ (WV.v _)
  simp [execOp, ho, rel_v h1, Instr.sliceAt, Instr.slice, run_underlying ht, hb]

theorem ok_len {t : TypeId} {c : Call} {x : Operand} (ho : o.op = .call c) (hc : c.callee = .builtin .len) (hargs : c.args.toList = [x]) (ht : c.argTypes[0]? = some t) (hs : HoldsB C U s β a w) :
    ((∃ e, C.P.underlying t = some (.slice e)) → (∀ cs n, s.ev x = .sl cs n → OpOk C U a w o (.v (.int .i64 n)) s) ∧ (∀ id off n es, s.ev x = .ms id off n es → OpOk C U a w o (.v (.int .i64 n)) s) ∧
      (∀ n c', s.ev x = .v (.slice none n c') → OpOk C U a w o (.v (.int .i64 n)) s)) ∧
    (C.P.underlying t = some .string → ∀ b, s.ev x = .v (.string b) → OpOk C U a w o (.v (.int .i64 b.size)) s) := by
  have h1 := hs.ev x
  have hA : c.args = #[x] := by apply Array.ext'; simpa using hargs
  constructor
  · rintro ⟨e, hu⟩
    have hrun : ∀ ad n cap, a.eval x = .slice ad n cap → OpOk C U a w o (.v (.int .i64 n)) s := fun ad n cap hv => by
      refine .same hs (x := .int .i64 n) ?_ (WV.v _)
      simp [execOp, ho, resolve, hc, hA, invoke, builtin, Builtin.len_, ht, hv, run_underlying hu, goInt]
    refine ⟨fun cs n hx => ?_, fun id off n es hx => ?_, fun n c' hx => ?_⟩ <;> rw [hx] at h1
    · rcases rel_sl h1 with ⟨ad, cap, e1, _, rfl⟩ | ⟨ad, cap, us, e1, _⟩
      · exact hrun _ _ _ e1
      · exact hrun _ _ _ e1
    · rcases rel_ms h1 with ⟨e1, _, rfl⟩ | ⟨b, cap, cc, T, e1, _⟩
      · exact hrun _ _ _ e1
      · exact hrun _ _ _ e1
    · exact hrun _ _ _ (rel_v h1)
  · intro hu b hx
    rw [hx] at h1
    refine .same hs (x := .int .i64 b.size) ?_ (WV.v _)
    simp [execOp, ho, resolve, hc, hA, invoke, builtin, Builtin.len_, ht, rel_v h1, run_underlying hu, goInt]

theorem ok_mkf {f : Fn} {first cap : Array Operand} (ho : o.op = .makeFunc f first cap) (hs : HoldsB C U s β a w) : OpOk C U a w o (.fn f (.tup (first.toList.map s.ev) :: cap.toList.map s.ev)) s := by
  have key : ∀ l : List Operand, ∀ (j : Nat) (u : Value) (d : DV), (l.map a.eval)[j]? = some u → (l.map s.ev)[j]? = some d → Rel C.P w (alw C w β) β u d := fun l j u d hu hd => by
    simp only [List.getElem?_map, Option.map_eq_some_iff] at hu hd
    obtain ⟨x, hx, rfl⟩ := hu
    obtain ⟨y, hy, rfl⟩ := hd
    rw [hx] at hy; cases hy
    exact hs.ev x
  refine .same hs (x := .func f (first.toList.map a.eval).toArray (cap.toList.map a.eval).toArray) ?_ (hs.hh.wv (.fn f _ _ _ (by simp) fun j u d hu hd => ?_) fun id hi => ?_)
  · have h1 : Array.map a.eval cap = (List.map a.eval cap.toList).toArray := by apply Array.ext'; simp
    have h2 : Array.map a.eval first = (List.map a.eval first.toList).toArray := by apply Array.ext'; simp
    simp [execOp, ho, Instr.makeFunc, h1, h2]
  · cases j with
    | zero => cases hu; cases hd; exact .tup _ _ (by simp) (key _)
    | succ j => exact key cap.toList j u d (by simpa using hu) (by simpa using hd)
  · have hall : ∀ l : List Operand, id ∈ DV.refsL (l.map s.ev) → (s.vw C id).isSome = true := fun l h => by
      obtain ⟨d, hd, hi⟩ := DV.mem_refsL h
      obtain ⟨x, _, rfl⟩ := List.mem_map.1 hd
      exact vw_alive (HoldsB.eva x id hi)
    simp only [DV.refs, DV.refsL, List.mem_append] at hi
    rcases hi with hi | hi
    · exact hall _ hi
    · exact hall _ hi

theorem ok_extv {x : Operand} {i : Nat} {ds : List DV} {v : Value} (ho : o.op = .extract x i) (hs : HoldsB C U s β a w) (hx : s.rv x = .tup ds) (hi : ds[i]? = some (.v v)) : OpOk C U a w o (.v v) s := by
  obtain ⟨vs, e1, h1⟩ := (hs.rvw x).2.2 ds hx i v hi
  obtain ⟨hlt, h2⟩ := Array.getElem?_eq_some_iff.1 h1
  refine .same hs (x := v) ?_ (WV.v v)
  simp [execOp, ho, e1, Instr.extract, hlt, h2]
theorem ok_ext {x : Operand} {i : Nat} {ds : List DV} (ho : o.op = .extract x i) (hs : HoldsB C U s β a w) (hx : s.ev x = .tup ds) (hi : ds[i]? = some d) : OpOk C U a w o d s := by
  have h1 := hs.ev x
  rw [hx] at h1
  obtain ⟨vs, e1, hl, hr⟩ := rel_tup h1
  have hlt : i < vs.length := by rw [hl]; exact (List.getElem?_eq_some_iff.1 hi).1
  refine .same hs (x := vs[i]) ?_ (hs.evp x (hr i _ _ (List.getElem?_eq_getElem hlt) hi) fun id hid => by rw [hx, DV.refs]; exact DV.refsL_mem (List.mem_of_getElem? hi) hid)
  simp [execOp, ho, e1, Instr.extract, hlt]

end ops
end Go.DD
