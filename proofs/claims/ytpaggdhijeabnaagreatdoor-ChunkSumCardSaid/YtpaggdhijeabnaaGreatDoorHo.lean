/- Iterators of maps, interface values, slices of arrays, copies. -/
import Derived.Test.YtpaggdhijeabnaaGreatDoorHg
import Derived.Test.YtpaggdhijeabnaaGreatDoorHr
namespace Go.DD
open Go.RowKit (Below)

section ops
variable {C : Ctx} {U : Nat → Prop} {s : DS} {β : Nat → Option Nat} {a : Act} {w : World} {o : Oper} {d : DV} {s' : DS} {nid : Nat}

theorem ok_rgm {t kt et : TypeId} {x : Operand} (ho : o.op = .range t x) (ht : C.P.underlying t = some (.map kt et)) (hs : HoldsB C U s β a w) (hn : ¬ U nid) :
    (s.ev x = .v (.map none) → OpOk C (Un U nid) a w o (.pt nid 0) (s.upd nid (.lay (.miter (.v (.map none)) 0 [] 0)))) ∧
    (∀ id ck es, s.ev x = .mp id → s.ho id = some (.mapo ck es) → OpOk C (Un U nid) a w o (.pt nid 0) (s.upd nid (.lay (.miter (.mp id) ck [] ck)))) := by
  have key : ∀ (mv : Option Nat) (m : DV) (ck : Nat), a.eval x = .map mv → s.ev x = m → (Instr.range t (.map mv)).run C.P w = .ok (.pointer (some ⟨w.heap.size, 0, none⟩)) (w.alloc (.mapIter mv ck #[] ck)) →
      OpOk C (Un U nid) a w o (.pt nid 0) (s.upd nid (.lay (.miter m ck [] ck))) := by
    intro mv m ck h1 h2 hrun
    have hbl := below_alloc w (.mapIter mv ck #[] ck)
    have hf := (hs.turned (β' := upd β nid (some w.heap.size)) (w' := w.alloc (.mapIter mv ck #[] ck)) hn none (fun _ h => by cases h) (.miter m ck [] ck) (fun b hb _ => hbl.block b hb) hbl.os hbl.tape hbl.output hbl.size (fun j hj _ => upd_other β _ hj) (fun _ h => by cases h)
      (fun b hb => by rw [upd_same] at hb; cases hb; exact ⟨.inr (Nat.le_refl _), by simp⟩) (fun hrel => ⟨_, mv, upd_same _ _ _, heap_alloc_new w _, hrel _ _ (by rw [← h1, ← h2]; exact hs.evw x)⟩)).1
    refine ⟨.value (.pointer (some ⟨w.heap.size, 0, none⟩)), _, _, _, ?_, .inl rfl, hf, wv_new (.pt nid 0 _ (by simp)) rfl⟩
    simp [execOp, ho, h1, hrun]
  refine ⟨fun hx => ?_, fun id ck es hx hid => ?_⟩
  · have hxe : a.eval x = .map none := by have := hs.ev x; rw [hx] at this; exact rel_v this
    refine key none _ 0 hxe hx ?_
    simp [Instr.range, run_underlying ht]
  · have h1 := hs.ev x
    rw [hx] at h1
    obtain ⟨b, hxe, hb⟩ := rel_mp h1
    obtain ⟨ms, hm, hsz, hrel⟩ := hs.mapo hb hid
    have hg : (getObj b).run C.P w = .ok (.map ms ck) w := MapKept.run_getObj_map hm
    refine key (some b) _ ck hxe hx ?_
    simp [Instr.range, run_underlying ht, hg, Result.andThen]

/-- Lists, element by element. -/
inductive F2 {α β : Type} (R : α → β → Prop) : List α → List β → Prop
  | nil : F2 R [] []
  | cons {a b l m} (h : R a b) (t : F2 R l m) : F2 R (a :: l) (b :: m)
theorem F2.of {α β : Type} {R : α → β → Prop} : ∀ {l : List α} {m : List β}, l.length = m.length → (∀ (j : Nat) (a : α) (b : β), l[j]? = some a → m[j]? = some b → R a b) → F2 R l m
  | [], [], _, _ => .nil
  | a :: l, b :: m, hl, h => .cons (h 0 a b rfl rfl) (F2.of (by simpa using hl) fun j x y hx hy => h (j + 1) x y (by simpa using hx) (by simpa using hy))
  | [], _ :: _, hl, _ => by simp at hl
  | _ :: _, [], hl, _ => by simp at hl
theorem F2.filter {α β : Type} {R : α → β → Prop} {f : α → Bool} {g : β → Bool} (hfg : ∀ a b, R a b → f a = g b) : ∀ {l : List α} {m : List β}, F2 R l m → F2 R (l.filter f) (m.filter g)
  | _, _, .nil => .nil
  | _, _, .cons (a := a) (b := b) h t => by
    have ih := F2.filter hfg t
    simp only [List.filter_cons, hfg a b h]
    split
    · exact .cons h ih
    · exact ih
theorem F2.append {α β : Type} {R : α → β → Prop} {l l' : List α} {m m' : List β} (h : F2 R l m) (h' : F2 R l' m') : F2 R (l ++ l') (m ++ m') := by
  induction h with
  | nil => exact h'
  | cons h _ ih => exact .cons h ih
theorem F2.length {α β : Type} {R : α → β → Prop} {l : List α} {m : List β} (h : F2 R l m) : l.length = m.length := by
  induction h with
  | nil => rfl
  | cons _ _ ih => simp [ih]
theorem F2.get {α β : Type} {R : α → β → Prop} {l : List α} {m : List β} (h : F2 R l m) : ∀ {j : Nat} {a : α}, l[j]? = some a → ∃ b, m[j]? = some b ∧ R a b := by
  induction h with
  | nil => intro j a h; simp at h
  | cons h _ ih =>
    intro j a hj
    cases j with
    | zero => simp at hj; subst hj; exact ⟨_, rfl, h⟩
    | succ j => simpa using ih (by simpa using hj)
theorem F2.all {α β : Type} {R : α → β → Prop} {f : α → Bool} {g : β → Bool} (hfg : ∀ a b, R a b → f a = g b) {l : List α} {m : List β} (h : F2 R l m) : l.all f = m.all g := by
  induction h with
  | nil => rfl
  | cons h _ ih => simp [hfg _ _ h, ih]

theorem HoldsB.drawn (hs : HoldsB C U s β a w) : HoldsB C U s β a w.drew ∧ ∀ x d, WV C U (s.vw C) β w x d → WV C U (s.vw C) β w.drew x d := by
  have h := hs.hh.keep (below_drew w)
  exact ⟨hs.carry rfl hs.yd h, h.2.1⟩

theorem wv_over {V : Nat → Option DObj} : WV C U V β w (.tuple #[.bool false]) (.tup [.v (.bool false)]) :=
  WV.flat (.tup [.bool false] _ rfl fun j u d hu hd => by
    match j with
    | 0 => simp at hu hd; subst hu hd; exact .imm _ _ (.v _)
    | j + 1 => simp at hu) rfl
theorem wv_key {V : Nat → Option DObj} (x : Value) : WV C U V β w x (ofV x) := WV.flat (rel_ofV x) (refs_ofV x)
theorem wv_next {V : Nat → Option DObj} {k x : Value} {v : DV} (h : WV C U V β w x v) : WV C U V β w (.tuple #[.bool true, k, x]) (.tup [.v (.bool true), ofV k, v]) := by
  refine ⟨fun id hi => ?_, fun ha => .tup [.bool true, k, x] _ rfl fun j u d hu hd => ?_, TP.of_wv (C := C) (U := U) (V := V) (β := β) (w := w) (us := [.bool true, k, x]) rfl fun j u d hu hd => ?_⟩
  · simp [DV.refs, DV.refsL, refs_ofV] at hi; exact h.1 id hi
  · match j with
    | 0 => simp at hu hd; subst hu hd; exact .imm _ _ (.v _)
    | 1 => simp at hu hd; subst hu hd; exact rel_ofV _
    | 2 => simp at hu hd; subst hu hd; exact h.2.1 fun id hi => ha id (by simp [DV.refs, DV.refsL, refs_ofV, hi])
    | j + 3 => simp at hu
  · match j with
    | 0 => simp at hu hd; subst hu hd; exact WV.v _
    | 1 => simp at hu hd; subst hu hd; exact wv_key _
    | 2 => simp at hu hd; subst hu hd; exact h
    | j + 3 => simp at hu

theorem cand_ne (since : Nat) (seen : List Nat) (es : List ME) : candD since seen es ≠ [] := by
  unfold candD
  simp only
  split
  · simp
  · rename_i h
    intro e
    simp only [List.nil_append, List.map_append, List.append_eq_nil_iff, List.map_eq_nil_iff] at e
    rw [e.1] at h
    simp at h

/-- A step of an iterator: the tape says to which of the candidates. -/
theorem ok_nxm {x : Operand} {id im ck since last : Nat} {seen : List Nat} {es : List ME} (ho : o.op = .next x false) (hs : HoldsB C U s β a w) (hx : s.ev x = .pt id 0) (hid : s.ho id = some (.miter (.mp im) since seen last)) (him : s.ho im = some (.mapo ck es))
    (hgone : (!seen.isEmpty && !es.isEmpty && es.all (fun e => decide (e.b ≥ last))) = false) :
    ∃ c ∈ candD since seen es, OpOk C U a w o (nxtU id (nxtD (.mp im) since seen ck c)).1 (s.upd nid (nxtU id (nxtD (.mp im) since seen ck c)).2) := by
  have h1 := hs.ev x
  rw [hx] at h1
  obtain ⟨b, hxe, hb⟩ := rel_pt h1
  obtain ⟨b', mv, hb', hit, hmv⟩ := hs.hh.hp id _ (vw_some hid)
  rw [hb] at hb'; cases hb'
  have hmr := hmv.2.1 (fun i hi => by simp [DV.refs] at hi; subst hi; rw [vw_some him]; rfl)
  obtain ⟨bm, e1, hbm⟩ := rel_mp hmr
  cases e1
  obtain ⟨ms, hm, hsz, hrel⟩ := hs.mapo hbm him
  have hf2 : F2 (fun (e : MapEntry) (p : ME) => e.key = p.k ∧ e.born = p.b ∧ WV C U (s.vw C) β w e.val p.v) ms.toList es := F2.of (by simpa using hsz) fun j e p he hp => hrel j e p (by simpa using he) hp
  have hgi : (getObj b).run C.P w = .ok (.mapIter (some bm) since seen.toArray last) w := by simp [getObj, Sem.run, hit]
  have hgm : (getObj bm).run C.P w = .ok (.map ms ck) w := MapKept.run_getObj_map hm
  have hall : ms.all (fun e => decide (e.born ≥ last)) = es.all (fun e => decide (e.b ≥ last)) := by
    rw [← Array.all_toList]
    exact hf2.all fun e p h => by rw [h.2.1]
  have hemp : ms.isEmpty = es.isEmpty := by
    cases es with
    | nil => simp at hsz; subst hsz; rfl
    | cons p ps => have : ms.size ≠ 0 := by simp at hsz; omega
                   simp [Array.isEmpty, this]
  have hgone' : (!seen.toArray.isEmpty && !ms.isEmpty && ms.all (fun e => decide (e.born ≥ last))) = false := by
    rw [hall, hemp, ← hgone]; simp
  obtain ⟨old, hold⟩ : ∃ old, old = (ms.filter fun e => !seen.toArray.contains e.born).filter (fun e => decide (e.born < since)) := ⟨_, rfl⟩
  obtain ⟨new, hnew⟩ : ∃ new, new = (ms.filter fun e => !seen.toArray.contains e.born).filter (fun e => decide (e.born ≥ since)) := ⟨_, rfl⟩
  obtain ⟨cand, hcand⟩ : ∃ cand, cand = (if old.isEmpty then #[none] else #[]) ++ (old ++ new).map some := ⟨_, rfl⟩
  have f_left : F2 (fun (e : MapEntry) (p : ME) => e.key = p.k ∧ e.born = p.b ∧ WV C U (s.vw C) β w e.val p.v) (ms.toList.filter fun e => !seen.toArray.contains e.born) (es.filter fun e => !seen.contains e.b) :=
    F2.filter (fun e p h => by rw [h.2.1]; simp) hf2
  have f_old := F2.filter (f := fun (e : MapEntry) => decide (e.born < since)) (g := fun (e : ME) => decide (e.b < since)) (fun e p h => by rw [h.2.1]) f_left
  have f_new := F2.filter (f := fun (e : MapEntry) => decide (e.born ≥ since)) (g := fun (e : ME) => decide (e.b ≥ since)) (fun e p h => by rw [h.2.1]) f_left
  have holdl : old.toList = (ms.toList.filter fun e => !seen.toArray.contains e.born).filter (fun e => decide (e.born < since)) := by rw [hold]; simp
  have hnewl : new.toList = (ms.toList.filter fun e => !seen.toArray.contains e.born).filter (fun e => decide (e.born ≥ since)) := by rw [hnew]; simp
  have f_cand : F2 (fun (e : Option MapEntry) (p : Option ME) => (e = none ∧ p = none) ∨ ∃ e' p', e = some e' ∧ p = some p' ∧ e'.key = p'.k ∧ e'.born = p'.b ∧ WV C U (s.vw C) β w e'.val p'.v) cand.toList (candD since seen es) := by
    have hmap : ∀ {l : List MapEntry} {m : List ME}, F2 (fun (e : MapEntry) (p : ME) => e.key = p.k ∧ e.born = p.b ∧ WV C U (s.vw C) β w e.val p.v) l m → F2 (fun (e : Option MapEntry) (p : Option ME) => (e = none ∧ p = none) ∨ ∃ e' p', e = some e' ∧ p = some p' ∧ e'.key = p'.k ∧ e'.born = p'.b ∧ WV C U (s.vw C) β w e'.val p'.v) (l.map some) (m.map some) := by
      intro l m h
      induction h with
      | nil => exact .nil
      | cons h _ ih => exact .cons (.inr ⟨_, _, rfl, rfl, h⟩) ih
    rw [hcand]
    unfold candD
    simp only [Array.toList_append, Array.toList_map]
    refine F2.append ?_ (hmap (F2.append (by rw [holdl]; exact f_old) (by rw [hnewl]; exact f_new)))
    have hoe : old.isEmpty = ((es.filter fun e => !seen.contains e.b).filter fun e => decide (e.b < since)).isEmpty := by
      have hl := f_old.length
      rw [← holdl] at hl
      cases hq : (es.filter fun e => !seen.contains e.b).filter fun e => decide (e.b < since) with
      | nil => rw [hq] at hl; simp at hl; subst hl; rfl
      | cons p ps => rw [hq] at hl
                     have : old.size ≠ 0 := by simp at hl; omega
                     simp [Array.isEmpty, this]
    rw [hoe]
    split
    · exact .cons (.inl ⟨rfl, rfl⟩) .nil
    · exact .nil
  have hpos : 0 < cand.size := by
    have := f_cand.length
    have h2 := cand_ne since seen es
    cases hq : candD since seen es with
    | nil => exact absurd hq h2
    | cons p ps => rw [hq] at this; simp at this; omega
  -- the tape's word
  obtain ⟨k, w1, hk, hchoose, hw1⟩ : ∃ k w1, k < cand.size ∧ (choose (.mapNext cand.size)).run C.P w = .ok k w1 ∧ (w1 = w ∨ w1 = w.drew) := by
    by_cases hf : (Question.mapNext cand.size).forced = true
    · exact ⟨0, w, hpos, by simp [choose, Sem.run, hf], .inl rfl⟩
    · refine ⟨(Question.mapNext cand.size).cut (w.tape w.drawn (.mapNext cand.size)), w.drew, ?_, ?_, .inr rfl⟩
      · exact Nat.mod_lt _ hpos
      · simp only [choose, Sem.run]
        rw [if_neg hf]
        rfl
  obtain ⟨hs1, hrel1⟩ : HoldsB C U s β a w1 ∧ ∀ x d, WV C U (s.vw C) β w x d → WV C U (s.vw C) β w1 x d := by
    rcases hw1 with rfl | rfl
    · exact ⟨hs, fun _ _ h => h⟩
    · exact hs.drawn
  have hheap : w1.heap = w.heap := by rcases hw1 with rfl | rfl <;> rfl
  have hck : cand.toList[k]? = some cand[k] := by simp [hk]
  obtain ⟨c, hc, hcr⟩ := f_cand.get hck
  refine ⟨c, List.mem_of_getElem? hc, ?_⟩
  have hnext : ∀ (r : Value) (w2 : World), ((match cand[k]? with
      | some (some e) => (do
        setObj b (.mapIter (some bm) since (seen.toArray.push e.born) ck)
        pure (.tuple #[.bool true, e.key, e.val]) : Sem Value)
      | some none => pure (.tuple #[.bool false])
      | none => stuck "Next: no such candidate").run C.P w1 = .ok r w2) → (execOp a.eval o).run C.P w = .ok (.value r) w2 := by
    intro r w2 h
    have hin : (Instr.next (.pointer (some ⟨b, 0, none⟩)) false o.type).run C.P w = .ok r w2 := by
      simp only [Instr.next, Sem.run_bind, hgi, Result.andThen_ok, hgm]
      simp only [hgone', Bool.false_eq_true, if_false]
      rw [← hold, ← hnew, ← hcand]
      simp only [Sem.run_bind, hchoose, Result.andThen_ok]
      exact h
    simp [execOp, ho, hxe, hin]
  have hck2 : cand[k]? = some cand[k] := by simp [hk]
  rcases hcr with ⟨h1, rfl⟩ | ⟨e', p', h1, rfl, hek, heb, hev⟩
  · refine ⟨_, w1, β, .tuple #[.bool false], hnext _ w1 (by rw [hck2, h1]; rfl), .inl rfl, hs1, ?_⟩
    exact wv_over
  · have hit1 : w1.heap[b]? = some (.mapIter (some bm) since seen.toArray last) := by rw [hheap]; exact hit
    have hblt : b < w1.heap.size := (Array.getElem?_eq_some_iff.1 hit1).1
    have hset : ∀ o', (setObj b o').run C.P w1 = .ok () { w1 with heap := w1.heap.setIfInBounds b o' } := fun o' => by simp [setObj, Sem.run, hit1]
    have hw := hs1.wrote nid id b (.miter (.mp im) since (seen ++ [p'.b]) ck) (w' := { w1 with heap := w1.heap.setIfInBounds b (.mapIter (some bm) since (seen.toArray.push e'.born) ck) }) hb (by rw [hid]; rfl)
      (fun k hk => by simp [Array.getElem?_setIfInBounds_ne (Ne.symm hk)]) (by simp) rfl rfl rfl (fun c T hc => by rw [hit1] at hc; cases hc)
      (fun hrel' => ⟨b, some bm, hb, by simp [hblt, heb], hrel' _ _ (hrel1 _ _ hmv)⟩)
    refine ⟨_, _, β, .tuple #[.bool true, e'.key, e'.val], hnext _ { w1 with heap := w1.heap.setIfInBounds b (.mapIter (some bm) since (seen.toArray.push e'.born) ck) } ?_, .inl rfl, hw.1, ?_⟩
    · rw [hck2, h1]
      simp only [Sem.run_bind, hset, Result.andThen_ok, Sem.run_pure]
    · rw [hek]
      exact wv_next (hw.2 _ _ (hrel1 _ _ hev))

theorem ok_nxm0 {x : Operand} {id since last : Nat} {seen : List Nat} (ho : o.op = .next x false) (hs : HoldsB C U s β a w) (hx : s.ev x = .pt id 0) (hid : s.ho id = some (.miter (.v (.map none)) since seen last)) : OpOk C U a w o (.tup [.v (.bool false)]) s := by
  have h1 := hs.ev x
  rw [hx] at h1
  obtain ⟨b, hxe, hb⟩ := rel_pt h1
  obtain ⟨b', mv, hb', hit, hmv⟩ := hs.hh.hp id _ (vw_some hid)
  rw [hb] at hb'; cases hb'
  have e1 := rel_v (hmv.2.1 (fun i hi => by simp [DV.refs] at hi))
  cases e1
  have hgi : (getObj b).run C.P w = .ok (.mapIter none since seen.toArray last) w := by simp [getObj, Sem.run, hit]
  exact .same hs (x := .tuple #[.bool false]) (by simp [execOp, ho, hxe, Instr.next, hgi, Result.andThen]) wv_over

theorem F2.find {α β : Type} {R : α → β → Prop} {f : α → Bool} {g : β → Bool} (hfg : ∀ a b, R a b → f a = g b) {l : List α} {m : List β} (h : F2 R l m) : ∀ {b : β}, m.find? g = some b → ∃ a, l.find? f = some a ∧ R a b := by
  induction h with
  | nil => intro b hb; simp at hb
  | cons h _ ih =>
    intro b hb
    rw [List.find?_cons] at hb ⊢
    rw [hfg _ _ h]
    split at hb
    · cases hb; exact ⟨_, rfl, h⟩
    · exact ih hb
theorem wv_pair {V : Nat → Option DObj} {k x : Value} {v : DV} (h : WV C U V β w x v) : WV C U V β w (.tuple #[k, x]) (.tup [ofV k, v]) := by
  refine ⟨fun id hi => ?_, fun ha => .tup [k, x] _ rfl fun j u d hu hd => ?_, TP.of_wv (C := C) (U := U) (V := V) (β := β) (w := w) (us := [k, x]) rfl fun j u d hu hd => ?_⟩
  · simp [DV.refs, DV.refsL, refs_ofV] at hi; exact h.1 id hi
  · match j with
    | 0 => simp at hu hd; subst hu hd; exact rel_ofV _
    | 1 => simp at hu hd; subst hu hd; exact h.2.1 fun id hi => ha id (by simp [DV.refs, DV.refsL, refs_ofV, hi])
    | j + 2 => simp at hu
  · match j with
    | 0 => simp at hu hd; subst hu hd; exact wv_key _
    | 1 => simp at hu hd; subst hu hd; exact h
    | j + 2 => simp at hu
/-- What an iterator came to last. -/
theorem ent_ok {x : Operand} {l : List (DV × Upd)} (ho : o.op = .entry x) (hs : HoldsB C U s β a w) (h : entL s x = some l) : ∃ p ∈ l, OpOk C U a w o p.1 (s.upd nid p.2) := by
  unfold entL at h
  split at h
  rotate_left
  · cases h
  rename_i id hx
  split at h
  rotate_left
  · cases h
  rename_i im since seen last hid
  split at h
  rotate_left
  · cases h
  rename_i ck es him
  split at h
  rotate_left
  · cases h
  rename_i hck
  subst hck
  split at h
  rotate_left
  · cases h
  rename_i st hst
  split at h
  rotate_left
  · cases h
  rename_i e he
  cases h
  have h1 := hs.ev x
  rw [hx] at h1
  obtain ⟨b, hxe, hb⟩ := rel_pt h1
  obtain ⟨b', mv, hb', hit, hmv⟩ := hs.hh.hp id _ (vw_some hid)
  rw [hb] at hb'; cases hb'
  have hmr := hmv.2.1 (fun i hi => by simp [DV.refs] at hi; subst hi; rw [vw_some him]; rfl)
  obtain ⟨bm, e1, hbm⟩ := rel_mp hmr
  cases e1
  obtain ⟨ms, hm, hsz, hrel⟩ := hs.mapo hbm him
  have hf2 : F2 (fun (e : MapEntry) (p : ME) => e.key = p.k ∧ e.born = p.b ∧ WV C U (s.vw C) β w e.val p.v) ms.toList es := F2.of (by simpa using hsz) fun j e p he hp => hrel j e p (by simpa using he) hp
  have hgi : (getObj b).run C.P w = .ok (.mapIter (some bm) since seen.toArray ck) w := by simp [getObj, Sem.run, hit]
  have hgm : (getObj bm).run C.P w = .ok (.map ms ck) w := MapKept.run_getObj_map hm
  obtain ⟨e0, hf, hk, hbn, hv⟩ := hf2.find (f := fun (e : MapEntry) => e.born == st) (g := fun (e : ME) => e.b == st) (fun a b hr => by rw [hr.2.1]) he
  have hf' : ms.find? (fun e => e.born == st) = some e0 := by
    obtain ⟨l⟩ := ms
    simpa using hf
  have hbk : seen.toArray.back? = some st := by rw [List.back?_toArray]; exact hst
  refine ⟨_, List.mem_singleton.2 rfl, .same (x := .tuple #[e0.key, e0.val]) hs ?_ ?_⟩
  · simp [execOp, ho, hxe, Instr.entry, hgi, hbk, hgm, hf', Result.andThen]
  · rw [hk]; exact wv_pair hv
/-- A step of an iterator: one of all that may come. -/
theorem nxm_ok {k : Bool} {x : Operand} {l : List (DV × Upd)} (ho : o.op = if k then .entry x else .next x false) (hs : HoldsB C U s β a w) (h : nxmL s k x = some l) : ∃ p ∈ l, OpOk C U a w o p.1 (s.upd nid p.2) := by
  unfold nxmL at h
  cases k with
  | true => exact ent_ok ho hs h
  | false =>
    simp only [Bool.false_eq_true, if_false] at h ho
    split at h
    · rename_i id hx
      split at h
      · rename_i hid
        cases h
        exact ⟨_, List.mem_singleton.2 rfl, ok_nxm0 ho hs hx hid⟩
      · rename_i im since seen last hid
        split at h
        · rename_i ck es him
          split at h
          · cases h
          · rename_i hg
            cases h
            obtain ⟨c, hc, hok⟩ := ok_nxm (nid := nid) ho hs hx hid him (by simpa using hg)
            exact ⟨_, List.mem_map.2 ⟨c, hc, rfl⟩, hok⟩
        · cases h
      · cases h
    · cases h

/-! Iterators of strings. -/
theorem ok_rgs {t : TypeId} {x : Operand} {b : ByteArray} (ho : o.op = .range t x) (ht : C.P.underlying t = some .string) (hs : HoldsB C U s β a w) (hn : ¬ U nid) (hx : s.ev x = .v (.string b)) : OpOk C (Un U nid) a w o (.pt nid 0) (s.upd nid (.lay (.siter b 0))) := by
  have hxe : a.eval x = .string b := by have := hs.ev x; rw [hx] at this; exact rel_v this
  have hbl := below_alloc w (.stringIter b 0)
  have hf := (hs.turned (β' := upd β nid (some w.heap.size)) (w' := w.alloc (.stringIter b 0)) hn none (fun _ h => by cases h) (.siter b 0) (fun b hb _ => hbl.block b hb) hbl.os hbl.tape hbl.output hbl.size (fun j hj _ => upd_other β _ hj) (fun _ h => by cases h)
    (fun b hb => by rw [upd_same] at hb; cases hb; exact ⟨.inr (Nat.le_refl _), by simp⟩) (fun hrel => ⟨_, upd_same _ _ _, heap_alloc_new w _⟩)).1
  refine ⟨.value (.pointer (some ⟨w.heap.size, 0, none⟩)), _, _, _, ?_, .inl rfl, hf, wv_new (.pt nid 0 _ (by simp)) rfl⟩
  simp [execOp, ho, hxe, Instr.range, run_underlying ht]
theorem wv_three {V : Nat → Option DObj} (x y z : Value) : WV C U V β w (.tuple #[x, y, z]) (.tup [.v x, .v y, .v z]) :=
  WV.flat (.tup [x, y, z] _ rfl fun j u d hu hd => by
    match j with
    | 0 => simp at hu hd; subst hu hd; exact .imm _ _ (.v _)
    | 1 => simp at hu hd; subst hu hd; exact .imm _ _ (.v _)
    | 2 => simp at hu hd; subst hu hd; exact .imm _ _ (.v _)
    | j + 3 => simp at hu) rfl
theorem ok_nxs {x : Operand} {id pos : Nat} {t : ByteArray} (ho : o.op = .next x true) (hs : HoldsB C U s β a w) (hx : s.ev x = .pt id 0) (hid : s.ho id = some (.siter t pos)) :
    (pos < t.size → OpOk C U a w o (.tup [.v (.bool true), .v (.int .i64 (pos : Nat)), .v (.int .i32 ((Utf8.decode t pos).1 : Nat))]) (s.upd nid (.wr id (.siter t (pos + (Utf8.decode t pos).2))))) ∧
    (¬ pos < t.size → OpOk C U a w o (.tup [.v (.bool false)]) s) := by
  have h1 := hs.ev x
  rw [hx] at h1
  obtain ⟨b, hxe, hb⟩ := rel_pt h1
  obtain ⟨b', hb', hit⟩ := hs.hh.hp id _ (vw_some hid)
  rw [hb] at hb'; cases hb'
  have hgi : (getObj b).run C.P w = .ok (.stringIter t pos) w := by simp [getObj, Sem.run, hit]
  have hset : ∀ o', (setObj b o').run C.P w = .ok () { w with heap := w.heap.setIfInBounds b o' } := fun o' => by simp [setObj, Sem.run, hit]
  have hblt : b < w.heap.size := (Array.getElem?_eq_some_iff.1 hit).1
  refine ⟨fun hp => ?_, fun hp => ?_⟩
  · have hw := hs.wrote nid id b (.siter t (pos + (Utf8.decode t pos).2)) (w' := { w with heap := w.heap.setIfInBounds b (.stringIter t (pos + (Utf8.decode t pos).2)) }) hb (by rw [hid]; rfl)
      (fun k hk => by simp [Array.getElem?_setIfInBounds_ne (Ne.symm hk)]) (by simp) rfl rfl rfl (fun c T hc => by rw [hit] at hc; cases hc)
      (fun hrel' => ⟨b, hb, by simp [hblt]⟩)
    refine ⟨.value (.tuple #[.bool true, .int .i64 (pos : Nat), .int .i32 ((Utf8.decode t pos).1 : Nat)]), _, β, _, ?_, .inl rfl, hw.1, wv_three _ _ _⟩
    simp [execOp, ho, hxe, Instr.next, hgi, hp, hset, goInt, Result.andThen]
  · exact .same hs (x := .tuple #[.bool false]) (by simp [execOp, ho, hxe, Instr.next, hgi, hp, Result.andThen]) wv_over

theorem ok_mki {t : TypeId} {x : Operand} {td : TypeDesc} (ho : o.op = .makeInterface t x) (ht : C.P.underlying t = some td) (hni : ∀ ms, td ≠ .interface ms) (hs : HoldsB C U s β a w) : OpOk C U a w o (.ifc t (s.ev x)) s := by
  have h1 := hs.evw x
  refine .same hs (x := .iface t (a.eval x)) ?_ ⟨fun id hi => h1.1 id (by simpa [DV.refs] using hi), fun ha => .ifc t _ _ (h1.2.1 fun id hi => ha id (by simpa [DV.refs] using hi)), TP.nt fun _ h => by cases h⟩
  have : (Instr.makeInterface t (a.eval x)).run C.P w = .ok (.iface t (a.eval x)) w := by
    unfold Instr.makeInterface
    simp only [Sem.run_bind, run_underlying ht, Result.andThen_ok]
    cases td <;> first | rfl | (exact absurd rfl (hni _))
  simp [execOp, ho, this]

theorem ok_tas {xt t : TypeId} {x : Operand} {td : TypeDesc} {z : Value} {ok : Bool} (ho : o.op = .typeAssert x xt t ok) (ht : C.P.underlying t = some td) (hni : ∀ ms, td ≠ .interface ms) (hz : (C.P.info? t).bind (·.zero) = some z) (hs : HoldsB C U s β a w) :
    (∀ d, s.ev x = .ifc t d → OpOk C U a w o (lkRes ok d true) s) ∧ (ok = true → (∀ T d, T ≠ t → s.ev x = .ifc T d → OpOk C U a w o (.tup [.v z, .v (.bool false)]) s) ∧ (s.ev x = .v .nilIface → OpOk C U a w o (.tup [.v z, .v (.bool false)]) s)) := by
  have h1 := hs.ev x
  have hzero := run_zero hz w
  refine ⟨fun d hx => ?_, fun hok => ⟨fun T d hT hx => ?_, fun hx => ?_⟩⟩
  · rw [hx] at h1
    obtain ⟨u, e1, hr⟩ := rel_ifc h1
    refine .same hs (x := if ok then .tuple #[u, .bool true] else u) ?_ (lkRes_rel (hs.evp x hr (by rw [hx]; simp [DV.refs])))
    have : (Instr.typeAssert (.iface t u) xt t ok).run C.P w = .ok (if ok then .tuple #[u, .bool true] else u) w := by
      unfold Instr.typeAssert
      simp only [Sem.run_bind, run_underlying ht, Result.andThen_ok]
      cases td <;> first | (simp; done) | (exact absurd rfl (hni _))
    simp [execOp, ho, e1, this]
  · subst hok
    rw [hx] at h1
    obtain ⟨u, e1, hr⟩ := rel_ifc h1
    refine .same hs (x := .tuple #[z, .bool false]) ?_ (wv_two (WV.v z))
    have : (Instr.typeAssert (.iface T u) xt t true).run C.P w = .ok (.tuple #[z, .bool false]) w := by
      unfold Instr.typeAssert
      simp only [Sem.run_bind, run_underlying ht, Result.andThen_ok]
      cases td <;> first | (simp [hT, hzero]; done) | (exact absurd rfl (hni _))
    simp [execOp, ho, e1, this]
  · subst hok
    rw [hx] at h1
    have e1 := rel_v h1
    refine .same hs (x := .tuple #[z, .bool false]) ?_ (wv_two (WV.v z))
    have : (Instr.typeAssert .nilIface xt t true).run C.P w = .ok (.tuple #[z, .bool false]) w := by
      unfold Instr.typeAssert
      simp only [Sem.run_bind, run_underlying ht, Result.andThen_ok]
      cases td <;> first | (simp [hzero]; done) | (exact absurd rfl (hni _))
    simp [execOp, ho, e1, this]

theorem ok_sla {ar e : TypeId} {x : Operand} {n id : Nat} {cs : List DV} (ho : o.op = .slice ar x none none none) (har : C.P.underlying ar = some (.array n e)) (hce : 0 < C.P.cellsOf e) (hn0 : 0 < n) (hnb : n ≤ 2147483648)
    (hs : HoldsB C U s β a w) (hx : s.ev x = .pt id 0) (hid : s.ho id = some (.row ar cs)) (hl : cs.length = n * C.P.cellsOf e) : OpOk C U a w o (.ms id 0 n (C.P.cellsOf e)) s := by
  have h1 := hs.ev x
  rw [hx] at h1
  obtain ⟨b, hxe, hb⟩ := rel_pt h1
  obtain ⟨c, hw, hlc, hex, hr⟩ := hs.row hb hid
  have hsz := hex (by simp [isArr, har])
  refine .same hs (x := .slice (some ⟨b, 0, none⟩) n n) ?_ (hs.evp x (.ms id 0 n (C.P.cellsOf e) b n c ar hb hw (Nat.le_refl _) (by simp only [maxLen]; omega) (by omega)) (by rw [hx]; simp [DV.refs]))
  have hso := run_sizeOf_pos (P := C.P) (t := e) (by omega) w
  have hne : ¬ n = 0 := by omega
  simp [execOp, ho, hxe, Instr.sliceAt, run_underlying har, Instr.sureAddr, Instr.sliceBounds, hso, hne, Addr.add]

theorem srcC_ok {es m : Nat} {x : Operand} {news : List DV} (hs : HoldsB C U s β a w) (h : srcC s es (s.ev x) = some (news, m)) (hnl : news.length = m * es) :
    ∃ us : List Value, us.length = news.length ∧ (∀ u ∈ us, u.oneCell' = true) ∧ (∀ (j : Nat) (u : Value) (d : DV), us[j]? = some u → news[j]? = some d → WV C U (s.vw C) β w u d) ∧
      ((∃ ad cap, a.eval x = .slice (some ad) m cap ∧ ∀ (j : Nat) (u : Value), us[j]? = some u → w.cell? (ad.add j) = some u) ∨ (∃ cap, a.eval x = .slice none 0 cap ∧ m = 0 ∧ us = [])) := by
  have h1 := hs.ev x
  unfold srcC at h
  split at h
  · rename_i cs n hx
    cases h
    rw [hx] at h1
    rcases rel_sl h1 with ⟨ad, cap, e1, rfl, rfl⟩ | ⟨ad, cap, us, e1, hl, hn, ha, h1c, hc, hr⟩
    · refine ⟨[], rfl, by simp, by simp, ?_⟩
      cases ad with
      | none => exact .inr ⟨cap, e1, rfl, rfl⟩
      | some ad => exact .inl ⟨ad, cap, e1, by simp⟩
    · exact ⟨us, hl, h1c, fun j u d hu hd => wv_imm (hr j u d hu hd), .inl ⟨ad, cap, e1, hc⟩⟩
  · rename_i cap hx
    cases h
    rw [hx] at h1
    exact ⟨[], rfl, by simp, by simp, .inr ⟨cap, rel_v h1, rfl, rfl⟩⟩
  · rename_i id off n es' hx
    rw [hx] at h1
    split at h
    · rename_i T' cs hrow
      split at h
      · rename_i hfit
        obtain ⟨rfl, hfit⟩ := hfit
        cases h
        rcases rel_ms h1 with ⟨e1, rfl, rfl⟩ | ⟨b, cap, c, T, e1, hb, hw, hn, hm, hcap⟩
        · exact ⟨[], by simp, by simp, by simp, .inr ⟨0, e1, rfl, rfl⟩⟩
        · obtain ⟨c', hw', hl, _, hr⟩ := hs.row hb hrow
          rw [hw] at hw'
          injection hw' with hw'
          injection hw' with hcc hT
          subst hT hcc
          refine ⟨(c.toList.drop off).take (m * es'), by simp; omega, fun u hu => ?_, fun j u d hu hd => ?_, .inl ⟨_, cap, e1, fun j u hu => ?_⟩⟩
          · obtain ⟨j, hj, rfl⟩ := List.mem_iff_getElem.1 hu
            have hjl : off + j < cs.length := by simp at hj; omega
            refine (hr (off + j) _ cs[off + j] ?_ (List.getElem?_eq_getElem hjl)).2
            rw [List.getElem_take, List.getElem_drop]
            simp
          · rw [List.getElem?_take] at hu hd
            split at hu
            · rename_i hj
              rw [if_pos hj] at hd
              exact (hr (off + j) u d (by simpa using hu) (by simpa using hd)).1
            · cases hu
          · rw [List.getElem?_take] at hu
            split at hu
            · exact cell_row hw j u hu
            · cases hu
      · cases h
    · cases h
  · cases h

theorem HoldsB.rowSet {T : TypeId} {id b off : Nat} {cs gd : List DV} {g : List Value} {c : Array Value} (hs : HoldsB C U s β a w) (hb : β id = some b) (hid : s.ho id = some (.row T cs)) (hw : w.heap[b]? = some (.cells c T (0, 0)))
    (hgl : g.length = gd.length) (g1 : ∀ u ∈ g, u.oneCell' = true) (gr : ∀ (j : Nat) (u : Value) (d : DV), g[j]? = some u → gd[j]? = some d → WV C U (s.vw C) β w u d) (hfit : off + gd.length ≤ cs.length) :
    HoldsB C U (s.upd nid (.wr id (.row T (cs.take off ++ gd ++ cs.drop (off + gd.length))))) β a (w.setRow b (c.toList.take off ++ g ++ c.toList.drop (off + g.length)).toArray) := by
  obtain ⟨c0, hw0, hl, hex, hr⟩ := hs.row hb hid
  rw [hw] at hw0
  injection hw0 with hw0
  injection hw0 with hcc
  subst hcc
  refine (hs.wrote nid id b _ hb (by rw [hid]; rfl) (fun b' hb' => setRow_other w b b' _ hb') (by simp) rfl rfl rfl ?_ fun hrel => ?_).1
  · intro c' T' hc'
    rw [hw] at hc'
    cases hc'
    refine ⟨_, setRow_heap w b c _ T _ hw, ?_⟩
    simp; omega
  · refine .inr ⟨b, _, hb, setRow_heap w b c _ T _ hw, by simp; omega, fun h => (by have := hex h; simp; omega), fun j u d hu hd => ?_⟩
    have hu' : (c.toList.take off ++ g ++ c.toList.drop (off + gd.length))[j]? = some u := by rw [← hgl]; simpa using hu
    rw [List.append_assoc, List.getElem?_append] at hu' hd
    simp only [List.length_take, Array.length_toList] at hu' hd
    rw [show min off c.size = off by omega] at hu'
    rw [show min off cs.length = off by omega] at hd
    by_cases hj : j < off
    · rw [if_pos hj] at hu' hd
      rw [List.getElem?_take_of_lt hj] at hu' hd
      have := hr j u d (by simpa using hu') hd
      exact ⟨hrel _ _ this.1, this.2⟩
    · rw [if_neg hj] at hu' hd
      rw [List.getElem?_append] at hu' hd
      rw [hgl] at hu'
      by_cases hj2 : j - off < gd.length
      · rw [if_pos hj2] at hu' hd
        exact ⟨hrel _ _ (gr _ u d hu' hd), g1 u (List.mem_of_getElem? hu')⟩
      · rw [if_neg hj2] at hu' hd
        rw [List.getElem?_drop] at hu' hd
        have := hr _ u d (by simpa using hu') hd
        exact ⟨hrel _ _ this.1, this.2⟩

theorem ok_cpy {t T e : TypeId} {c : Call} {x y : Operand} {id off n m es : Nat} {cs news : List DV} (ho : o.op = .call c) (hc : c.callee = .builtin .copy) (hargs : c.args.toList = [x, y]) (hty : c.argTypes[0]? = some t) (ht : C.P.underlying t = some (.slice e))
    (hes : es = C.P.cellsOf e) (hce : 0 < C.P.cellsOf e) (hs : HoldsB C U s β a w) (hx : s.ev x = .ms id off n es) (hid : s.ho id = some (.row T cs)) (hy : srcC s es (s.ev y) = some (news, m)) (hn0 : 0 < n) (hfit : off + n * es ≤ cs.length) (hnl : news.length = m * es) :
    OpOk C U a w o (.v (.int .i64 (min m n : Nat))) (s.upd nid (.wr id (.row T (cs.take off ++ news.take (min m n * es) ++ cs.drop (off + min m n * es))))) := by
  have hA : c.args = #[x, y] := by apply Array.ext'; simpa using hargs
  have h1 := hs.ev x
  rw [hx] at h1
  obtain ⟨us, ul, u1, ur, usrc⟩ := srcC_ok hs hy hnl
  rcases rel_ms h1 with ⟨_, _, h0⟩ | ⟨b, cap, cc, T', e1, hb, hw, hn, hm, hcap⟩
  · omega
  obtain ⟨c0, hw0, hl, hex, hr⟩ := hs.row hb hid
  rw [hw] at hw0
  injection hw0 with hw0
  injection hw0 with hcc hTT
  subst hcc hTT
  have hso : (sizeOf e).run C.P w = .ok es w := by rw [hes]; exact run_sizeOf_pos (by omega) w
  have hmn : min m n * es ≤ m * es := Nat.mul_le_mul_right _ (Nat.min_le_left _ _)
  have hmn2 : min m n * es ≤ n * es := Nat.mul_le_mul_right _ (Nat.min_le_right _ _)
  have htl : (us.take (min m n * es)).length = min m n * es := by simp; omega
  have htd : (news.take (min m n * es)).length = min m n * es := by simp; omega
  have hst := run_storeCells_at C.P b off T' (us.take (min m n * es)) 0 cc w hw (by rw [htl]; omega) (fun u hu => u1 u (List.mem_of_mem_take hu))
  simp only [Nat.add_zero] at hst
  have hfirst : (Builtin.firstCells es (min m n) (a.eval y)).run C.P w = .ok (us.take (min m n * es)).toArray w := by
    rcases usrc with ⟨ad, cap', e2, hcell⟩ | ⟨cap', e2, rfl, rfl⟩
    · rw [e2]
      have := run_loadCells_list (P := C.P) w ad (us.take (min m n * es)) (fun j v hv => hcell j v (by
        rw [List.getElem?_take] at hv
        split at hv
        · exact hv
        · cases hv))
      rw [htl] at this
      exact this
    · rw [e2]; simp [Builtin.firstCells]
  have hlen : (Builtin.lenOf (a.eval y)).run C.P w = .ok m w := by
    rcases usrc with ⟨ad, cap', e2, _⟩ | ⟨cap', e2, rfl, _⟩ <;> rw [e2] <;> rfl
  have hwr := hs.rowSet (nid := nid) (off := off) (g := us.take (min m n * es)) (gd := news.take (min m n * es)) hb hid hw (by rw [htl, htd]) (fun u hu => u1 u (List.mem_of_mem_take hu))
    (fun j u d hu hd => by
      rw [List.getElem?_take] at hu hd
      split at hu
      · rename_i hj
        rw [if_pos hj] at hd
        exact ur j u d hu hd
      · cases hu) (by rw [htd]; omega)
  rw [htd, htl] at hwr
  rw [htl] at hst
  refine ⟨.value (.int .i64 (min m n : Nat)), _, β, _, ?_, .inl rfl, hwr, WV.v _⟩
  have hmin : Nat.min m n = min m n := rfl
  simp [execOp, ho, resolve, hc, hA, invoke, builtin, Builtin.copy_, hty, e1, run_underlying ht, hlen, hso, hmin, hfirst, hst, goInt, Result.andThen]

/-- Bytes as a string. -/
theorem ok_b2s {t t' e : TypeId} {x : Operand} {news : List DV} {m : Nat} {ns : List Int} (ho : o.op = .convert t t' x) (hs1 : C.P.underlying t = some (.slice e)) (he : C.P.underlying e = some (.int .u8)) (hd : C.P.underlying t' = some .string)
    (hs : HoldsB C U s β a w) (h : srcC s 1 (s.ev x) = some (news, m)) (hl : news.length = m) (hn : numsV news = some ns) : OpOk C U a w o (.v (.string (strOfNums ns))) s := by
  obtain ⟨us, hul, huo, hur, hcase⟩ := srcC_ok hs h (by omega)
  obtain ⟨hnl, hng⟩ := numsV_get hn
  have hus : us = ns.map (Value.int .u8) := by
    apply List.ext_getElem?
    intro j
    rw [List.getElem?_map]
    by_cases hj : j < us.length
    · have h1 := List.getElem?_eq_getElem hj
      have h2 := List.getElem?_eq_getElem (l := news) (i := j) (by omega)
      obtain ⟨n, h3, h4⟩ := hng j _ h2
      have h5 := hur j _ _ h1 h2
      rw [h4] at h5
      rw [h1, h3, h5.v_eq]
      rfl
    · rw [List.getElem?_eq_none (by omega), List.getElem?_eq_none (by omega)]
      rfl
  refine .same hs (x := .string (strOfNums ns)) ?_ (WV.v _)
  rcases hcase with ⟨ad, cap, e1, hc⟩ | ⟨cap, e1, rfl, rfl⟩
  · have hlc := run_loadCells_list (P := C.P) w ad us hc
    have hum : us.length = m := by omega
    rw [hum, hus] at hlc
    have hb := run_bytesToString (P := C.P) w ad m cap ns hlc
    rw [foldl_push_bytes] at hb
    have e2 : (⟨ByteArray.empty.data ++ (ns.map fun n => UInt8.ofNat n.toNat).toArray⟩ : ByteArray) = strOfNums ns := by
      simp [strOfNums, ByteArray.empty, ByteArray.emptyWithCapacity]
      rfl
    rw [e2] at hb
    simp only [execOp, ho, e1, Sem.run_bind, run_convert_bytes_string w t t' e (some ad) m cap hs1 he hd, hb, Result.andThen_ok, Sem.run_pure]
  · have hns : ns = [] := List.eq_nil_of_length_eq_zero (by rw [hnl, hl])
    subst hns
    have hb := run_convert_bytes_nil (P := C.P) w t e hs1 he 0 cap t' hd
    have e2 : ByteArray.empty = strOfNums [] := rfl
    rw [e2] at hb
    simp only [execOp, ho, e1, Sem.run_bind, hb, Result.andThen_ok, Sem.run_pure]

theorem freeze_heap {w : World} {b k : Nat} {c : Array Value} {T : TypeId} (h : w.heap[b]? = some (.cells c T (0, 0))) :
    (w.freeze ⟨b, k, none⟩ 1).heap[b]? = some (.cells c T (k, k + 1)) ∧ (∀ i, i ≠ b → (w.freeze ⟨b, k, none⟩ 1).heap[i]? = w.heap[i]?) ∧ (w.freeze ⟨b, k, none⟩ 1).heap.size = w.heap.size := by
  unfold World.freeze
  rw [if_neg (by decide)]
  refine ⟨?_, fun i hi => ?_, by simp⟩
  · simp [Array.getElem?_modify, h]
  · simp only [Array.getElem?_modify]
    rw [if_neg (fun e => hi e.symm)]

/-- A literal's bytes are marked as a string's: the row is given away, and read as what it holds. -/
theorem ok_frz {t e T : TypeId} {x : Operand} {id n : Nat} {cs : List DV} {ns : List Int} (ho : o.op = .convert t t x) (ht : C.P.underlying t = some (.slice e)) (he : C.P.underlying e = some (.int .u8))
    (hs : HoldsB C U s β a w) (hn : ¬ U nid) (hx : s.ev x = .ms id 0 n 1) (hid : s.ho id = some (.row T cs)) (h0 : 0 < n) (hl : cs.length = n) (hns : numsV cs = some ns) : OpOk C (Un U nid) a w o (.sl cs n) (s.upd nid (.mv (some id) (.row T []))) := by
  have h1 := hs.ev x
  rw [hx] at h1
  rcases rel_ms h1 with ⟨_, _, hz⟩ | ⟨b, cap, c, T', e1, hb, hw, hnc, hm, hcap⟩
  · omega
  · obtain ⟨c', hw', hlc, _, hr⟩ := hs.row hb hid
    rw [hw] at hw'
    cases hw'
    have hblt : b < w.heap.size := hs.hh.lt hb
    obtain ⟨f1, f2, f3⟩ := freeze_heap (k := c.size) hw
    obtain ⟨w', hw'⟩ : ∃ w', w.freeze ⟨b, c.size, none⟩ 1 = w' := ⟨_, rfl⟩
    rw [hw'] at f1 f2 f3
    have hos : w'.os = w.os ∧ w'.tape = w.tape ∧ w'.output = w.output := by
      rw [← hw']; unfold World.freeze; rw [if_neg (by decide)]; exact ⟨rfl, rfl, rfl⟩
    have hidn : id ≠ nid := fun h => hn (h ▸ hs.hh.used (vw_alive (by rw [hid]; rfl)))
    have htn := hs.turned (β' := upd (upd β id none) nid none) (w' := w') hn (some id) (fun i hi => by cases hi; rw [hid]; rfl) (.row T []) (fun k hk hne => f2 k fun h => hne id rfl (by rw [h]; exact hb))
      hos.1 hos.2.1 hos.2.2 (by omega) (fun j hj hjo => by rw [upd_other _ _ hj, upd_other _ _ (fun h => hjo (by rw [h]))]) (fun i hi => by cases hi; rw [upd_other _ _ hidn, upd_same])
      (fun b' hb' => by rw [upd_same] at hb'; cases hb') (fun _ => .inl ⟨upd_same _ _ _, rfl⟩)
    obtain ⟨hnl, hng⟩ := numsV_get hns
    have hnob : ∀ j, upd (upd β id none) nid none j ≠ some b := fun j hj => by
      unfold upd at hj
      split at hj
      · cases hj
      · split at hj
        · cases hj
        · rename_i h2
          exact h2 (hs.hh.inj j id b hj hb)
    have hrun : (execOp a.eval o).run C.P w = .ok (.value (.slice (some ⟨b, 0, none⟩) n cap)) w' := by
      have hsh : w.shape? b = some (T, c.size) := by unfold World.shape?; rw [hw]
      simp [execOp, ho, e1, convert, run_underlying ht, run_underlying he, markStringish, hsh, hw']
    refine ⟨_, w', _, _, hrun, .inl rfl, htn.1, wv_imm ?_⟩
    refine .sl ⟨b, 0, none⟩ n cap (c.toList.take n) cs (by simp; omega) hnc ⟨?_, by show b < w'.heap.size; omega, hnob⟩ (fun u hu => ?_) (fun j u hu => ?_) (fun j u d hu hd => ?_)
    · rcases (hs.hh.bge id b hb).1 with h | h
      · exact .inr (.inl h)
      · exact .inr (.inr h)
    · obtain ⟨j, hj, rfl⟩ := List.mem_iff_getElem.1 hu
      simp at hj
      have hjc : j < cs.length := by omega
      have := (hr j c[j] cs[j] (by simp) (List.getElem?_eq_getElem hjc)).2
      simpa using this
    · have hj := (List.getElem?_eq_some_iff.1 hu).1
      simp at hj
      rw [Addr.add_lit, cell_of_row w' _ _ _ _ _ f1]
      rw [List.getElem?_take_of_lt (by omega)] at hu
      simpa using hu
    · have hj := (List.getElem?_eq_some_iff.1 hu).1
      simp at hj
      rw [List.getElem?_take_of_lt (by omega)] at hu
      obtain ⟨m, _, rfl⟩ := hng j d hd
      have h5 := (hr j u _ (by simpa using hu) hd).1
      rw [h5.v_eq]
      exact .v _

end ops
end Go.DD
