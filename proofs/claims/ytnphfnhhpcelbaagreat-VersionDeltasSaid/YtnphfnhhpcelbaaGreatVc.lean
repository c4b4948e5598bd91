/- Iterators of maps, interface values, slices of arrays, copies. -/
import Derived.Test.YtnphfnhhpcelbaaGreatVb
import Derived.Tactics
import Derived.OrdersIn
import Derived.OwnWalkIn
import Derived.RangeFuncNested
import Derived.RangeFuncLeaves
namespace Go.DD
open Go.RowKit (Below)
section ops
variable {C : Ctx} {U : Nat → Prop} {s : DS} {β : Nat → Option Nat} {a : Act} {w : World} {o : Oper} {d : DV} {s' : DS} {nid : Nat}
theorem B04 {t kt et : TypeId} {x : Operand} (ho : o.op = .range t x) (ht : C.P.underlying t = some (.map kt et)) (hs : HoldsB C U s β a w) (hn : ¬ U nid) :
    (s.ev x = .v (.map none) → OpOk C (Un U nid) a w o (.pt nid 0) (s.upd nid (.lay (.miter (.v (.map none)) 0 [] 0)))) ∧
    (∀ id ck es, s.ev x = .mp id → s.ho id = some (.mapo ck es) → OpOk C (Un U nid) a w o (.pt nid 0) (s.upd nid (.lay (.miter (.mp id) ck [] ck)))) := by
  have key : ∀ (mv : Option Nat) (m : DV) (ck : Nat), a.eval x = .map mv → s.ev x = m → (Instr.range t (.map mv)).run C.P w = .ok (.pointer (some ⟨w.heap.size, 0, none⟩)) (w.alloc (.mapIter mv ck #[] ck)) →
      OpOk C (Un U nid) a w o (.pt nid 0) (s.upd nid (.lay (.miter m ck [] ck))) := by
    intro mv m ck h1 h2 hrun
    have hbl := Ae5 w (.mapIter mv ck #[] ck)
    have hf := (hs.turned (β' := upd β nid (some w.heap.size)) (w' := w.alloc (.mapIter mv ck #[] ck)) hn none (fun _ h => by cases h) (.miter m ck [] ck) (fun b hb _ => hbl.block b hb) hbl.os hbl.tape hbl.output hbl.size (fun j hj _ => Ac3 β _ hj) (fun _ h => by cases h)
      (fun b hb => by rw [upd_same] at hb; cases hb; exact ⟨.inr (Nat.le_refl _), by simp⟩) (fun hrel => ⟨_, mv, upd_same _ _ _, heap_alloc_new w _, hrel _ _ (by rw [← h1, ← h2]; exact hs.evw x)⟩)).1
    refine ⟨.value (.pointer (some ⟨w.heap.size, 0, none⟩)), _, _, _, ?_, .inl rfl, hf, Aq6 (.pt nid 0 _ (by simp)) rfl⟩
    simp [execOp, ho, h1, hrun]
  refine ⟨fun hx => ?_, fun id ck es hx hid => ?_⟩
  · have hxe : a.eval x = .map none := by have := hs.ev x; rw [hx] at this; exact rel_v this
    refine key none _ 0 hxe hx ?_
    simp [Instr.range, run_underlying ht]
  · have h1 := hs.ev x
    rw [hx] at h1
    obtain ⟨b, hxe, hb⟩ := Am6 h1
    obtain ⟨ms, hm, hsz, hrel⟩ := hs.mapo hb hid
    have hg : (getObj b).run C.P w = .ok (.map ms ck) w := MapKept.run_getObj_map hm
    refine key (some b) _ ck hxe hx ?_
    simp [Instr.range, run_underlying ht, hg, Result.andThen]
inductive F2 {α β : Type} (R : α → β → Prop) : List α → List β → Prop
  | nil : F2 R [] []
  | cons {a b l m} (h : R a b) (t : F2 R l m) : F2 R (a :: l) (b :: m)
theorem F2.of {α β : Type} {R : α → β → Prop} : ∀ {l : List α} {m : List β}, l.length = m.length → (∀ (j : Nat) (a : α) (b : β), l[j]? = some a → m[j]? = some b → R a b) → F2 R l m
  | [], [], _, _ => .nil
  | a :: l, b :: m, hl, h => .cons (h 0 a b rfl rfl) (F2.of (by simpa using hl) fun j x y hx hy => h (j + 1) x y (by simpa using hx) (by simpa using hy))
  | [], _ :: _, hl, _ => by simp at hl
  | _ :: _, [], hl, _ => by simp at hl
theorem F2.filter {α β : Type} {R : α → β → Prop} {f : α → Bool} {g : β → Bool} (hfg : ∀ a b, R a b → f a = g b) : ∀ {l : List α} {m : List β}, F2 R l m → F2 R (l.filter f) (m.filter g)
  | _, _, .nil => .nil
  | _, _, .cons (a := a) (b := b) h t => by
    have ih := F2.filter hfg t
    simp only [List.filter_cons, hfg a b h]
    split
    · exact .cons h ih
    · exact ih
theorem F2.append {α β : Type} {R : α → β → Prop} {l l' : List α} {m m' : List β} (h : F2 R l m) (h' : F2 R l' m') : F2 R (l ++ l') (m ++ m') := by
  induction h with
  | nil => exact h'
  | cons h _ ih => exact .cons h ih
theorem F2.length {α β : Type} {R : α → β → Prop} {l : List α} {m : List β} (h : F2 R l m) : l.length = m.length := by
  induction h with
  | nil => rfl
  | cons _ _ ih => simp [ih]
theorem F2.get {α β : Type} {R : α → β → Prop} {l : List α} {m : List β} (h : F2 R l m) : ∀ {j : Nat} {a : α}, l[j]? = some a → ∃ b, m[j]? = some b ∧ R a b := by
  induction h with
  | nil => intro j a h; simp at h
  | cons h _ ih =>
    intro j a hj
    cases j with
    | zero => simp at hj; subst hj; exact ⟨_, rfl, h⟩
    | succ j => simpa using ih (by simpa using hj)
theorem F2.all {α β : Type} {R : α → β → Prop} {f : α → Bool} {g : β → Bool} (hfg : ∀ a b, R a b → f a = g b) {l : List α} {m : List β} (h : F2 R l m) : l.all f = m.all g := by
  induction h with
  | nil => rfl
  | cons h _ ih => simp [hfg _ _ h, ih]
theorem HoldsB.drawn (hs : HoldsB C U s β a w) : HoldsB C U s β a w.drew ∧ ∀ x d, WV C U (s.vw C) β w x d → WV C U (s.vw C) β w.drew x d := by
  have h := hs.hh.keep (Bg7 w)
  exact ⟨hs.carry rfl hs.yd h, h.2.1⟩
theorem A70 {V : Nat → Option DObj} : WV C U V β w (.tuple #[.bool false]) (.tup [.v (.bool false)]) :=
  WV.flat (.tup [.bool false] _ rfl fun j u d hu hd => by
    match j with
    | 0 => simp at hu hd; subst hu hd; exact .imm _ _ (.v _)
    | j + 1 => simp at hu) rfl
theorem B05 {V : Nat → Option DObj} (x : Value) : WV C U V β w x (ofV x) := WV.flat (Ay3 x) (Aj5 x)
theorem B85 {V : Nat → Option DObj} {k x : Value} {v : DV} (h : WV C U V β w x v) : WV C U V β w (.tuple #[.bool true, k, x]) (.tup [.v (.bool true), ofV k, v]) := by
  refine ⟨fun id hi => ?_, fun ha => .tup [.bool true, k, x] _ rfl fun j u d hu hd => ?_, TP.of_wv (C := C) (U := U) (V := V) (β := β) (w := w) (us := [.bool true, k, x]) rfl fun j u d hu hd => ?_⟩
  · simp [DV.refs, DV.refsL, Aj5] at hi; exact h.1 id hi
  · match j with
    | 0 => simp at hu hd; subst hu hd; exact .imm _ _ (.v _)
    | 1 => simp at hu hd; subst hu hd; exact Ay3 _
    | 2 => simp at hu hd; subst hu hd; exact h.2.1 fun id hi => ha id (by simp [DV.refs, DV.refsL, Aj5, hi])
    | j + 3 => simp at hu
  · match j with
    | 0 => simp at hu hd; subst hu hd; exact WV.v _
    | 1 => simp at hu hd; subst hu hd; exact B05 _
    | 2 => simp at hu hd; subst hu hd; exact h
    | j + 3 => simp at hu
theorem B86 (since : Nat) (seen : List Nat) (es : List ME) : candD since seen es ≠ [] := by
  unfold candD
  simp only
  split
  · simp
  · rename_i h
    intro e
    simp only [List.nil_append, List.map_append, List.append_eq_nil_iff, List.map_eq_nil_iff] at e
    rw [e.1] at h
    simp at h
theorem Cg5 {x : Operand} {id im ck since last : Nat} {seen : List Nat} {es : List ME} (ho : o.op = .next x false) (hs : HoldsB C U s β a w) (hx : s.ev x = .pt id 0) (hid : s.ho id = some (.miter (.mp im) since seen last)) (him : s.ho im = some (.mapo ck es))
    (hgone : (!seen.isEmpty && !es.isEmpty && es.all (fun e => decide (e.b ≥ last))) = false) :
    ∃ c ∈ candD since seen es, OpOk C U a w o (nxtU id (nxtD (.mp im) since seen ck c)).1 (s.upd nid (nxtU id (nxtD (.mp im) since seen ck c)).2) := by
  have h1 := hs.ev x
  rw [hx] at h1
  obtain ⟨b, hxe, hb⟩ := Ah7 h1
  obtain ⟨b', mv, hb', hit, hmv⟩ := hs.hh.hp id _ (Ad2 hid)
  rw [hb] at hb'; cases hb'
  have hmr := hmv.2.1 (fun i hi => by simp [DV.refs] at hi; subst hi; rw [Ad2 him]; rfl)
  obtain ⟨bm, e1, hbm⟩ := Am6 hmr
  cases e1
  obtain ⟨ms, hm, hsz, hrel⟩ := hs.mapo hbm him
  have hf2 : F2 (fun (e : MapEntry) (p : ME) => e.key = p.k ∧ e.born = p.b ∧ WV C U (s.vw C) β w e.val p.v) ms.toList es := F2.of (by simpa using hsz) fun j e p he hp => hrel j e p (by simpa using he) hp
  have hgi : (getObj b).run C.P w = .ok (.mapIter (some bm) since seen.toArray last) w := by simp [getObj, Sem.run, hit]
  have hgm : (getObj bm).run C.P w = .ok (.map ms ck) w := MapKept.run_getObj_map hm
  have hall : ms.all (fun e => decide (e.born ≥ last)) = es.all (fun e => decide (e.b ≥ last)) := by
    rw [← Array.all_toList]
    exact hf2.all fun e p h => by rw [h.2.1]
  have hemp : ms.isEmpty = es.isEmpty := by
    cases es with
    | nil => simp at hsz; subst hsz; rfl
    | cons p ps => have : ms.size ≠ 0 := by simp at hsz; omega
                   simp [Array.isEmpty, this]
  have hgone' : (!seen.toArray.isEmpty && !ms.isEmpty && ms.all (fun e => decide (e.born ≥ last))) = false := by
    rw [hall, hemp, ← hgone]; simp
  obtain ⟨old, hold⟩ : ∃ old, old = (ms.filter fun e => !seen.toArray.contains e.born).filter (fun e => decide (e.born < since)) := ⟨_, rfl⟩
  obtain ⟨new, hnew⟩ : ∃ new, new = (ms.filter fun e => !seen.toArray.contains e.born).filter (fun e => decide (e.born ≥ since)) := ⟨_, rfl⟩
  obtain ⟨cand, hcand⟩ : ∃ cand, cand = (if old.isEmpty then #[none] else #[]) ++ (old ++ new).map some := ⟨_, rfl⟩
  have f_left : F2 (fun (e : MapEntry) (p : ME) => e.key = p.k ∧ e.born = p.b ∧ WV C U (s.vw C) β w e.val p.v) (ms.toList.filter fun e => !seen.toArray.contains e.born) (es.filter fun e => !seen.contains e.b) :=
    F2.filter (fun e p h => by rw [h.2.1]; simp) hf2
  have f_old := F2.filter (f := fun (e : MapEntry) => decide (e.born < since)) (g := fun (e : ME) => decide (e.b < since)) (fun e p h => by rw [h.2.1]) f_left
  have f_new := F2.filter (f := fun (e : MapEntry) => decide (e.born ≥ since)) (g := fun (e : ME) => decide (e.b ≥ since)) (fun e p h => by rw [h.2.1]) f_left
  have holdl : old.toList = (ms.toList.filter fun e => !seen.toArray.contains e.born).filter (fun e => decide (e.born < since)) := by rw [hold]; simp
  have hnewl : new.toList = (ms.toList.filter fun e => !seen.toArray.contains e.born).filter (fun e => decide (e.born ≥ since)) := by rw [hnew]; simp
  have f_cand : F2 (fun (e : Option MapEntry) (p : Option ME) => (e = none ∧ p = none) ∨ ∃ e' p', e = some e' ∧ p = some p' ∧ e'.key = p'.k ∧ e'.born = p'.b ∧ WV C U (s.vw C) β w e'.val p'.v) cand.toList (candD since seen es) := by
    have hmap : ∀ {l : List MapEntry} {m : List ME}, F2 (fun (e : MapEntry) (p : ME) => e.key = p.k ∧ e.born = p.b ∧ WV C U (s.vw C) β w e.val p.v) l m → F2 (fun (e : Option MapEntry) (p : Option ME) => (e = none ∧ p = none) ∨ ∃ e' p', e = some e' ∧ p = some p' ∧ e'.key = p'.k ∧ e'.born = p'.b ∧ WV C U (s.vw C) β w e'.val p'.v) (l.map some) (m.map some) := by
      intro l m h
      induction h with
      | nil => exact .nil
      | cons h _ ih => exact .cons (.inr ⟨_, _, rfl, rfl, h⟩) ih
    rw [hcand]
    unfold candD
    simp only [Array.toList_append, Array.toList_map]
    refine F2.append ?_ (hmap (F2.append (by rw [holdl]; exact f_old) (by rw [hnewl]; exact f_new)))
    have hoe : old.isEmpty = ((es.filter fun e => !seen.contains e.b).filter fun e => decide (e.b < since)).isEmpty := by
      have hl := f_old.length
      rw [← holdl] at hl
      cases hq : (es.filter fun e => !seen.contains e.b).filter fun e => decide (e.b < since) with
      | nil => rw [hq] at hl; simp at hl; subst hl; rfl
      | cons p ps => rw [hq] at hl
                     have : old.size ≠ 0 := by simp at hl; omega
                     simp [Array.isEmpty, this]
    rw [hoe]
    split
    · exact .cons (.inl ⟨rfl, rfl⟩) .nil
    · exact .nil
  have hpos : 0 < cand.size := by
    have := f_cand.length
    have h2 := B86 since seen es
    cases hq : candD since seen es with
    | nil => exact absurd hq h2
    | cons p ps => rw [hq] at this; simp at this; omega
  -- the tape's word
  obtain ⟨k, w1, hk, hchoose, hw1⟩ : ∃ k w1, k < cand.size ∧ (choose (.mapNext cand.size)).run C.P w = .ok k w1 ∧ (w1 = w ∨ w1 = w.drew) := by
    by_cases hf : (Question.mapNext cand.size).forced = true
    · exact ⟨0, w, hpos, by simp [choose, Sem.run, hf], .inl rfl⟩
    · refine ⟨(Question.mapNext cand.size).cut (w.tape w.drawn (.mapNext cand.size)), w.drew, ?_, ?_, .inr rfl⟩
      · exact Nat.mod_lt _ hpos
      · simp only [choose, Sem.run]
        rw [if_neg hf]
        rfl
  obtain ⟨hs1, hrel1⟩ : HoldsB C U s β a w1 ∧ ∀ x d, WV C U (s.vw C) β w x d → WV C U (s.vw C) β w1 x d := by
    rcases hw1 with rfl | rfl
    · exact ⟨hs, fun _ _ h => h⟩
    · exact hs.drawn
  have hheap : w1.heap = w.heap := by rcases hw1 with rfl | rfl <;> rfl
  have hck : cand.toList[k]? = some cand[k] := by simp [hk]
  obtain ⟨c, hc, hcr⟩ := f_cand.get hck
  refine ⟨c, List.mem_of_getElem? hc, ?_⟩
  have hnext : ∀ (r : Value) (w2 : World), ((match cand[k]? with
      | some (some e) => (do
        setObj b (.mapIter (some bm) since (seen.toArray.push e.born) ck)
        pure (.tuple #[.bool true, e.key, e.val]) : Sem Value)
      | some none => pure (.tuple #[.bool false])
      | none => stuck "Next: no such candidate").run C.P w1 = .ok r w2) → (execOp a.eval o).run C.P w = .ok (.value r) w2 := by
    intro r w2 h
    have hin : (Instr.next (.pointer (some ⟨b, 0, none⟩)) false o.type).run C.P w = .ok r w2 := by
      simp only [Instr.next, Sem.run_bind, hgi, Result.andThen_ok, hgm]
      simp only [hgone', Bool.false_eq_true, if_false]
      rw [← hold, ← hnew, ← hcand]
      simp only [Sem.run_bind, hchoose, Result.andThen_ok]
      exact h
    simp [execOp, ho, hxe, hin]
  have hck2 : cand[k]? = some cand[k] := by simp [hk]
  rcases hcr with ⟨h1, rfl⟩ | ⟨e', p', h1, rfl, hek, heb, hev⟩
  · refine ⟨_, w1, β, .tuple #[.bool false], hnext _ w1 (by rw [hck2, h1]; rfl), .inl rfl, hs1, ?_⟩
    exact A70
  · have hit1 : w1.heap[b]? = some (.mapIter (some bm) since seen.toArray last) := by rw [hheap]; exact hit
    have hblt : b < w1.heap.size := (Array.getElem?_eq_some_iff.1 hit1).1
    have hset : ∀ o', (setObj b o').run C.P w1 = .ok () { w1 with heap := w1.heap.setIfInBounds b o' } := fun o' => by simp [setObj, Sem.run, hit1]
    have hw := hs1.wrote nid id b (.miter (.mp im) since (seen ++ [p'.b]) ck) (w' := { w1 with heap := w1.heap.setIfInBounds b (.mapIter (some bm) since (seen.toArray.push e'.born) ck) }) hb (by rw [hid]; rfl)
      (fun k hk => by simp [Array.getElem?_setIfInBounds_ne (Ne.symm hk)]) (by simp) rfl rfl rfl (fun c T hc => by rw [hit1] at hc; cases hc)
      (fun hrel' => ⟨b, some bm, hb, by simp [hblt, heb], hrel' _ _ (hrel1 _ _ hmv)⟩)
    refine ⟨_, _, β, .tuple #[.bool true, e'.key, e'.val], hnext _ { w1 with heap := w1.heap.setIfInBounds b (.mapIter (some bm) since (seen.toArray.push e'.born) ck) } ?_, .inl rfl, hw.1, ?_⟩
    · rw [hck2, h1]
      simp only [Sem.run_bind, hset, Result.andThen_ok, Sem.run_pure]
    · rw [hek]
      exact B85 (hw.2 _ _ (hrel1 _ _ hev))
theorem B87 {x : Operand} {id since last : Nat} {seen : List Nat} (ho : o.op = .next x false) (hs : HoldsB C U s β a w) (hx : s.ev x = .pt id 0) (hid : s.ho id = some (.miter (.v (.map none)) since seen last)) : OpOk C U a w o (.tup [.v (.bool false)]) s := by
  have h1 := hs.ev x
  rw [hx] at h1
  obtain ⟨b, hxe, hb⟩ := Ah7 h1
  obtain ⟨b', mv, hb', hit, hmv⟩ := hs.hh.hp id _ (Ad2 hid)
  rw [hb] at hb'; cases hb'
  have e1 := rel_v (hmv.2.1 (fun i hi => by simp [DV.refs] at hi))
  cases e1
  have hgi : (getObj b).run C.P w = .ok (.mapIter none since seen.toArray last) w := by simp [getObj, Sem.run, hit]
  exact .same hs (x := .tuple #[.bool false]) (by simp [execOp, ho, hxe, Instr.next, hgi, Result.andThen]) A70
theorem F2.find {α β : Type} {R : α → β → Prop} {f : α → Bool} {g : β → Bool} (hfg : ∀ a b, R a b → f a = g b) {l : List α} {m : List β} (h : F2 R l m) : ∀ {b : β}, m.find? g = some b → ∃ a, l.find? f = some a ∧ R a b := by
  induction h with
  | nil => intro b hb; simp at hb
  | cons h _ ih =>
    intro b hb
    rw [List.find?_cons] at hb ⊢
    rw [hfg _ _ h]
    split at hb
    · cases hb; exact ⟨_, rfl, h⟩
    · exact ih hb
theorem B88 {V : Nat → Option DObj} {k x : Value} {v : DV} (h : WV C U V β w x v) : WV C U V β w (.tuple #[k, x]) (.tup [ofV k, v]) := by
  refine ⟨fun id hi => ?_, fun ha => .tup [k, x] _ rfl fun j u d hu hd => ?_, TP.of_wv (C := C) (U := U) (V := V) (β := β) (w := w) (us := [k, x]) rfl fun j u d hu hd => ?_⟩
  · simp [DV.refs, DV.refsL, Aj5] at hi; exact h.1 id hi
  · match j with
    | 0 => simp at hu hd; subst hu hd; exact Ay3 _
    | 1 => simp at hu hd; subst hu hd; exact h.2.1 fun id hi => ha id (by simp [DV.refs, DV.refsL, Aj5, hi])
    | j + 2 => simp at hu
  · match j with
    | 0 => simp at hu hd; subst hu hd; exact B05 _
    | 1 => simp at hu hd; subst hu hd; exact h
    | j + 2 => simp at hu
theorem Cg6 {x : Operand} {l : List (DV × Upd)} (ho : o.op = .entry x) (hs : HoldsB C U s β a w) (h : entL s x = some l) : ∃ p ∈ l, OpOk C U a w o p.1 (s.upd nid p.2) := by
  unfold entL at h
  split at h
  rotate_left
  · cases h
  rename_i id hx
  split at h
  rotate_left
  · cases h
  rename_i im since seen last hid
  split at h
  rotate_left
  · cases h
  rename_i ck es him
  split at h
  rotate_left
  · cases h
  rename_i hck
  subst hck
  split at h
  rotate_left
  · cases h
  rename_i st hst
  split at h
  rotate_left
  · cases h
  rename_i e he
  cases h
  have h1 := hs.ev x
  rw [hx] at h1
  obtain ⟨b, hxe, hb⟩ := Ah7 h1
  obtain ⟨b', mv, hb', hit, hmv⟩ := hs.hh.hp id _ (Ad2 hid)
  rw [hb] at hb'; cases hb'
  have hmr := hmv.2.1 (fun i hi => by simp [DV.refs] at hi; subst hi; rw [Ad2 him]; rfl)
  obtain ⟨bm, e1, hbm⟩ := Am6 hmr
  cases e1
  obtain ⟨ms, hm, hsz, hrel⟩ := hs.mapo hbm him
  have hf2 : F2 (fun (e : MapEntry) (p : ME) => e.key = p.k ∧ e.born = p.b ∧ WV C U (s.vw C) β w e.val p.v) ms.toList es := F2.of (by simpa using hsz) fun j e p he hp => hrel j e p (by simpa using he) hp
  have hgi : (getObj b).run C.P w = .ok (.mapIter (some bm) since seen.toArray ck) w := by simp [getObj, Sem.run, hit]
  have hgm : (getObj bm).run C.P w = .ok (.map ms ck) w := MapKept.run_getObj_map hm
  obtain ⟨e0, hf, hk, hbn, hv⟩ := hf2.find (f := fun (e : MapEntry) => e.born == st) (g := fun (e : ME) => e.b == st) (fun a b hr => by rw [hr.2.1]) he
  have hf' : ms.find? (fun e => e.born == st) = some e0 := by
    obtain ⟨l⟩ := ms
    simpa using hf
  have hbk : seen.toArray.back? = some st := by rw [List.back?_toArray]; exact hst
  refine ⟨_, List.mem_singleton.2 rfl, .same (x := .tuple #[e0.key, e0.val]) hs ?_ ?_⟩
  · simp [execOp, ho, hxe, Instr.entry, hgi, hbk, hgm, hf', Result.andThen]
  · rw [hk]; exact B88 hv
theorem Cg7 {k : Bool} {x : Operand} {l : List (DV × Upd)} (ho : o.op = if k then .entry x else .next x false) (hs : HoldsB C U s β a w) (h : nxmL s k x = some l) : ∃ p ∈ l, OpOk C U a w o p.1 (s.upd nid p.2) := by
  unfold nxmL at h
  cases k with
  | true => exact Cg6 ho hs h
  | false =>
    simp only [Bool.false_eq_true, if_false] at h ho
    split at h
    · rename_i id hx
      split at h
      · rename_i hid
        cases h
        exact ⟨_, List.mem_singleton.2 rfl, B87 ho hs hx hid⟩
      · rename_i im since seen last hid
        split at h
        · rename_i ck es him
          split at h
          · cases h
          · rename_i hg
            cases h
            obtain ⟨c, hc, hok⟩ := Cg5 (nid := nid) ho hs hx hid him (by simpa using hg)
            exact ⟨_, List.mem_map.2 ⟨c, hc, rfl⟩, hok⟩
        · cases h
      · cases h
    · cases h
theorem Cg8 {t : TypeId} {x : Operand} {b : ByteArray} (ho : o.op = .range t x) (ht : C.P.underlying t = some .string) (hs : HoldsB C U s β a w) (hn : ¬ U nid) (hx : s.ev x = .v (.string b)) : OpOk C (Un U nid) a w o (.pt nid 0) (s.upd nid (.lay (.siter b 0))) := by
  have hxe : a.eval x = .string b := by have := hs.ev x; rw [hx] at this; exact rel_v this
  have hbl := Ae5 w (.stringIter b 0)
  have hf := (hs.turned (β' := upd β nid (some w.heap.size)) (w' := w.alloc (.stringIter b 0)) hn none (fun _ h => by cases h) (.siter b 0) (fun b hb _ => hbl.block b hb) hbl.os hbl.tape hbl.output hbl.size (fun j hj _ => Ac3 β _ hj) (fun _ h => by cases h)
    (fun b hb => by rw [upd_same] at hb; cases hb; exact ⟨.inr (Nat.le_refl _), by simp⟩) (fun hrel => ⟨_, upd_same _ _ _, heap_alloc_new w _⟩)).1
  refine ⟨.value (.pointer (some ⟨w.heap.size, 0, none⟩)), _, _, _, ?_, .inl rfl, hf, Aq6 (.pt nid 0 _ (by simp)) rfl⟩
  simp [execOp, ho, hxe, Instr.range, run_underlying ht]
theorem Bu5 {V : Nat → Option DObj} (x y z : Value) : WV C U V β w (.tuple #[x, y, z]) (.tup [.v x, .v y, .v z]) :=
  WV.flat (.tup [x, y, z] _ rfl fun j u d hu hd => by
    match j with
    | 0 => simp at hu hd; subst hu hd; exact .imm _ _ (.v _)
    | 1 => simp at hu hd; subst hu hd; exact .imm _ _ (.v _)
    | 2 => simp at hu hd; subst hu hd; exact .imm _ _ (.v _)
    | j + 3 => simp at hu) rfl
theorem B06 {x : Operand} {id pos : Nat} {t : ByteArray} (ho : o.op = .next x true) (hs : HoldsB C U s β a w) (hx : s.ev x = .pt id 0) (hid : s.ho id = some (.siter t pos)) :
    (pos < t.size → OpOk C U a w o (.tup [.v (.bool true), .v (.int .i64 (pos : Nat)), .v (.int .i32 ((Utf8.decode t pos).1 : Nat))]) (s.upd nid (.wr id (.siter t (pos + (Utf8.decode t pos).2))))) ∧
    (¬ pos < t.size → OpOk C U a w o (.tup [.v (.bool false)]) s) := by
  have h1 := hs.ev x
  rw [hx] at h1
  obtain ⟨b, hxe, hb⟩ := Ah7 h1
  obtain ⟨b', hb', hit⟩ := hs.hh.hp id _ (Ad2 hid)
  rw [hb] at hb'; cases hb'
  have hgi : (getObj b).run C.P w = .ok (.stringIter t pos) w := by simp [getObj, Sem.run, hit]
  have hset : ∀ o', (setObj b o').run C.P w = .ok () { w with heap := w.heap.setIfInBounds b o' } := fun o' => by simp [setObj, Sem.run, hit]
  have hblt : b < w.heap.size := (Array.getElem?_eq_some_iff.1 hit).1
  refine ⟨fun hp => ?_, fun hp => ?_⟩
  · have hw := hs.wrote nid id b (.siter t (pos + (Utf8.decode t pos).2)) (w' := { w with heap := w.heap.setIfInBounds b (.stringIter t (pos + (Utf8.decode t pos).2)) }) hb (by rw [hid]; rfl)
      (fun k hk => by simp [Array.getElem?_setIfInBounds_ne (Ne.symm hk)]) (by simp) rfl rfl rfl (fun c T hc => by rw [hit] at hc; cases hc)
      (fun hrel' => ⟨b, hb, by simp [hblt]⟩)
    refine ⟨.value (.tuple #[.bool true, .int .i64 (pos : Nat), .int .i32 ((Utf8.decode t pos).1 : Nat)]), _, β, _, ?_, .inl rfl, hw.1, Bu5 _ _ _⟩
    simp [execOp, ho, hxe, Instr.next, hgi, hp, hset, goInt, Result.andThen]
  · exact .same hs (x := .tuple #[.bool false]) (by simp [execOp, ho, hxe, Instr.next, hgi, hp, Result.andThen]) A70
theorem Cg9 {t : TypeId} {x : Operand} {td : TypeDesc} (ho : o.op = .makeInterface t x) (ht : C.P.underlying t = some td) (hni : ∀ ms, td ≠ .interface ms) (hs : HoldsB C U s β a w) : OpOk C U a w o (.ifc t (s.ev x)) s := by
  have h1 := hs.evw x
  refine .same hs (x := .iface t (a.eval x)) ?_ ⟨fun id hi => h1.1 id (by simpa [DV.refs] using hi), fun ha => .ifc t _ _ (h1.2.1 fun id hi => ha id (by simpa [DV.refs] using hi)), TP.nt fun _ h => by cases h⟩
  have : (Instr.makeInterface t (a.eval x)).run C.P w = .ok (.iface t (a.eval x)) w := by
    unfold Instr.makeInterface
    simp only [Sem.run_bind, run_underlying ht, Result.andThen_ok]
    cases td <;> first | rfl | (exact absurd rfl (hni _))
  simp [execOp, ho, this]
theorem Ch0 {xt t : TypeId} {x : Operand} {td : TypeDesc} {z : Value} {ok : Bool} (ho : o.op = .typeAssert x xt t ok) (ht : C.P.underlying t = some td) (hni : ∀ ms, td ≠ .interface ms) (hz : (C.P.info? t).bind (·.zero) = some z) (hs : HoldsB C U s β a w) :
    (∀ d, s.ev x = .ifc t d → OpOk C U a w o (lkRes ok d true) s) ∧ (ok = true → (∀ T d, T ≠ t → s.ev x = .ifc T d → OpOk C U a w o (.tup [.v z, .v (.bool false)]) s) ∧ (s.ev x = .v .nilIface → OpOk C U a w o (.tup [.v z, .v (.bool false)]) s)) := by
  have h1 := hs.ev x
  have hzero := Ay7 hz w
  refine ⟨fun d hx => ?_, fun hok => ⟨fun T d hT hx => ?_, fun hx => ?_⟩⟩
  · rw [hx] at h1
    obtain ⟨u, e1, hr⟩ := Ak8 h1
    refine .same hs (x := if ok then .tuple #[u, .bool true] else u) ?_ (Ao2 (hs.evp x hr (by rw [hx]; simp [DV.refs])))
    have : (Instr.typeAssert (.iface t u) xt t ok).run C.P w = .ok (if ok then .tuple #[u, .bool true] else u) w := by
      unfold Instr.typeAssert
      simp only [Sem.run_bind, run_underlying ht, Result.andThen_ok]
      cases td <;> first | (simp; done) | (exact absurd rfl (hni _))
    simp [execOp, ho, e1, this]
  · subst hok
    rw [hx] at h1
    obtain ⟨u, e1, hr⟩ := Ak8 h1
    refine .same hs (x := .tuple #[z, .bool false]) ?_ (A94 (WV.v z))
    have : (Instr.typeAssert (.iface T u) xt t true).run C.P w = .ok (.tuple #[z, .bool false]) w := by
      unfold Instr.typeAssert
      simp only [Sem.run_bind, run_underlying ht, Result.andThen_ok]
      cases td <;> first | (simp [hT, hzero]; done) | (exact absurd rfl (hni _))
    simp [execOp, ho, e1, this]
  · subst hok
    rw [hx] at h1
    have e1 := rel_v h1
    refine .same hs (x := .tuple #[z, .bool false]) ?_ (A94 (WV.v z))
    have : (Instr.typeAssert .nilIface xt t true).run C.P w = .ok (.tuple #[z, .bool false]) w := by
      unfold Instr.typeAssert
      simp only [Sem.run_bind, run_underlying ht, Result.andThen_ok]
      cases td <;> first | (simp [hzero]; done) | (exact absurd rfl (hni _))
    simp [execOp, ho, e1, this]
theorem Ch1 {ar e : TypeId} {x : Operand} {n id : Nat} {cs : List DV} (ho : o.op = .slice ar x none none none) (har : C.P.underlying ar = some (.array n e)) (hce : 0 < C.P.cellsOf e) (hn0 : 0 < n) (hnb : n ≤ 2147483648)
    (hs : HoldsB C U s β a w) (hx : s.ev x = .pt id 0) (hid : s.ho id = some (.row ar cs)) (hl : cs.length = n * C.P.cellsOf e) : OpOk C U a w o (.ms id 0 n (C.P.cellsOf e)) s := by
  have h1 := hs.ev x
  rw [hx] at h1
  obtain ⟨b, hxe, hb⟩ := Ah7 h1
  obtain ⟨c, hw, hlc, hex, hr⟩ := hs.row hb hid
  have hsz := hex (by simp [isArr, har])
  refine .same hs (x := .slice (some ⟨b, 0, none⟩) n n) ?_ (hs.evp x (.ms id 0 n (C.P.cellsOf e) b n c ar hb hw (Nat.le_refl _) (by simp only [maxLen]; omega) (by omega)) (by rw [hx]; simp [DV.refs]))
  have hso := Ab4 (P := C.P) (t := e) (by omega) w
  have hne : ¬ n = 0 := by omega
  simp [execOp, ho, hxe, Instr.sliceAt, run_underlying har, Instr.sureAddr, Instr.sliceBounds, hso, Addr.add]
theorem Bk7 {es m : Nat} {x : Operand} {news : List DV} (hs : HoldsB C U s β a w) (h : srcC s es (s.ev x) = some (news, m)) (hnl : news.length = m * es) :
    ∃ us : List Value, us.length = news.length ∧ (∀ u ∈ us, u.oneCell' = true) ∧ (∀ (j : Nat) (u : Value) (d : DV), us[j]? = some u → news[j]? = some d → WV C U (s.vw C) β w u d) ∧
      ((∃ ad cap, a.eval x = .slice (some ad) m cap ∧ ∀ (j : Nat) (u : Value), us[j]? = some u → w.cell? (ad.add j) = some u) ∨ (∃ cap, a.eval x = .slice none 0 cap ∧ m = 0 ∧ us = [])) := by
  have h1 := hs.ev x
  unfold srcC at h
  split at h
  · rename_i cs n hx
    cases h
    rw [hx] at h1
    rcases At3 h1 with ⟨ad, cap, e1, rfl, rfl⟩ | ⟨ad, cap, us, e1, hl, hn, ha, h1c, hc, hr⟩
    · refine ⟨[], rfl, by simp, by simp, ?_⟩
      cases ad with
      | none => exact .inr ⟨cap, e1, rfl, rfl⟩
      | some ad => exact .inl ⟨ad, cap, e1, by simp⟩
    · exact ⟨us, hl, h1c, fun j u d hu hd => Al0 (hr j u d hu hd), .inl ⟨ad, cap, e1, hc⟩⟩
  · rename_i cap hx
    cases h
    rw [hx] at h1
    exact ⟨[], rfl, by simp, by simp, .inr ⟨cap, rel_v h1, rfl, rfl⟩⟩
  · rename_i id off n es' hx
    rw [hx] at h1
    split at h
    · rename_i T' cs hrow
      split at h
      · rename_i hfit
        obtain ⟨rfl, hfit⟩ := hfit
        cases h
        rcases Ak9 h1 with ⟨e1, rfl, rfl⟩ | ⟨b, cap, c, T, e1, hb, hw, hn, hm, hcap⟩
        · exact ⟨[], by simp, by simp, by simp, .inr ⟨0, e1, rfl, rfl⟩⟩
        · obtain ⟨c', hw', hl, _, hr⟩ := hs.row hb hrow
          rw [hw] at hw'
          injection hw' with hw'
          injection hw' with hcc hT
          subst hT hcc
          refine ⟨(c.toList.drop off).take (m * es'), by simp; omega, fun u hu => ?_, fun j u d hu hd => ?_, .inl ⟨_, cap, e1, fun j u hu => ?_⟩⟩
          · obtain ⟨j, hj, rfl⟩ := List.mem_iff_getElem.1 hu
            have hjl : off + j < cs.length := by simp at hj; omega
            refine (hr (off + j) _ cs[off + j] ?_ (List.getElem?_eq_getElem hjl)).2
            rw [List.getElem_take, List.getElem_drop]
            simp
          · rw [List.getElem?_take] at hu hd
            split at hu
            · rename_i hj
              rw [if_pos hj] at hd
              exact (hr (off + j) u d (by simpa using hu) (by simpa using hd)).1
            · cases hu
          · rw [List.getElem?_take] at hu
            split at hu
            · exact Am1 hw j u hu
            · cases hu
      · cases h
    · cases h
  · cases h
theorem HoldsB.rowSet {T : TypeId} {id b off : Nat} {cs gd : List DV} {g : List Value} {c : Array Value} (hs : HoldsB C U s β a w) (hb : β id = some b) (hid : s.ho id = some (.row T cs)) (hw : w.heap[b]? = some (.cells c T (0, 0)))
    (hgl : g.length = gd.length) (g1 : ∀ u ∈ g, u.oneCell' = true) (gr : ∀ (j : Nat) (u : Value) (d : DV), g[j]? = some u → gd[j]? = some d → WV C U (s.vw C) β w u d) (hfit : off + gd.length ≤ cs.length) :
    HoldsB C U (s.upd nid (.wr id (.row T (cs.take off ++ gd ++ cs.drop (off + gd.length))))) β a (w.setRow b (c.toList.take off ++ g ++ c.toList.drop (off + g.length)).toArray) := by
  obtain ⟨c0, hw0, hl, hex, hr⟩ := hs.row hb hid
  rw [hw] at hw0
  injection hw0 with hw0
  injection hw0 with hcc
  subst hcc
  refine (hs.wrote nid id b _ hb (by rw [hid]; rfl) (fun b' hb' => setRow_other w b b' _ hb') (by simp) rfl rfl rfl ?_ fun hrel => ?_).1
  · intro c' T' hc'
    rw [hw] at hc'
    cases hc'
    refine ⟨_, setRow_heap w b c _ T _ hw, ?_⟩
    simp; omega
  · refine .inr ⟨b, _, hb, setRow_heap w b c _ T _ hw, by simp; omega, fun h => (by have := hex h; simp; omega), fun j u d hu hd => ?_⟩
    have hu' : (c.toList.take off ++ g ++ c.toList.drop (off + gd.length))[j]? = some u := by rw [← hgl]; simpa using hu
    rw [List.append_assoc, List.getElem?_append] at hu' hd
    simp only [List.length_take, Array.length_toList] at hu' hd
    rw [show min off c.size = off by omega] at hu'
    rw [show min off cs.length = off by omega] at hd
    by_cases hj : j < off
    · rw [if_pos hj] at hu' hd
      rw [List.getElem?_take_of_lt hj] at hu' hd
      have := hr j u d (by simpa using hu') hd
      exact ⟨hrel _ _ this.1, this.2⟩
    · rw [if_neg hj] at hu' hd
      rw [List.getElem?_append] at hu' hd
      rw [hgl] at hu'
      by_cases hj2 : j - off < gd.length
      · rw [if_pos hj2] at hu' hd
        exact ⟨hrel _ _ (gr _ u d hu' hd), g1 u (List.mem_of_getElem? hu')⟩
      · rw [if_neg hj2] at hu' hd
        rw [List.getElem?_drop] at hu' hd
        have := hr _ u d (by simpa using hu') hd
        exact ⟨hrel _ _ this.1, this.2⟩
theorem Ch2 {t T e : TypeId} {c : Call} {x y : Operand} {id off n m es : Nat} {cs news : List DV} (ho : o.op = .call c) (hc : c.callee = .builtin .copy) (hargs : c.args.toList = [x, y]) (hty : c.argTypes[0]? = some t) (ht : C.P.underlying t = some (.slice e))
    (hes : es = C.P.cellsOf e) (hce : 0 < C.P.cellsOf e) (hs : HoldsB C U s β a w) (hx : s.ev x = .ms id off n es) (hid : s.ho id = some (.row T cs)) (hy : srcC s es (s.ev y) = some (news, m)) (hn0 : 0 < n) (hfit : off + n * es ≤ cs.length) (hnl : news.length = m * es) :
    OpOk C U a w o (.v (.int .i64 (min m n : Nat))) (s.upd nid (.wr id (.row T (cs.take off ++ news.take (min m n * es) ++ cs.drop (off + min m n * es))))) := by
  have hA : c.args = #[x, y] := by apply Array.ext'; simpa using hargs
  have h1 := hs.ev x
  rw [hx] at h1
  obtain ⟨us, ul, u1, ur, usrc⟩ := Bk7 hs hy hnl
  rcases Ak9 h1 with ⟨_, _, h0⟩ | ⟨b, cap, cc, T', e1, hb, hw, hn, hm, hcap⟩
  · omega
  obtain ⟨c0, hw0, hl, hex, hr⟩ := hs.row hb hid
  rw [hw] at hw0
  injection hw0 with hw0
  injection hw0 with hcc hTT
  subst hcc hTT
  have hso : (sizeOf e).run C.P w = .ok es w := by rw [hes]; exact Ab4 (by omega) w
  have hmn : min m n * es ≤ m * es := Nat.mul_le_mul_right _ (Nat.min_le_left _ _)
  have hmn2 : min m n * es ≤ n * es := Nat.mul_le_mul_right _ (Nat.min_le_right _ _)
  have htl : (us.take (min m n * es)).length = min m n * es := by simp; omega
  have htd : (news.take (min m n * es)).length = min m n * es := by simp; omega
  have hst := run_storeCells_at C.P b off T' (us.take (min m n * es)) 0 cc w hw (by rw [htl]; omega) (fun u hu => u1 u (List.mem_of_mem_take hu))
  simp only [Nat.add_zero] at hst
  have hfirst : (Builtin.firstCells es (min m n) (a.eval y)).run C.P w = .ok (us.take (min m n * es)).toArray w := by
    rcases usrc with ⟨ad, cap', e2, hcell⟩ | ⟨cap', e2, rfl, rfl⟩
    · rw [e2]
      have := run_loadCells_list (P := C.P) w ad (us.take (min m n * es)) (fun j v hv => hcell j v (by
        rw [List.getElem?_take] at hv
        split at hv
        · exact hv
        · cases hv))
      rw [htl] at this
      exact this
    · rw [e2]; simp [Builtin.firstCells]
  have hlen : (Builtin.lenOf (a.eval y)).run C.P w = .ok m w := by
    rcases usrc with ⟨ad, cap', e2, _⟩ | ⟨cap', e2, rfl, _⟩ <;> rw [e2] <;> rfl
  have hwr := hs.rowSet (nid := nid) (off := off) (g := us.take (min m n * es)) (gd := news.take (min m n * es)) hb hid hw (by rw [htl, htd]) (fun u hu => u1 u (List.mem_of_mem_take hu))
    (fun j u d hu hd => by
      rw [List.getElem?_take] at hu hd
      split at hu
      · rename_i hj
        rw [if_pos hj] at hd
        exact ur j u d hu hd
      · cases hu) (by rw [htd]; omega)
  rw [htd, htl] at hwr
  rw [htl] at hst
  refine ⟨.value (.int .i64 (min m n : Nat)), _, β, _, ?_, .inl rfl, hwr, WV.v _⟩
  have hmin : Nat.min m n = min m n := rfl
  simp [execOp, ho, resolve, hc, hA, invoke, builtin, Builtin.copy_, hty, e1, run_underlying ht, hlen, hso, hmin, hfirst, hst, goInt, Result.andThen]
theorem Ch3 {t t' e : TypeId} {x : Operand} {news : List DV} {m : Nat} {ns : List Int} (ho : o.op = .convert t t' x) (hs1 : C.P.underlying t = some (.slice e)) (he : C.P.underlying e = some (.int .u8)) (hd : C.P.underlying t' = some .string)
    (hs : HoldsB C U s β a w) (h : srcC s 1 (s.ev x) = some (news, m)) (hl : news.length = m) (hn : numsV news = some ns) : OpOk C U a w o (.v (.string (strOfNums ns))) s := by
  obtain ⟨us, hul, huo, hur, hcase⟩ := Bk7 hs h (by omega)
  obtain ⟨hnl, hng⟩ := At1 hn
  have hus : us = ns.map (Value.int .u8) := by
    apply List.ext_getElem?
    intro j
    rw [List.getElem?_map]
    by_cases hj : j < us.length
    · have h1 := List.getElem?_eq_getElem hj
      have h2 := List.getElem?_eq_getElem (l := news) (i := j) (by omega)
      obtain ⟨n, h3, h4⟩ := hng j _ h2
      have h5 := hur j _ _ h1 h2
      rw [h4] at h5
      rw [h1, h3, h5.v_eq]
      rfl
    · rw [List.getElem?_eq_none (by omega), List.getElem?_eq_none (by omega)]
      rfl
  refine .same hs (x := .string (strOfNums ns)) ?_ (WV.v _)
  rcases hcase with ⟨ad, cap, e1, hc⟩ | ⟨cap, e1, rfl, rfl⟩
  · have hlc := run_loadCells_list (P := C.P) w ad us hc
    have hum : us.length = m := by omega
    rw [hum, hus] at hlc
    have hb := run_bytesToString (P := C.P) w ad m cap ns hlc
    rw [foldl_push_bytes] at hb
    have e2 : (⟨ByteArray.empty.data ++ (ns.map fun n => UInt8.ofNat n.toNat).toArray⟩ : ByteArray) = strOfNums ns := by
      simp [strOfNums, ByteArray.empty, ByteArray.emptyWithCapacity]
      rfl
    rw [e2] at hb
    simp only [execOp, ho, e1, Sem.run_bind, run_convert_bytes_string w t t' e (some ad) m cap hs1 he hd, hb, Result.andThen_ok, Sem.run_pure]
  · have hns : ns = [] := List.eq_nil_of_length_eq_zero (by rw [hnl, hl])
    subst hns
    have hb := run_convert_bytes_nil (P := C.P) w t e hs1 he 0 cap t' hd
    have e2 : ByteArray.empty = strOfNums [] := rfl
    rw [e2] at hb
    simp only [execOp, ho, e1, Sem.run_bind, hb, Result.andThen_ok, Sem.run_pure]
theorem A71 {w : World} {b k : Nat} {c : Array Value} {T : TypeId} (h : w.heap[b]? = some (.cells c T (0, 0))) :
    (w.freeze ⟨b, k, none⟩ 1).heap[b]? = some (.cells c T (k, k + 1)) ∧ (∀ i, i ≠ b → (w.freeze ⟨b, k, none⟩ 1).heap[i]? = w.heap[i]?) ∧ (w.freeze ⟨b, k, none⟩ 1).heap.size = w.heap.size := by
  unfold World.freeze
  rw [if_neg (by decide)]
  refine ⟨?_, fun i hi => ?_, by simp⟩
  · simp [Array.getElem?_modify, h]
  · simp only [Array.getElem?_modify]
    rw [if_neg (fun e => hi e.symm)]
theorem Ch4 {t e T : TypeId} {x : Operand} {id n : Nat} {cs : List DV} {ns : List Int} (ho : o.op = .convert t t x) (ht : C.P.underlying t = some (.slice e)) (he : C.P.underlying e = some (.int .u8))
    (hs : HoldsB C U s β a w) (hn : ¬ U nid) (hx : s.ev x = .ms id 0 n 1) (hid : s.ho id = some (.row T cs)) (h0 : 0 < n) (hl : cs.length = n) (hns : numsV cs = some ns) : OpOk C (Un U nid) a w o (.sl cs n) (s.upd nid (.mv (some id) (.row T []))) := by
  have h1 := hs.ev x
  rw [hx] at h1
  rcases Ak9 h1 with ⟨_, _, hz⟩ | ⟨b, cap, c, T', e1, hb, hw, hnc, hm, hcap⟩
  · omega
  · obtain ⟨c', hw', hlc, _, hr⟩ := hs.row hb hid
    rw [hw] at hw'
    cases hw'
    have hblt : b < w.heap.size := hs.hh.lt hb
    obtain ⟨f1, f2, f3⟩ := A71 (k := c.size) hw
    obtain ⟨w', hw'⟩ : ∃ w', w.freeze ⟨b, c.size, none⟩ 1 = w' := ⟨_, rfl⟩
    rw [hw'] at f1 f2 f3
    have hos : w'.os = w.os ∧ w'.tape = w.tape ∧ w'.output = w.output := by
      rw [← hw']; unfold World.freeze; rw [if_neg (by decide)]; exact ⟨rfl, rfl, rfl⟩
    have hidn : id ≠ nid := fun h => hn (h ▸ hs.hh.used (Ae2 (by rw [hid]; rfl)))
    have htn := hs.turned (β' := upd (upd β id none) nid none) (w' := w') hn (some id) (fun i hi => by cases hi; rw [hid]; rfl) (.row T []) (fun k hk hne => f2 k fun h => hne id rfl (by rw [h]; exact hb))
      hos.1 hos.2.1 hos.2.2 (by omega) (fun j hj hjo => by rw [Ac3 _ _ hj, Ac3 _ _ (fun h => hjo (by rw [h]))]) (fun i hi => by cases hi; rw [Ac3 _ _ hidn, upd_same])
      (fun b' hb' => by rw [upd_same] at hb'; cases hb') (fun _ => .inl ⟨upd_same _ _ _, rfl⟩)
    obtain ⟨hnl, hng⟩ := At1 hns
    have hnob : ∀ j, upd (upd β id none) nid none j ≠ some b := fun j hj => by
      unfold upd at hj
      split at hj
      · cases hj
      · split at hj
        · cases hj
        · rename_i h2
          exact h2 (hs.hh.inj j id b hj hb)
    have hrun : (execOp a.eval o).run C.P w = .ok (.value (.slice (some ⟨b, 0, none⟩) n cap)) w' := by
      have hsh : w.shape? b = some (T, c.size) := by unfold World.shape?; rw [hw]
      simp [execOp, ho, e1, convert, run_underlying ht, run_underlying he, markStringish, hsh, hw']
    refine ⟨_, w', _, _, hrun, .inl rfl, htn.1, Al0 ?_⟩
    refine .sl ⟨b, 0, none⟩ n cap (c.toList.take n) cs (by simp; omega) hnc ⟨?_, by show b < w'.heap.size; omega, hnob⟩ (fun u hu => ?_) (fun j u hu => ?_) (fun j u d hu hd => ?_)
    · rcases (hs.hh.bge id b hb).1 with h | h
      · exact .inr (.inl h)
      · exact .inr (.inr h)
    · obtain ⟨j, hj, rfl⟩ := List.mem_iff_getElem.1 hu
      simp at hj
      have hjc : j < cs.length := by omega
      have := (hr j c[j] cs[j] (by simp) (List.getElem?_eq_getElem hjc)).2
      simpa using this
    · have hj := (List.getElem?_eq_some_iff.1 hu).1
      simp at hj
      rw [Addr.add_lit, cell_of_row w' _ _ _ _ _ f1]
      rw [List.getElem?_take_of_lt (by omega)] at hu
      simpa using hu
    · have hj := (List.getElem?_eq_some_iff.1 hu).1
      simp at hj
      rw [List.getElem?_take_of_lt (by omega)] at hu
      obtain ⟨m, _, rfl⟩ := hng j d hd
      have h5 := (hr j u _ (by simpa using hu) hd).1
      rw [h5.v_eq]
      exact .v _
end ops
end Go.DD

/- All operations that are no calls, in one. -/
namespace Go.DD
open Go.RowKit (Below)
theorem Ay8 {C : Ctx} {U : Nat → Prop} {s : DS} {β : Nat → Option Nat} {a : Act} {w : World} {o : Oper} {d : DV} {u : Upd} {nid : Nat} {op : DOp} (hs : HoldsB C U s β a w) (hn : ¬ U nid)
    (hc : Ah5 C.P o.op = some op) (he : execU nid s op = some (d, u)) : OpOk C (Ux U nid u) a w o d (s.upd nid u) := by
  have hmup : ∀ t x k y kd, o.op = .mapUpdate t x k y ∨ o.op = .insert t x k y → mapKd C.P t = some kd → op = .mup kd x k y → OpOk C (Ux U nid u) a w o d (s.upd nid u) := by
    rintro t x k y kd ho hkd rfl
    unfold mapKd at hkd
    split at hkd
    · rename_i kt et ht
      simp only [execU] at he
      split at he
      · rename_i kv hk
        split at he
        · rename_i hkey
          split at he
          · rename_i id hx
            split at he
            · rename_i ck es hid
              split at he
              · rename_i p hp; cases he; exact Cg3 ho ht hkd hs hk hkey hx hid (ck' := p.1) (es' := p.2) hp
              · cases he
            · cases he
          · cases he
        · cases he
      · cases he
    · cases hkd
  unfold Ah5 at hc
  split at hc
  case h_1 x ho => cases hc; simp [execU] at he; obtain ⟨rfl, rfl⟩ := he; exact ok_mv (.inl ho) hs
  case h_2 x ho => cases hc; simp [execU] at he; obtain ⟨rfl, rfl⟩ := he; exact ok_mv (.inr ho) hs
  case h_3 c x y ho =>
    cases hc
    simp only [execU] at he
    split at he
    · rename_i t ht; cases he; exact B81 ho hs ht
    · cases he
  case h_4 T ho =>
    obtain ⟨z, hz, rfl⟩ := Option.map_eq_some_iff.1 hc
    simp [execU] at he; obtain ⟨rfl, rfl⟩ := he
    exact ok_al ho hz hs hn
  case h_5 T x ho =>
    cases hc
    simp only [execU] at he
    split at he
    · rename_i hx; cases he; exact ok_bx ho hs hn hx
    · cases he
  case h_6 t ps ho =>
    split at hc
    · rename_i fs z ht hz
      split at hc
      · cases hc
      · rename_i hpos
        obtain ⟨l, hl, rfl⟩ := Option.map_eq_some_iff.1 hc
        simp only [execU] at he
        split at he
        · rename_i cs hf
          cases he
          exact Cf4 ho ht hz (by
            have h2 : (fs.toList.all fun f => C.P.cellsOf f.type != 0) = true := by simpa using hpos
            intro f hf'
            have := List.all_eq_true.1 h2 f hf'
            simpa using this) hl hs hf
        · cases he
    · cases hc
  case h_7 t n ps ho =>
    split at hc
    · rename_i e ht
      obtain ⟨z, hz, hc⟩ := Option.bind_eq_some_iff.1 hc
      split at hc
      · rename_i hn'
        cases hc
        simp only [execU] at he
        split at he
        · rename_i cs hf
          split at he
          · rename_i hzl
            cases he
            exact Cf5 hn'.1 ho ht hz hn'.2.1 hn'.2.2 hzl hs hn hf
          · cases he
        · cases he
      · cases hc
    · cases hc
  case h_8 t x ho =>
    obtain ⟨k, hk, rfl⟩ := Option.map_eq_some_iff.1 hc
    simp only [execU] at he
    split at he
    · rename_i cs hx
      obtain ⟨d', hp, he⟩ := Option.map_eq_some_iff.1 he
      cases he
      exact Bu0 ho hk hs hx hp
    · rename_i id off hx
      split at he
      · rename_i T cs hid
        obtain ⟨d', hp, he⟩ := Option.map_eq_some_iff.1 he
        cases he
        exact Bu1 ho hk hs hx hid hp
      · cases he
    · cases he
  case h_9 t x y ho =>
    obtain ⟨k, hk, rfl⟩ := Option.map_eq_some_iff.1 hc
    simp only [execU] at he
    split at he
    · rename_i id off hx
      split at he
      · rename_i T cs hid
        split at he
        · rename_i hcond
          cases he
          exact ok_st ho hk rfl hs hx hid hcond.1 hcond.2.1 hcond.2.2
        · cases he
      · cases he
    · cases he
  case h_10 x ho =>
    cases hc
    simp only [execU] at he
    have key : (d, u) = (s.ev x, Upd.keep) ∧ ((∃ cs, s.ev x = .ia cs) ∨ (∃ id off, s.ev x = .pt id off) ∨ (∃ f cs, s.ev x = .fn (.func f) cs) ∨ ∃ T d, s.ev x = .ifc T d) := by
      split at he
      · rename_i cs hx; cases he; exact ⟨by rw [hx], .inl ⟨_, hx⟩⟩
      · rename_i id off hx; cases he; exact ⟨by rw [hx], .inr (.inl ⟨_, _, hx⟩)⟩
      · rename_i f cs hx; cases he; exact ⟨by rw [hx], .inr (.inr (.inl ⟨_, _, hx⟩))⟩
      · rename_i T d hx; cases he; exact ⟨by rw [hx], .inr (.inr (.inr ⟨_, _, hx⟩))⟩
      · cases he
    obtain ⟨h1, h2⟩ := key
    cases h1
    exact Ce7 ho hs h2
  case h_11 op' t x y yt ho =>
    have hbin : op = .bin op' x y → OpOk C (Ux U nid u) a w o d (s.upd nid u) := by
      rintro rfl
      simp only [execU] at he
      obtain ⟨v, hv, he⟩ := Option.map_eq_some_iff.1 he
      cases he
      exact Ce3 ho hs hv
    have hnil : ∀ k neg, (op' = if neg then .neq else .eql) → nilT C.P k t → (k = 4 → isCst x = true ∨ isCst y = true) → op = .nilq k neg x y → OpOk C (Ux U nid u) a w o d (s.upd nid u) := by
      rintro k neg hop hnt hcst rfl
      simp only [execU] at he
      split at he
      · rename_i b hx hy
        cases he
        exact Bk0 hop ho hnt hcst hs hx hy (.inl rfl)
      · rename_i b hx hy hh
        cases he
        have := Bk0 (b := b) (c := true) hop ho hnt hcst hs hy hh (.inr rfl)
        cases b <;> exact this
      · cases he
    split at hc
    · cases hc; exact hbin rfl
    · cases hc; exact hbin rfl
    · rename_i ht
      have hbb : ∀ neg, (op' = if neg then .neq else .eql) → op = .bb neg x y → OpOk C (Ux U nid u) a w o d (s.upd nid u) := by
        rintro neg hop rfl
        simp only [execU] at he
        split at he
        · rename_i p q hx hy
          cases he
          exact ok_bb hop ho ht hs hx hy
        · cases he
      split at hc
      · cases hc; exact hbb false rfl rfl
      · cases hc; exact hbb true rfl rfl
      · cases hc
    · rename_i fs ht
      split at hc
      · rename_i hg
        have hst : ∀ neg ks, (op' = if neg then .neq else .eql) → Ak7 C.P 0 fs.toList = some ks → op = .eqs neg ks x y → OpOk C (Ux U nid u) a w o d (s.upd nid u) := by
          rintro neg ks hop hk rfl
          simp only [execU] at he
          split at he
          · rename_i xs ys hx hy
            obtain ⟨r, hr, he⟩ := Option.map_eq_some_iff.1 he
            cases he
            exact Ce4 hop ho ht hg.1 hg.2 hk hs hx hy hr
          · cases he
        split at hc
        · obtain ⟨ks, hk, rfl⟩ := Option.map_eq_some_iff.1 hc; exact hst false ks rfl hk rfl
        · obtain ⟨ks, hk, rfl⟩ := Option.map_eq_some_iff.1 hc; exact hst true ks rfl hk rfl
        · cases hc
      · cases hc
    · rename_i e ht
      split at hc
      · cases hc; exact hnil 0 false rfl ⟨e, ht⟩ (fun h => by cases h) rfl
      · cases hc; exact hnil 0 true rfl ⟨e, ht⟩ (fun h => by cases h) rfl
      · cases hc
    · rename_i e ht
      split at hc
      · cases hc; exact hnil 1 false rfl ⟨e, ht⟩ (fun h => by cases h) rfl
      · cases hc; exact hnil 1 true rfl ⟨e, ht⟩ (fun h => by cases h) rfl
      · cases hc
    · rename_i e f ht
      split at hc
      · cases hc; exact hnil 2 false rfl ⟨e, f, ht⟩ (fun h => by cases h) rfl
      · cases hc; exact hnil 2 true rfl ⟨e, f, ht⟩ (fun h => by cases h) rfl
      · cases hc
    · rename_i e f g ht
      split at hc
      · cases hc; exact hnil 3 false rfl ⟨e, f, g, ht⟩ (fun h => by cases h) rfl
      · cases hc; exact hnil 3 true rfl ⟨e, f, g, ht⟩ (fun h => by cases h) rfl
      · cases hc
    · rename_i e ht
      split at hc
      · rename_i hcst
        have hcst' : isCst x = true ∨ isCst y = true := by simpa using hcst
        split at hc
        · cases hc; exact hnil 4 false rfl ⟨e, ht⟩ (fun _ => hcst') rfl
        · cases hc; exact hnil 4 true rfl ⟨e, ht⟩ (fun _ => hcst') rfl
        · cases hc
      · cases hc
    · cases hc
  case h_12 op' t x ho =>
    cases hc
    simp only [execU] at he
    obtain ⟨v, hv, he⟩ := Option.map_eq_some_iff.1 he
    cases he
    exact ok_un ho hs hv
  case h_13 src dst x ho =>
    split at hc
    · rename_i k' k h1 h2
      cases hc
      simp only [execU] at he
      split at he
      · rename_i kk n hx; cases he; exact Ce5 ho h1 h2 hs hx
      · cases he
    · rename_i e h1 h2
      split at hc
      · rename_i h3
        cases hc
        simp only [execU] at he
        split at he
        · rename_i b hx; cases he; exact Ce8 ho h1 h2 h3 hs hx
        · cases he
      · cases hc
    · rename_i e h1 h2
      split at hc
      · rename_i h3
        cases hc
        simp only [execU] at he
        split at he
        · rename_i news m hsrc
          split at he
          · rename_i hlen
            obtain ⟨ns, hns, he⟩ := Option.map_eq_some_iff.1 he
            cases he
            exact Ch3 ho h1 h3 h2 hs hsrc hlen hns
          · cases he
        · cases he
      · cases hc
    · rename_i e e' h1 h2
      split at hc
      · rename_i heq
        subst heq
        split at hc
        · rename_i h3
          cases hc
          simp only [execU] at he
          split at he
          · rename_i id n hx
            split at he
            · rename_i T cs hid
              split at he
              · rename_i hfit
                cases he
                obtain ⟨ns, hns⟩ := Option.isSome_iff_exists.1 hfit.2.2
                exact Ch4 ho h1 h3 hs hn hx hid hfit.1 hfit.2.1 hns
              · cases he
            · cases he
          · cases he
        · cases hc
      · cases hc
    · cases hc
  case h_14 f first cap ho =>
    cases hc
    simp only [execU, Option.some.injEq, Prod.mk.injEq] at he; obtain ⟨rfl, rfl⟩ := he
    exact B01 ho hs
  case h_15 t l c ho =>
    split at hc
    · rename_i e ht
      split at hc
      rotate_left
      · cases hc
      rename_i hna
      obtain ⟨z, hz, rfl⟩ := Option.map_eq_some_iff.1 hc
      simp only [execU] at he
      split at he
      · rename_i l' c' hl hc'
        split at he
        · rename_i h
          cases he
          exact Cf6 hna ho ht hz h.2.2.2.2.1 (by have := h.2.2.2.2.2; omega) h.2.2.2.1 hs hn hl hc' h.1 h.2.1 h.2.2.1
        · cases he
      · cases he
    · cases hc
  case h_16 t x lo hi mx ho =>
    split at hc
    · rename_i e ht
      split at hc
      · rename_i hinfo
        cases hc
        simp only [execU] at he
        split at he
        · rename_i cs n hx
          split at he
          · rename_i l h hlo hhi
            split at he
            · rename_i hb
              cases he
              exact (Bk1 ho ht hinfo hs).1 cs n hx hlo hhi hb.1 hb.2.1 hb.2.2
            · cases he
          · cases he
        · rename_i id off n es' hx
          split at he
          · rename_i l h hlo hhi
            split at he
            · rename_i hb
              obtain ⟨rfl, hb⟩ := hb
              cases he
              exact (Bk1 ho ht hinfo hs).2.1 id off n hx hlo hhi hb.1 hb.2.1 hb.2.2
            · cases he
          · cases he
        · rename_i hx
          split at he
          · rename_i l h hlo hhi
            split at he
            · rename_i hb
              cases he
              exact (Bk1 ho ht hinfo hs).2.2 hx hlo hhi hb.1 hb.2
            · cases he
          · cases he
        · cases he
      · cases hc
    · rename_i ht
      cases hc
      simp only [execU] at he
      split at he
      · rename_i b hx
        split at he
        · rename_i l h hlo hhi
          split at he
          · rename_i hb
            cases he
            exact Cf0 ho ht hs hx hlo hhi hb.1 hb.2.1 hb.2.2
          · cases he
        · cases he
      · cases he
    · rename_i n e har
      split at hc
      · split at hc
        · rename_i hb
          cases hc
          simp only [execU] at he
          split at he
          · rename_i id hx
            split at he
            · rename_i T cs hid
              split at he
              · rename_i hc2
                obtain ⟨rfl, hl⟩ := hc2
                cases he
                exact Ch1 ho har hb.1 hb.2.1 hb.2.2 hs hx hid hl
              · cases he
            · cases he
          · cases he
        · cases hc
      · cases hc
    · cases hc
  case h_17 t x f ho =>
    split at hc
    · rename_i fs ht
      obtain ⟨fd, hf, hc⟩ := Option.bind_eq_some_iff.1 hc
      split at hc
      · cases hc
      · rename_i hz
        cases hc
        simp only [execU] at he
        split at he
        · rename_i cs hx; cases he; exact (ok_fa ho ht hf hz hs).1 cs hx
        · rename_i id off hx; cases he; exact (ok_fa ho ht hf hz hs).2 id off hx
        · cases he
    · cases hc
  case h_18 t x f ho =>
    split at hc
    · rename_i fs ht
      obtain ⟨fd, hf, hc⟩ := Option.bind_eq_some_iff.1 hc
      obtain ⟨k, hk, rfl⟩ := Option.map_eq_some_iff.1 hc
      simp only [execU] at he
      split at he
      · rename_i cs hx
        obtain ⟨d', hp, he⟩ := Option.map_eq_some_iff.1 he
        cases he
        exact Ce6 ho ht hf hk hs hx hp
      · cases he
    · cases hc
  case h_19 t x i ho =>
    split at hc
    · rename_i e ht
      split at hc
      · cases hc
      · rename_i hz
        cases hc
        simp only [execU] at he
        split at he
        · rename_i j cs n hi hx
          split at he
          · rename_i hj; cases he; exact (ok_ia ho ht hz hs hi hj.1).1 cs n hx hj.2
          · cases he
        · rename_i j id off n es' hi hx
          split at he
          · rename_i hj; cases he; exact (ok_ia ho ht hz hs hi hj.1).2 id off n es' hx hj.2
          · cases he
        · cases he
    · rename_i n e ht
      split at hc
      · cases hc
      · rename_i hz
        cases hc
        simp only [execU] at he
        split at he
        · rename_i j id off hi hx
          split at he
          · rename_i hj; cases he; exact (ok_fx ho ht hz hs hi hj.1 hj.2).2 id off hx
          · cases he
        · rename_i j cs hi hx
          split at he
          · rename_i hj; cases he; exact (ok_fx ho ht hz hs hi hj.1 hj.2).1 cs hx
          · cases he
        · cases he
    · cases hc
  case h_20 t x i ho =>
    split at hc
    · rename_i ht
      cases hc
      simp only [execU] at he
      split at he
      · rename_i j b hi hx
        split at he
        · rename_i h0
          obtain ⟨c, hcc, he⟩ := Option.map_eq_some_iff.1 he
          cases he
          exact Ce9 ho ht hs hi h0 hx hcc
        · cases he
      · cases he
    · cases hc
  case h_21 x i ho =>
    cases hc
    simp only [execU] at he
    split at he
    · rename_i v hv
      cases he
      obtain ⟨ds, hx, hd⟩ := Bj8 hv
      exact B83 ho hs hx hd
    · split at he
      · rename_i ds hx
        obtain ⟨d', hd, he⟩ := Option.map_eq_some_iff.1 he
        cases he
        exact Cf1 ho hs hx hd
      · cases he
  case h_22 c ho =>
    split at hc
    · cases hc; simp [execU] at he
    · cases hc; simp [execU] at he
    · cases hc; simp [execU] at he
    · rename_i hcal
      split at hc
      · rename_i x t hargs ht
        split at hc
        · rename_i e hu
          cases hc
          have h1 := (B00 ho hcal hargs ht hs).1 ⟨e, hu⟩
          simp only [execU] at he
          split at he
          · rename_i cs n hx; cases he; exact h1.1 cs n hx
          · rename_i id off n es' hx; cases he; exact h1.2.1 id off n es' hx
          · rename_i n c' hx; cases he; exact h1.2.2 n c' hx
          · cases he
        · rename_i hu
          cases hc
          simp only [execU] at he
          split at he
          · rename_i b hx; cases he; exact (B00 ho hcal hargs ht hs).2 hu b hx
          · cases he
        · rename_i kt et hu
          cases hc
          have h1 := Cg2 ho hcal hargs ht hu hs
          simp only [execU] at he
          split at he
          · rename_i hx; cases he; exact h1.1 hx
          · rename_i id hx
            split at he
            · rename_i ck es hid; cases he; exact h1.2 id ck es hx hid
            · cases he
          · cases he
        · cases hc
      · cases hc
    · rename_i hcal
      split at hc
      · rename_i x y t t' hargs hty
        split at hc
        · rename_i htt
          subst htt
          split at hc
          · rename_i e ht
            obtain ⟨z, hz, hc⟩ := Option.bind_eq_some_iff.1 hc
            split at hc
            · rename_i hzl
              cases hc
              simp only [execU] at he
              split at he
              · rename_i old cs n news m hd hsr
                split at he
                · rename_i h
                  cases he
                  exact Cf8 hzl.1 ho hcal hargs hty ht hz hzl.2 rfl rfl hs hn hd hsr h.1 h.2.1 h.2.2.1 h.2.2.2
                · cases he
              · cases he
            · cases hc
          · cases hc
        · cases hc
      · cases hc
    · rename_i hcal
      split at hc
      · rename_i x y t hargs hty
        split at hc
        · rename_i e ht
          split at hc
          · rename_i hce
            cases hc
            simp only [execU] at he
            split at he
            · rename_i id off n es' news m hx hy
              split at he
              · rename_i T cs hid
                split at he
                · rename_i h
                  obtain ⟨rfl, h⟩ := h
                  cases he
                  exact Ch2 ho hcal hargs hty ht rfl hce hs hx hid hy h.1 h.2.1 h.2.2
                · cases he
              · cases he
            · cases he
          · cases hc
        · cases hc
      · cases hc
    · rename_i hcal
      split at hc
      · rename_i x y hargs
        cases hc
        simp only [execU] at he
        split at he
        · rename_i k p k' q hx hy; cases he; exact ok_mm (mx := false) ho hcal hargs hs hx hy
        · cases he
      · cases hc
    · rename_i hcal
      split at hc
      · rename_i x y hargs
        cases hc
        simp only [execU] at he
        split at he
        · rename_i k p k' q hx hy; cases he; exact ok_mm (mx := true) ho hcal hargs hs hx hy
        · cases he
      · cases hc
    · cases hc
  case h_23 t r ho =>
    split at hc
    · cases hc
      simp [execU] at he
      obtain ⟨rfl, rfl⟩ := he
      exact Cg0 ho hs hn
    · cases hc
  case h_24 t x k ok ho =>
    split at hc
    · rename_i kt et ht
      split at hc
      · rename_i kd z hkd hz
        cases hc
        simp only [execU] at he
        split at he
        · rename_i kv hk
          split at he
          · rename_i hkey
            have h1 := Cg1 ho ht hkd hz hs hk hkey
            split at he
            · rename_i hx; cases he; exact h1.1 hx
            · rename_i id hx
              split at he
              · rename_i ck es hid
                split at he
                · rename_i p hf; cases he; exact h1.2 id ck es _ hx hid hf
                · rename_i hf; cases he; exact h1.2 id ck es _ hx hid hf
                · cases he
              · cases he
            · cases he
          · cases he
        · cases he
      · cases hc
    · cases hc
  case h_25 t x k ho =>
    split at hc
    · rename_i kt et ht
      split at hc
      · rename_i kd z hkd hz
        cases hc
        simp only [execU] at he
        split at he
        · rename_i kv hk
          split at he
          · rename_i hkey
            split at he
            · rename_i id hx
              split at he
              · rename_i ck es hid
                split at he
                · rename_i p hf; cases he; exact (B03 ho ht hkd hz hs hk hkey hx hid hf).1 p rfl
                · rename_i hf; cases he; exact (B03 ho ht hkd hz hs hk hkey hx hid hf).2 rfl
                · cases he
              · cases he
            · cases he
          · cases he
        · cases he
      · cases hc
    · cases hc
  case h_26 t x st y ho =>
    cases hc
    simp only [execU] at he
    split at he
    · rename_i id n hx hst
      split at he
      · rename_i ck es hid
        split at he
        · rename_i i hf; cases he; exact Cg4 ho hs hx hst hid hf
        · cases he
      · cases he
    · cases he
  case h_27 t x ho =>
    split at hc
    · rename_i kt et ht
      cases hc
      simp only [execU] at he
      split at he
      · rename_i hx; cases he; exact (B04 ho ht hs hn).1 hx
      · rename_i id hx
        split at he
        · rename_i ck es hid; cases he; exact (B04 ho ht hs hn).2 id ck es hx hid
        · cases he
      · cases he
    · rename_i ht
      cases hc
      simp only [execU] at he
      split at he
      · rename_i b hx; cases he; exact Cg8 ho ht hs hn hx
      · cases he
    · cases hc
  case h_28 x isS ho =>
    split at hc
    · cases hc; simp [execU] at he
    · rename_i hS
      have hS' : isS = true := by simpa using hS
      subst hS'
      cases hc
      simp only [execU] at he
      split at he
      · rename_i id hx
        split at he
        · rename_i t pos hid
          split at he
          · rename_i hp; cases he; exact (B06 (nid := nid) ho hs hx hid).1 hp
          · rename_i hp; cases he; exact (B06 (nid := nid) ho hs hx hid).2 hp
        · cases he
      · cases he
  case h_29 x ho => cases hc; simp [execU] at he
  case h_30 t x ho =>
    split at hc
    · cases hc
    · rename_i td hni ht
      cases hc
      simp [execU] at he; obtain ⟨rfl, rfl⟩ := he
      exact Cg9 ho ht (fun ms e => hni ms e) hs
    · cases hc
  case h_31 x xt t ok ho =>
    split at hc
    · cases hc
    · rename_i td hni ht
      split at hc
      · rename_i z hz
        cases hc
        have h1 := Ch0 ho ht (fun ms e => hni ms e) hz hs
        simp only [execU] at he
        split at he
        · rename_i T' d' hx
          split at he
          · rename_i hT; subst hT; cases he; exact h1.1 d' hx
          · rename_i hT
            split at he
            · rename_i hok; cases he; exact (h1.2 hok).1 T' d' hT hx
            · cases he
        · rename_i hx
          split at he
          · rename_i hok; cases he; exact (h1.2 hok).2 hx
          · cases he
        · cases he
      · cases hc
    · cases hc
  case h_32 t x k y ho =>
    obtain ⟨kd, hkd, rfl⟩ := Option.map_eq_some_iff.1 hc
    exact hmup t x k y kd (.inl ho) hkd rfl
  case h_33 t x k y ho =>
    obtain ⟨kd, hkd, rfl⟩ := Option.map_eq_some_iff.1 hc
    exact hmup t x k y kd (.inr ho) hkd rfl
  case h_34 => cases hc
end Go.DD

/- What a function's body starts from, and what holds at its end. -/
namespace Go.DD
open Go.RowKit (Below)
def liftQ (C : Ctx) (Q : Exit → DS → Prop) : Exit → Act → World → Prop := fun e a w => ∃ s, Q e s ∧ Holds C s a w
def Ctx.F (C : Ctx) : Fence := { Fence.wide with round := C.rd }
theorem Ay9 {C : Ctx} {f : FuncId} {args : Array Value} {w : World} {R : Ending → World → Prop} (h : Calls C.P f args w R) : CallsIn C.F 0 C.P f args w R := by
  have h1 : CallsIn Fence.wide 0 C.P f args w R := callsIn_wide.2 h
  cases hr : C.rd with
  | none =>
    have : C.F = Fence.wide := by unfold Ctx.F; rw [hr]; rfl
    rw [this]; exact h1
  | some l =>
    have : C.F = Fence.wide.inRound l := by unfold Ctx.F; rw [hr]; rfl
    rw [this]; exact CallsIn.inRound l h1
def DW (C : Ctx) (c : DC) (Q : Exit → DS → Prop) (s : DS) : Prop :=
  ∀ code, compC C.P C.nt code = some c → ∀ a w, Holds C s a w → code.wpIn C.F 0 C.P (liftQ C Q) a w
structure DF where
  code : DC
  res : List (Nat × Option (Option Nat))
  nt : Nat
  deriving Inhabited
def Ap8 (P : Program) : ResultVar → Option (Nat × Option (Option Nat))
  | .tmp t => some (t, none)
  | .cell a T => (tkind P T).map fun k => (a, some k)
def Aw4 (P : Program) (fn : Func) : Option DF :=
  match fn.body with
  | some b => match compC P fn.ntmps b, fn.results.toList.mapM (Ap8 P) with
    | some c, some r => some { code := c, res := r, nt := fn.ntmps }
    | _, _ => none
  | none => none
def resD (s : DS) : Nat × Option (Option Nat) → Option DV
  | (t, none) => some (s.ev (.tmp t))
  | (t, some k) => match s.ev (.tmp t) with
    | .pt id off => match s.ho id with
      | some (.row _ cs) => partD k (cs.drop off)
      | _ => none
    | _ => none
def resV (s : DS) (rs : List (Nat × Option (Option Nat))) : Option DV :=
  match rs.mapM (resD s) with
  | some [d] => some d
  | some ds => some (.tup ds)
  | none => none
def argF (ds : List DV) (t : Nat) : DV := (ds[t]?).getD .any
theorem B07 {C : Ctx} {U : Nat → Prop} {V : Nat → Option DObj} {β : Nat → Option Nat} {w : World} {us : List Value} {cs : List DV} (hl : us.length = cs.length)
    (hr : ∀ (j : Nat) (u : Value) (d : DV), us[j]? = some u → cs[j]? = some d → WV C U V β w u d) : WV C U V β w (.tuple us.toArray) (.tup cs) := by
  refine ⟨fun id hi => ?_, fun ha => .tup us cs hl fun j u d hu hd => (hr j u d hu hd).2.1 fun id hi => ha id (by rw [DV.refs]; exact DV.refsL_mem (List.mem_of_getElem? hd) hi), TP.of_wv hl hr⟩
  rw [DV.refs] at hi
  obtain ⟨d, hd, hi⟩ := DV.mem_refsL hi
  obtain ⟨j, hj, rfl⟩ := List.mem_iff_getElem.1 hd
  exact (hr j us[j] _ (List.getElem?_eq_getElem (by omega)) (List.getElem?_eq_getElem hj)).1 id hi
section
variable {C : Ctx} {U : Nat → Prop} {s : DS} {β : Nat → Option Nat} {a : Act} {w : World}
theorem Bh0 (hs : HoldsB C U s β a w) {rv : ResultVar} {q : Nat × Option (Option Nat)} {d : DV} (hq : Ap8 C.P rv = some q) (hd : resD s q = some d) :
    ∃ x, (match rv with
      | .tmp t => (pure (a.tmps.getD t undef) : Sem Value)
      | .cell p t => do loadVar t (← asAddr (a.tmps.getD p undef))).run C.P w = .ok x w ∧ WV C U (s.vw C) β w x d := by
  cases rv with
  | tmp t =>
    simp [Ap8] at hq
    subst hq
    simp only [resD, Option.some.injEq] at hd
    subst hd
    exact ⟨_, rfl, hs.evw (.tmp t)⟩
  | cell p T =>
    obtain ⟨k, hk, rfl⟩ := Option.map_eq_some_iff.1 hq
    simp only [resD] at hd
    split at hd
    · rename_i id off hp
      split at hd
      · rename_i T' cs hrow
        have h1 : Rel C.P w (alw C w β) β (a.tmps.getD p undef) (s.ev (.tmp p)) := hs.ev (.tmp p)
        rw [hp] at h1
        obtain ⟨b, e1, hb⟩ := Ah7 h1
        obtain ⟨c, hw, hl, _, hr⟩ := hs.row hb hrow
        obtain ⟨g1, g2⟩ := Ag1 hk ⟨b, off, none⟩ (c.toList.drop off) (Am1 hw)
        obtain ⟨p1, p2⟩ := Ar3 (C := C) (U := U) (V := s.vw C) (w := w) (β := β) (us := c.toList.drop off) (cs := cs.drop off) (by simp; omega)
          (fun j u hu hj => by
            have hj' : off + j < cs.length := by simp at hj; omega
            exact (hr (off + j) u _ (by simpa using hu) (List.getElem?_eq_getElem hj')).2)
          (fun j u d hu hd => (hr (off + j) u d (by simpa using hu) (by simpa using hd)).1) hd
        cases k with
        | none =>
          obtain ⟨u, hu, hrel⟩ := p1 rfl
          exact ⟨u, by simp only [Sem.run_bind, e1, asAddr, Sem.run_pure, Result.andThen_ok]; exact g1 rfl u hu, hrel⟩
        | some n =>
          obtain ⟨hn, hrel⟩ := p2 n rfl
          exact ⟨_, by simp only [Sem.run_bind, e1, asAddr, Sem.run_pure, Result.andThen_ok]; exact g2 n rfl hn, hrel⟩
      · cases hd
    · cases hd
theorem A96 (hs : HoldsB C U s β a w) : ∀ (rvs : List ResultVar) (qs : List (Nat × Option (Option Nat))) (ds : List DV), rvs.mapM (Ap8 C.P) = some qs → qs.mapM (resD s) = some ds →
    ∃ vs : List Value, (rvs.mapM fun (rv : ResultVar) => (match rv with
      | .tmp t => (pure (a.tmps.getD t undef) : Sem Value)
      | .cell p t => do loadVar t (← asAddr (a.tmps.getD p undef)))).run C.P w = .ok vs w ∧ vs.length = ds.length ∧ ∀ (j : Nat) (v : Value) (d : DV), vs[j]? = some v → ds[j]? = some d → WV C U (s.vw C) β w v d
  | [], qs, ds, h1, h2 => by
    simp at h1; subst h1; simp at h2; subst h2
    exact ⟨[], by simp, rfl, by simp⟩
  | rv :: rvs, qs, ds, h1, h2 => by
    simp only [List.mapM_cons, Option.bind_eq_bind, Option.bind_eq_some_iff, Option.pure_def] at h1
    obtain ⟨q, hq, qt, hqt, h1⟩ := h1
    cases h1
    simp only [List.mapM_cons, Option.bind_eq_bind, Option.bind_eq_some_iff, Option.pure_def] at h2
    obtain ⟨d, hd, dt, hdt, h2⟩ := h2
    cases h2
    obtain ⟨x, hx, hrel⟩ := Bh0 hs hq hd
    obtain ⟨vs, hvs, hl, hr⟩ := A96 hs rvs qt dt hqt hdt
    refine ⟨x :: vs, ?_, by simp [hl], fun j v e hv he => ?_⟩
    · simp only [List.mapM_cons, Sem.run_bind, hx, Result.andThen_ok, hvs, Sem.run_pure]
    · cases j with
      | zero => simp at hv he; subst hv he; exact hrel
      | succ j => exact hr j v e (by simpa using hv) (by simpa using he)
theorem A72 (hs : HoldsB C U s β a w) {fn : Func} {qs : List (Nat × Option (Option Nat))} {d : DV} (hq : fn.results.toList.mapM (Ap8 C.P) = some qs) (hd : resV s qs = some d) :
    ∃ x, (results fn a.tmps).run C.P w = .ok x w ∧ WV C U (s.vw C) β w x d := by
  unfold resV at hd
  cases hm : qs.mapM (resD s) with
  | none => rw [hm] at hd; cases hd
  | some ds =>
    rw [hm] at hd
    obtain ⟨vs, hvs, hl, hr⟩ := A96 hs fn.results.toList qs ds hq hm
    have hrun : (results fn a.tmps).run C.P w = .ok (if h : vs.toArray.size = 1 then vs.toArray[0] else .tuple vs.toArray) w := by
      unfold results
      rw [Array.mapM_eq_mapM_toList]
      simp only [Sem.run_bind, Sem.run_map]
      erw [hvs]
      simp only [Result.andThen_ok, Sem.run_pure]
    refine ⟨_, hrun, ?_⟩
    clear hm hvs hrun
    match ds, hl, hd, hr with
    | [e], hl, hd, hr =>
      simp at hd
      subst hd
      match vs, hl with
      | [v], _ => exact hr 0 v e rfl rfl
    | [], hl, hd, hr =>
      simp at hd; subst hd
      rw [dif_neg (by simp at hl; simp [hl])]
      exact B07 hl hr
    | e :: e' :: es, hl, hd, hr =>
      simp at hd; subst hd
      rw [dif_neg (by simp; simp at hl; omega)]
      exact B07 hl hr
theorem HoldsB.shut {tmps : Array Value} {d : Deferred} {l : List Deferred} {D : Nat} (hs : HoldsB C U s β ⟨tmps, d :: l⟩ w) (hd : d = { target := .collected D, args := #[] })
    (hD : w.heap[D]? = some (.deferred (some []))) (h0 : C.w0.heap.size ≤ D) (hn : ∀ id, β id ≠ some D) : HoldsB C U s β ⟨tmps, l⟩ (w.putObj D (.deferred none)) := by
  have hDlt : D < w.heap.size := (Array.getElem?_eq_some_iff.1 hD).1
  have hoth : ∀ b, b ≠ D → (w.putObj D (.deferred none)).heap[b]? = w.heap[b]? := fun b hb => World.putObj_heap_other hb
  have hcell : ∀ (b : Nat), (∃ c T r, w.heap[b]? = some (Obj.cells c T r)) → (w.putObj D (.deferred none)).heap[b]? = w.heap[b]? := fun b ⟨c, T, r, hc⟩ => hoth b (fun e => by rw [e, hD] at hc; cases hc)
  have hown : ∀ id b, β id = some b → (w.putObj D (.deferred none)).heap[b]? = w.heap[b]? := fun id b hb => hoth b (fun e => hn id (e ▸ hb))
  have hrel : ∀ x d, WV C U (s.vw C) β w x d → WV C U (s.vw C) β (w.putObj D (.deferred none)) x d := fun x d ⟨g1, g2, g3⟩ =>
    ⟨g1, fun ha => (g2 ha).mono (fun b ⟨h1, h2, h3⟩ => ⟨⟨h1, by simpa using h2, h3⟩, hcell b⟩) fun id _ b hb => ⟨hb, SameShape.of_eq (hown id b hb)⟩, g3⟩
  have hbel := hs.hh.bel
  have hnd : d ∉ l.filter A26 ∧ (l.filter A26).Nodup := by
    have := hs.df.nodup
    rw [List.filter_cons_of_pos (by rw [hd]; rfl)] at this
    exact List.nodup_cons.1 this
  refine ⟨⟨hs.hh.ok, ⟨hbel.os, hbel.tape, hbel.output, by simpa using hbel.size, fun k hk1 hk2 => (hoth k (by omega)).trans (hbel.block k hk1 hk2)⟩, fun id b hb => ⟨(hs.hh.bge id b hb).1, by simpa using hs.hh.lt hb⟩, hs.hh.inj, hs.hh.fr, fun id o ho => ?_⟩,
    ⟨hnd.2, fun d' hd' => ?_, fun D' hD' => ?_, fun D' hD' => hs.df.apart D' (by simp [hD'])⟩, hs.sz, fun t => hrel _ _ (hs.sl t), fun x d hx => hrel _ _ (hs.gh x d hx), hs.yd⟩
  · exact (hs.hh.hp id o ho).keep rfl (hown id) hrel
  · rcases hs.df.own d' (by simp [hd']) with ⟨D', e, h1, h2, h3⟩ | hq
    · refine .inl ⟨D', e, (hoth D' fun he => ?_).trans h1, h2, h3⟩
      subst he
      exact hnd.1 (List.mem_filter.2 ⟨by rw [hd, ← e]; exact hd', by rw [hd]; rfl⟩)
    · exact .inr hq
  · obtain ⟨D2, e, h1, h2, h3⟩ := hs.df.out D' hD'
    refine ⟨D2, e, (hoth D2 fun he => ?_).trans h1, h2, h3⟩
    subst he
    simp only [Deferred.mk.injEq, Target.collected.injEq, and_true] at e
    subst e
    exact hs.df.apart D' (by rw [hd]; simp) hD'
theorem Az0 {fn : Func} {qs : List (Nat × Option (Option Nat))} {d : DV} {R : Ending → World → Prop} (hq : fn.results.toList.mapM (Ap8 C.P) = some qs) (hd : resV s qs = some d) (tmps : Array Value)
    (hR : ∀ v w', HoldsB C U s β ⟨tmps, []⟩ w' → WV C U (s.vw C) β w' v d → R (.returned v) w') : ∀ (l : List Deferred) (w : World), HoldsB C U s β ⟨tmps, l⟩ w → LeavesInM Fence.wide 0 C.P fn tmps R l .returning w
  | [], w, hs => by
    obtain ⟨x, hx, hr⟩ := A72 hs hq hd
    exact ⟨x, hx, hR x w hs hr⟩
  | d' :: l, w, hs => by
    rcases hs.df.own d' (by simp) with ⟨D, e, h1, h2, h3⟩ | ⟨g, caps, hqf, rfl⟩
    · exact ⟨by simp, .inl ⟨D, _, by rw [e], run_takeDeferred h1, Az0 hq hd tmps hR l _ (hs.shut e h1 h2 h3)⟩⟩
    · obtain ⟨k1, k2⟩ := Bt7 hqf caps w
      refine ⟨by simp, .inr ⟨fun h => by simp [Fence.wide] at h, .func g, caps, g, caps, rfl, k1, fun _ _ => trivial, k2.mono ?_⟩⟩
      rintro e u' w' ⟨rfl, ⟨v, rfl⟩, rfl⟩
      exact Az0 hq hd tmps hR l _ ⟨hs.hh, hs.df.tail rfl, hs.sz, hs.sl, hs.gh, hs.yd⟩
theorem A31 {ho : Nat → Option DObj} {nx : Nat} {args : List DV} {vs : List Value}
    (hh : HH C U (vwF C.Y ho) β w) (hX : ∀ x d, C.X x d ∨ GLV x d → WV C U (vwF C.Y ho) β w x d) (hy : ∀ id o, C.Y id = some o → ho id = none) (hM : ∀ D, C.M D → Mark C β w { target := .collected D, args := #[] }) (hn : args.length ≤ C.nt) (hl : vs.length = args.length)
    (hrel : ∀ (j : Nat) (v : Value) (d : DV), vs[j]? = some v → args[j]? = some d → WV C U (vwF C.Y ho) β w v d) :
    HoldsB C U ⟨argF args, ho, nx⟩ β { tmps := vs.toArray ++ Array.replicate (C.nt - vs.toArray.size) undef, defers := [] } w := by
  refine ⟨hh, ⟨List.nodup_nil, (fun d hd => by cases hd), hM, (fun D hd => by cases hd)⟩, by simp; omega, fun t => ?_, hX, hy⟩
  simp only [argF]
  cases hd : args[t]? with
  | none => exact WV.any
  | some d =>
    have htl : t < vs.length := by have := (List.getElem?_eq_some_iff.1 hd).1; omega
    have hv : (vs.toArray ++ Array.replicate (C.nt - vs.toArray.size) undef).getD t undef = vs[t] := by
      simp [Array.getElem?_append, htl]
    rw [hv]
    simp only [Option.getD_some]
    exact hrel t vs[t] d (List.getElem?_eq_getElem htl) hd
end
end Go.DD

/- Calls: where they stand, in the caller's own memory; or by contract, on immutable arguments. -/
namespace Go.DD
open Go.RowKit (Below)
theorem Au1 {cs : List DV} (h : DV.refsL cs = []) {d : DV} (hd : d ∈ cs) : d.refs = [] := by
  cases hr : d.refs with
  | nil => rfl
  | cons i l => have := DV.refsL_mem hd (id := i) (by rw [hr]; simp); rw [h] at this; cases this
theorem Az1 {P : Program} {w : World} {al : Nat → Prop} {β : Nat → Option Nat} {x : Value} {d : DV} (h : Rel P w al β x d) (hd : d.refs = []) : RelI w al x d := by
  induction h with
  | imm x d h => exact h
  | agg vs cs hl ho _ ih => exact .agg vs cs hl ho fun j u d hu he => ih j u d hu he (Au1 (by simpa [DV.refs] using hd) (List.mem_of_getElem? he))
  | tup vs cs hl _ ih => exact .tup vs cs hl fun j u d hu he => ih j u d hu he (Au1 (by simpa [DV.refs] using hd) (List.mem_of_getElem? he))
  | fn f us vs cs hl _ ih => exact .fn f us vs cs hl fun j u d hu he => ih j u d hu he (Au1 (by simpa [DV.refs] using hd) (List.mem_of_getElem? he))
  | ifc T u d _ ih => exact .ifc T u d (ih (by simpa [DV.refs] using hd))
  | ms0 id es => simp [DV.refs] at hd
  | ms id off n es b cap c T hβ hw hn hm hcap => simp [DV.refs] at hd
  | pt id off b hβ => simp [DV.refs] at hd
  | mp id b hβ => simp [DV.refs] at hd
  | yl id b hβ => simp [DV.refs] at hd
inductive Plain : DV → Prop
  | any : Plain .any
  | v (x : Value) : Plain (.v x)
  | agg (cs : List DV) (h : ∀ d ∈ cs, Plain d) : Plain (.agg cs)
  | tup (cs : List DV) (h : ∀ d ∈ cs, Plain d) : Plain (.tup cs)
theorem Bh1 {w w' : World} {al al' : Nat → Prop} {x : Value} {d : DV} (h : RelI w al x d) (hp : Plain d) : RelI w' al' x d := by
  induction h with
  | any x => exact .any x
  | v x => exact .v x
  | agg vs cs hl ho _ ih => cases hp with | agg _ hp => exact .agg vs cs hl ho fun j u d hu hd => ih j u d hu hd (hp d (List.mem_of_getElem? hd))
  | tup vs cs hl _ ih => cases hp with | tup _ hp => exact .tup vs cs hl fun j u d hu hd => ih j u d hu hd (hp d (List.mem_of_getElem? hd))
  | sl0 a cap => cases hp
  | sl ad n cap us cs hl hn ha ho hc _ ih => cases hp
  | ia ad us cs hl ha ho hc _ ih => cases hp
  | fn f us vs cs hl _ ih => cases hp
  | ifc T u d _ ih => cases hp
def DV.flat : DV → Bool
  | .any => true
  | .v _ => true
  | .sl _ _ => true
  | .ia _ => true
  | _ => false
theorem Ao3 {d : DV} (h : d.flat = true) : d.refs = [] := by
  cases d <;> first | rfl | (simp [DV.flat] at h)
def rzL (f : DV → Option DV) (cs : List DV) : Option (List DV) := if cs.all DV.flat then some cs else cs.mapM f
def rz (ho : Nat → Option DObj) : Nat → DV → Option DV
  | 0, d => if d.flat then some d else none
  | k + 1, d => match d with
    | .agg cs => (rzL (rz ho k) cs).map .agg
    | .tup cs => (rzL (rz ho k) cs).map .tup
    | .fn f cs => (rzL (rz ho k) cs).map (.fn f)
    | .ifc T d => (rz ho k d).map (.ifc T)
    | .ms id off n es => match ho id with
      | some (.row _ cs) => if off + n * es ≤ cs.length then (rzL (rz ho k) ((cs.drop off).take (n * es))).map fun l => .sl l n else none
      | _ => none
    | .pt id off => match ho id with
      | some (.row _ cs) => (rzL (rz ho k) (cs.drop off)).map .ia
      | _ => none
    | .mp _ => none
    | .yl _ => none
    | d => some d
theorem Ar4 {f : DV → Option DV} {cs l : List DV} (h : rzL f cs = some l) : l.length = cs.length ∧ ∀ (j : Nat) (c d : DV), cs[j]? = some c → l[j]? = some d → (c.flat = true ∧ d = c) ∨ f c = some d := by
  unfold rzL at h
  split at h
  · rename_i hall
    cases h
    refine ⟨rfl, fun j c d hc hd => .inl ?_⟩
    rw [hc] at hd
    cases hd
    exact ⟨List.all_eq_true.1 hall c (List.mem_of_getElem? hc), rfl⟩
  · obtain ⟨h1, h2⟩ := mapM_some h
    exact ⟨h1, fun j c d hc hd => .inr (h2 j c d hc hd)⟩
theorem Bu6 {ho : Nat → Option DObj} : ∀ (k : Nat) (d d' : DV), rz ho k d = some d' → ∀ id ∈ d.refs, (ho id).isSome = true := by
  intro k
  induction k with
  | zero =>
    intro d d' h id hi
    simp only [rz] at h
    split at h
    · rename_i hf; rw [Ao3 hf] at hi; cases hi
    · cases h
  | succ k ih =>
    intro d d' h id hi
    have hlist : ∀ cs l, rzL (rz ho k) cs = some l → ∀ id ∈ DV.refsL cs, (ho id).isSome = true := by
      intro cs l hz id hi
      obtain ⟨c, hc, hi⟩ := DV.mem_refsL hi
      obtain ⟨j, hj, rfl⟩ := List.mem_iff_getElem.1 hc
      obtain ⟨h1, h2⟩ := Ar4 hz
      rcases h2 j cs[j] (l[j]'(by omega)) (List.getElem?_eq_getElem hj) (List.getElem?_eq_getElem (by omega)) with ⟨hf, _⟩ | hr
      · rw [Ao3 hf] at hi; cases hi
      · exact ih _ _ hr id hi
    cases d with
    | agg cs => obtain ⟨l, hz, _⟩ := Option.map_eq_some_iff.1 h; exact hlist cs l hz id (by simpa [DV.refs] using hi)
    | tup cs => obtain ⟨l, hz, _⟩ := Option.map_eq_some_iff.1 h; exact hlist cs l hz id (by simpa [DV.refs] using hi)
    | fn f cs => obtain ⟨l, hz, _⟩ := Option.map_eq_some_iff.1 h; exact hlist cs l hz id (by simpa [DV.refs] using hi)
    | ifc T d => obtain ⟨e, hz, _⟩ := Option.map_eq_some_iff.1 h; exact ih _ _ hz id (by simpa [DV.refs] using hi)
    | ms id' off n es =>
      simp only [rz] at h
      obtain rfl : id = id' := by simpa [DV.refs] using hi
      split at h
      · rename_i hrow; rw [hrow]; rfl
      · cases h
    | pt id' off =>
      simp only [rz] at h
      obtain rfl : id = id' := by simpa [DV.refs] using hi
      split at h
      · rename_i hrow; rw [hrow]; rfl
      · cases h
    | mp id => simp [rz] at h
    | yl id => simp [rz] at h
    | any => simp [DV.refs] at hi
    | v x => simp [DV.refs] at hi
    | sl cs n => simp [DV.refs] at hi
    | ia cs => simp [DV.refs] at hi
def frz (C : Ctx) (w : World) (b : Nat) : Prop := (C.S b ∨ C.w0.heap.size ≤ b ∨ C.G b) ∧ b < w.heap.size
section
variable {C : Ctx} {U : Nat → Prop} {V ho : Nat → Option DObj} {β : Nat → Option Nat} {w : World}
theorem B08 (hh : HH C U V β w) (hV : ∀ id o, ho id = some o → V id = some o) (A I : Nat → Prop) (hA : ∀ b, alw C w β b → A b) (hI : ∀ id b, I id → (ho id).isSome = true → β id = some b → A b)
    (hcl : ∀ id T cs, I id → ho id = some (.row T cs) → ∀ j ∈ DV.refsL cs, I j) : ∀ (k : Nat) (x : Value) (d d' : DV), (∀ id ∈ d.refs, I id) → WV C U V β w x d → rz ho k d = some d' → RelI w A x d' := by
  have hflat : ∀ (x : Value) (d : DV), d.flat = true → WV C U V β w x d → RelI w A x d := fun x d hf hr =>
    (Az1 (hr.2.1 fun id hi => by rw [Ao3 hf] at hi; cases hi) (Ao3 hf)).mono fun b hb => ⟨hA b hb, rfl⟩
  intro k
  induction k with
  | zero =>
    intro x d d' _ hr h
    simp only [rz] at h
    split at h
    · cases h; exact hflat x d (by assumption) hr
    · cases h
  | succ k ih =>
    have hall : ∀ (x : Value) (c d : DV), (∀ id ∈ c.refs, I id) → WV C U V β w x c → ((c.flat = true ∧ d = c) ∨ rz ho k c = some d) → RelI w A x d := by
      intro x c d hc hr h
      rcases h with ⟨h1, rfl⟩ | h
      · exact hflat x d h1 hr
      · exact ih x c d hc hr h
    intro x d d' hid hw h
    have hal := Bu6 _ _ _ h
    have hr : Rel C.P w (alw C w β) β x d := hw.2.1 fun id hi => by
      obtain ⟨o, ho'⟩ := Option.isSome_iff_exists.1 (hal id hi)
      rw [hV id o ho']; rfl
    have hpart : ∀ {u : Value} {e : DV}, Rel C.P w (alw C w β) β u e → (∀ id ∈ e.refs, id ∈ d.refs) → WV C U V β w u e := fun hr he =>
      hh.wv hr fun id hi => by
        obtain ⟨o, ho'⟩ := Option.isSome_iff_exists.1 (hal id (he id hi))
        rw [hV id o ho']; rfl
    have hlist : ∀ (us : List Value) (cs l : List DV), (∀ c ∈ cs, ∀ id ∈ c.refs, I id) → us.length = cs.length → (∀ (j : Nat) (u : Value) (d : DV), us[j]? = some u → cs[j]? = some d → WV C U V β w u d) → rzL (rz ho k) cs = some l →
        us.length = l.length ∧ ∀ (j : Nat) (u : Value) (d : DV), us[j]? = some u → l[j]? = some d → RelI w A u d := by
      intro us cs l hci hl hrel hz
      obtain ⟨h1, h2⟩ := Ar4 hz
      refine ⟨by omega, fun j u d hu hd => ?_⟩
      have hj : j < cs.length := by have := (List.getElem?_eq_some_iff.1 hd).1; omega
      exact hall u cs[j] d (hci _ (List.getElem_mem hj)) (hrel j u _ hu (List.getElem?_eq_getElem hj)) (h2 j _ d (List.getElem?_eq_getElem hj) hd)
    cases d with
    | agg cs =>
      simp only [rz] at h
      obtain ⟨l, hz, rfl⟩ := Option.map_eq_some_iff.1 h
      obtain ⟨vs, rfl, hl, h1, h2⟩ := Ap7 hr
      obtain ⟨h3, h4⟩ := hlist vs cs l (fun c hc id hi => hid id (by simp only [DV.refs]; exact DV.refsL_mem hc hi)) hl (fun j u d hu hd => hpart (h2 j u d hu hd) fun id hi => by simp only [DV.refs]; exact DV.refsL_mem (List.mem_of_getElem? hd) hi) hz
      exact .agg vs l h3 h1 h4
    | tup cs =>
      simp only [rz] at h
      obtain ⟨l, hz, rfl⟩ := Option.map_eq_some_iff.1 h
      obtain ⟨vs, rfl, hl, h2⟩ := A67 hr
      obtain ⟨h3, h4⟩ := hlist vs cs l (fun c hc id hi => hid id (by simp only [DV.refs]; exact DV.refsL_mem hc hi)) hl (fun j u d hu hd => hpart (h2 j u d hu hd) fun id hi => by simp only [DV.refs]; exact DV.refsL_mem (List.mem_of_getElem? hd) hi) hz
      exact .tup vs l h3 h4
    | fn f cs =>
      simp only [rz] at h
      obtain ⟨l, hz, rfl⟩ := Option.map_eq_some_iff.1 h
      obtain ⟨us, vs, rfl, hl, h2⟩ := A28 hr
      obtain ⟨h3, h4⟩ := hlist (Value.tuple us.toArray :: vs) cs l (fun c hc id hi => hid id (by simp only [DV.refs]; exact DV.refsL_mem hc hi)) hl (fun j u d hu hd => hpart (h2 j u d hu hd) fun id hi => by simp only [DV.refs]; exact DV.refsL_mem (List.mem_of_getElem? hd) hi) hz
      exact .fn f us vs l h3 h4
    | ifc T d =>
      simp only [rz] at h
      obtain ⟨e, hz, rfl⟩ := Option.map_eq_some_iff.1 h
      obtain ⟨u, rfl, h2⟩ := Ak8 hr
      exact .ifc T u e (ih u d e (fun id hi => hid id (by simpa [DV.refs] using hi)) (hpart h2 fun id hi => by simpa [DV.refs] using hi) hz)
    | ms id off n es =>
      simp only [rz] at h
      split at h
      · rename_i T cs hrow
        split at h
        · rename_i hfit
          obtain ⟨l, hz, rfl⟩ := Option.map_eq_some_iff.1 h
          rcases Ak9 hr with ⟨rfl, rfl, rfl⟩ | ⟨b, cap, c, T', rfl, hb, hw, hn, hm, hcap⟩
          · have : l = [] := by
              have := (Ar4 hz).1
              simpa using this
            subst this
            exact .sl0 _ _
          · rcases hh.hp id _ (hV _ _ hrow) with ⟨h1, _⟩ | ⟨b', c', hb', hc', hl, _, hrel⟩
            · rw [hb] at h1; cases h1
            · rw [hb] at hb'; cases hb'
              rw [hw] at hc'
              injection hc' with hc'
              injection hc' with hcc _
              subst hcc
              have hI1 := hid id (by simp [DV.refs])
              obtain ⟨h3, h4⟩ := hlist ((c.toList.drop off).take (n * es)) _ l (fun e he i hi => hcl id _ _ hI1 hrow i (DV.refsL_mem (List.mem_of_mem_drop (List.mem_of_mem_take he)) hi)) (by simp; omega) (fun j u d hu hd => by
                rw [List.getElem?_take] at hu hd
                split at hu
                · rename_i hj
                  rw [if_pos hj] at hd
                  exact (hrel (off + j) u d (by simpa using hu) (by simpa using hd)).1
                · cases hu) hz
              refine .sl _ n cap ((c.toList.drop off).take (n * es)) l h3 hn (hI id b hI1 (by rw [hrow]; rfl) hb) (fun u hu => ?_) (fun j u hu => ?_) h4
              · obtain ⟨j, hj, rfl⟩ := List.mem_iff_getElem.1 hu
                have hjl : off + j < cs.length := by simp at hj; omega
                refine (hrel (off + j) _ cs[off + j] ?_ (List.getElem?_eq_getElem hjl)).2
                rw [List.getElem_take, List.getElem_drop]
                simp
              · rw [List.getElem?_take] at hu
                split at hu
                · exact Am1 hw j u hu
                · cases hu
        · cases h
      · cases h
    | pt id off =>
      simp only [rz] at h
      split at h
      · rename_i T cs hrow
        obtain ⟨l, hz, rfl⟩ := Option.map_eq_some_iff.1 h
        obtain ⟨b, rfl, hb⟩ := Ah7 hr
        rcases hh.hp id _ (hV _ _ hrow) with ⟨h1, _⟩ | ⟨b', c, hb', hw, hl, _, hrel⟩
        · rw [hb] at h1; cases h1
        · rw [hb] at hb'; cases hb'
          have hI1 := hid id (by simp [DV.refs])
          obtain ⟨h3, h4⟩ := hlist ((c.toList.drop off).take (cs.length - off)) (cs.drop off) l (fun e he i hi => hcl id _ _ hI1 hrow i (DV.refsL_mem (List.mem_of_mem_drop he) hi)) (by simp; omega) (fun j u d hu hd => by
            rw [List.getElem?_take] at hu
            split at hu
            · exact (hrel (off + j) u d (by simpa using hu) (by simpa using hd)).1
            · cases hu) hz
          refine .ia _ ((c.toList.drop off).take (cs.length - off)) l h3 (hI id b hI1 (by rw [hrow]; rfl) hb) (fun u hu => ?_) (fun j u hu => ?_) h4
          · obtain ⟨j, hj, rfl⟩ := List.mem_iff_getElem.1 hu
            have hjl : off + j < cs.length := by simp at hj; omega
            refine (hrel (off + j) _ cs[off + j] ?_ (List.getElem?_eq_getElem hjl)).2
            rw [List.getElem_take, List.getElem_drop]
            simp
          · rw [List.getElem?_take] at hu
            split at hu
            · exact Am1 hw j u hu
            · cases hu
      · cases h
    | mp id => simp [rz] at h
    | yl id => simp [rz] at h
    | any => simp [rz] at h; subst h; exact .any x
    | v y => simp [rz] at h; subst h; exact hflat _ _ rfl hw
    | sl cs n => simp [rz] at h; subst h; exact hflat _ _ rfl hw
    | ia cs => simp [rz] at h; subst h; exact hflat _ _ rfl hw
theorem rz_ok (hh : HH C U V β w) (hV : ∀ id o, ho id = some o → V id = some o) (k : Nat) (x : Value) (d d' : DV) (hr : WV C U V β w x d) (h : rz ho k d = some d') : RelI w (frz C w) x d' :=
  B08 hh hV (frz C w) (fun _ => True) (fun _ hb => ⟨hb.1, hb.2.1⟩) (fun id b _ _ hb => ⟨.inr (hh.bge id b hb).1, (hh.bge id b hb).2⟩) (fun _ _ _ _ _ _ _ => trivial) k x d d' (fun _ _ => trivial) hr h
end
def DCall (P : Program) (f : FuncId) (args : List DV) (R : DV → Prop) : Prop :=
  ∀ (w : World) (S : Nat → Prop) (vs : List Value), (∀ b, S b → b < w.heap.size) → vs.length = args.length → (∀ (j : Nat) (v : Value) (d : DV), vs[j]? = some v → args[j]? = some d → RelI w S v d) → (∀ x d, GLV x d → RelI w S x d) →
    Calls P f vs.toArray w fun e w' => ∃ v r, e = .returned v ∧ R r ∧ Below w.heap.size w w' ∧ RelI w' (fun b => (S b ∨ w.heap.size ≤ b) ∧ b < w'.heap.size) v r
theorem DCall.mono {P : Program} {f : FuncId} {args : List DV} {R R' : DV → Prop} (h : DCall P f args R) (hr : ∀ d, R d → R' d) : DCall P f args R' :=
  fun w S vs h1 h2 h3 hg => (h w S vs h1 h2 h3 hg).mono fun _ _ ⟨v, r, h4, h5, h6⟩ => ⟨v, r, h4, hr r h5, h6⟩
def callI (P : Program) (f : FuncId) (ds : List DV) (s : DS) (K : DS → DV → Prop) : Prop :=
  ∃ fn df, P.funcs[f]? = some fn ∧ Aw4 P fn = some df ∧ ds.length ≤ df.nt ∧ ∀ (S G : Nat → Prop) (w0 : World) (X : Value → DV → Prop) (M : Nat → Prop) (Y : Nat → Option DObj) (R : Nat → Prop),
    DW ⟨P, S, G, w0, df.nt, X, M, none, Y, R⟩ df.code (fun e s' => (e = .normal ∨ e = .ret) ∧ ∃ d, resV s' df.res = some d ∧ K ⟨s.sv, s'.ho, s'.nx⟩ d) ⟨argF ds, s.ho, s.nx⟩
def Ctx.inner (C : Ctx) (U : Nat → Prop) (V : Nat → Option DObj) (β : Nat → Option Nat) (l : List Deferred) (w : World) (nt : Nat) (rd : Option Nat) (hid : Nat → Option DObj) (R : Nat → Prop) : Ctx :=
  ⟨C.P, C.S, C.G, C.w0, nt, fun x d => WV C U V β w x d, fun D => C.M D ∨ ({ target := .collected D, args := #[] } : Deferred) ∈ l, rd, vwF C.Y hid, R⟩
theorem HH.ctx {C C' : Ctx} {U : Nat → Prop} {V : Nat → Option DObj} {β : Nat → Option Nat} {w : World} (hP : C'.P = C.P) (hS : C'.S = C.S) (hG : C'.G = C.G) (h0 : C'.w0 = C.w0) (h : HH C U V β w) :
    HH C' U V β w ∧ ∀ x d, WV C' U V β w x d ↔ WV C U V β w x d := by
  obtain ⟨P, S, G, w0, nt, X, M, rd, Y, R⟩ := C
  obtain ⟨P', S', G', w0', nt', X', M', rd', Y', R'⟩ := C'
  simp only at hP hS hG h0
  subst hP hS hG h0
  have hw : ∀ x d, WV ⟨P', S', G', w0', nt', X', M', rd', Y', R'⟩ U V β w x d ↔ WV ⟨P', S', G', w0', nt, X, M, rd, Y, R⟩ U V β w x d := fun x d => Iff.rfl
  refine ⟨⟨h.ok, ⟨h.bel.os, h.bel.tape, h.bel.output, h.bel.size, h.bel.block⟩, h.bge, h.inj, h.fr, fun id o ho => ?_⟩, hw⟩
  have h1 := h.hp id o ho
  cases o <;> exact h1
theorem Bk8 (Y hid ho : Nat → Option DObj) : vwF (vwF Y hid) ho = vwF Y (vwF hid ho) := by
  funext id
  unfold vwF
  cases ho id <;> rfl
section
variable {C : Ctx} {U : Nat → Prop} {s : DS} {β : Nat → Option Nat} {a : Act} {w : World}
theorem A97 {f : FuncId} {ds : List DV} {vs : List Value} {vis hid : Nat → Option DObj} {R : Nat → Prop} {K : DS → DV → Prop} (hs : HoldsB C U s β a w) (hU : ∀ id, U id ↔ id < s.nx ∧ ¬ R id) (hR : ∀ id, R id → id < s.nx)
    (hsplit : s.ho = vwF hid vis) (hdis : ∀ id o, hid id = some o → vis id = none) (hl : vs.length = ds.length)
    (hr : ∀ (j : Nat) (v : Value) (d : DV), vs[j]? = some v → ds[j]? = some d → WV C U (s.vw C) β w v d) (hk : callI C.P f ds ⟨s.sv, vis, s.nx⟩ K) :
    Calls C.P f vs.toArray w fun e w' => ∃ v d ho' nx' β', e = .returned v ∧ K ⟨s.sv, ho', nx'⟩ d ∧ (∀ id o, hid id = some o → ho' id = none) ∧ (∀ id, R id → id < nx') ∧
      HoldsB C (fun id => id < nx' ∧ ¬ R id) ⟨s.sv, vwF hid ho', nx'⟩ β' a w' ∧ WV C (fun id => id < nx' ∧ ¬ R id) ((⟨s.sv, vwF hid ho', nx'⟩ : DS).vw C) β' w' v d := by
  obtain ⟨fn, df, hf, hc, hn, h⟩ := hk
  have hUe : U = fun id => id < s.nx ∧ ¬ R id := funext fun id => propext (hU id)
  unfold Aw4 at hc
  split at hc
  rotate_left
  · cases hc
  rename_i body hb
  split at hc
  rotate_left
  · cases hc
  rename_i c r hcc hcr
  cases hc
  refine callsIn_wide.1 (callsIn_of_wp_marks (n := 0) hf hb trivial ?_)
  obtain ⟨C', hC'⟩ : ∃ C', C' = C.inner U (s.vw C) β a.defers w fn.ntmps none hid R := ⟨_, rfl⟩
  have hP : C'.P = C.P := by rw [hC']; rfl
  have hview : ∀ ho', vwF C'.Y ho' = vwF C.Y (vwF hid ho') := fun ho' => by rw [hC']; exact Bk8 _ _ _
  have hv0 : vwF C'.Y vis = s.vw C := by rw [hview, ← hsplit]; rfl
  obtain ⟨hh1, hw1⟩ := HH.ctx (C' := C') (by rw [hC']; rfl) (by rw [hC']; rfl) (by rw [hC']; rfl) (by rw [hC']; rfl) hs.hh
  have hYs : ∀ id o, C'.Y id = some o → vis id = none := fun id o hy => by
    rw [hC'] at hy
    simp only [Ctx.inner, vwF] at hy
    split at hy
    · rename_i o' ho'; exact hdis id o' ho'
    · have h1 := hs.yd id o hy
      rw [hsplit] at h1
      simp only [vwF] at h1
      split at h1
      · cases h1
      · assumption
  have hMk : ∀ D, C'.M D → Mark C β w { target := .collected D, args := #[] } := fun D hD => by
    rw [hC'] at hD
    exact hD.elim (hs.df.out D) hs.df.ownC
  have hent : HoldsB C' (Us C' s.nx) ⟨argF ds, vis, s.nx⟩ β { tmps := vs.toArray ++ Array.replicate (C'.nt - vs.toArray.size) undef, defers := [] } w := by
    have e1 : Us C' s.nx = U := by rw [hUe, hC']; rfl
    rw [e1]
    refine A31 (nx := s.nx) (ho := vis) (by rw [hv0]; exact hh1) (fun x d hx => ?_) hYs (fun D hD => ?_) (by rw [hC']; exact hn) hl (fun j v d hv hd => by rw [hv0]; exact (hw1 _ _).2 (hr j v d hv hd))
    · rw [hv0]
      rw [hC'] at hx
      rcases hx with hx | hx
      · exact (hw1 _ _).2 hx
      · exact (hw1 _ _).2 (hs.gh x d (.inr hx))
    · obtain ⟨D', g1, g2, g3, g4⟩ := hMk D hD
      exact ⟨D', g1, g2, by rw [hC']; exact g3, g4⟩
  have hC2 : C' = ⟨C.P, C.S, C.G, C.w0, fn.ntmps, C'.X, C'.M, none, C'.Y, R⟩ := by rw [hC']; rfl
  have hrun := h C.S C.G C.w0 C'.X C'.M C'.Y R
  rw [← hC2] at hrun
  have hnt : C'.nt = fn.ntmps := by rw [hC']; rfl
  have hbody := hrun body (by rw [hP, hnt]; exact hcc) _ w ⟨by rw [hC']; exact hR, β, hent⟩
  have hF : C'.F = Fence.wide := by rw [hC']; rfl
  rw [hF, hP] at hbody
  rw [hnt] at hbody
  refine wpIn_mono hbody ?_
  have hfin : ∀ (s' : DS) (a' : Act) (w' : World), Holds C' s' a' w' → (∃ d, resV s' r = some d ∧ K ⟨s.sv, s'.ho, s'.nx⟩ d) →
      LeavesInM Fence.wide 0 C.P fn a'.tmps (fun e w' => ∃ v d ho' nx' β', e = .returned v ∧ K ⟨s.sv, ho', nx'⟩ d ∧ (∀ id o, hid id = some o → ho' id = none) ∧ (∀ id, R id → id < nx') ∧
        HoldsB C (fun id => id < nx' ∧ ¬ R id) ⟨s.sv, vwF hid ho', nx'⟩ β' a w' ∧ WV C (fun id => id < nx' ∧ ¬ R id) ((⟨s.sv, vwF hid ho', nx'⟩ : DS).vw C) β' w' v d) a'.defers .returning w' := by
    rintro s' ⟨tmps, l⟩ w' ⟨hR', β', hs'⟩ ⟨d, hd, hK⟩
    have := Az0 (C := C') (R := fun e w' => ∃ v d ho' nx' β', e = .returned v ∧ K ⟨s.sv, ho', nx'⟩ d ∧ (∀ id o, hid id = some o → ho' id = none) ∧ (∀ id, R id → id < nx') ∧
        HoldsB C (fun id => id < nx' ∧ ¬ R id) ⟨s.sv, vwF hid ho', nx'⟩ β' a w' ∧ WV C (fun id => id < nx' ∧ ¬ R id) ((⟨s.sv, vwF hid ho', nx'⟩ : DS).vw C) β' w' v d) (by rw [hP]; exact hcr) hd tmps (fun v w'' hs'' hrel => by
      have eU : Us C' s'.nx = fun id => id < s'.nx ∧ ¬ R id := by rw [hC']; rfl
      have eV : s'.vw C' = (⟨s.sv, vwF hid s'.ho, s'.nx⟩ : DS).vw C := hview s'.ho
      obtain ⟨hh2, hw2⟩ := HH.ctx (C := C') (C' := C) (by rw [hC']; rfl) (by rw [hC']; rfl) (by rw [hC']; rfl) (by rw [hC']; rfl) hs''.hh
      rw [eU, eV] at hh2
      have hw3 : ∀ x d, WV C' (Us C' s'.nx) (s'.vw C') β' w'' x d → WV C (fun id => id < s'.nx ∧ ¬ R id) ((⟨s.sv, vwF hid s'.ho, s'.nx⟩ : DS).vw C) β' w'' x d := fun x d hx => by
        have := (hw2 x d).2 hx
        rwa [eU, eV] at this
      refine ⟨v, d, s'.ho, s'.nx, β', rfl, hK, fun id o ho' => hs''.yd id o (by rw [hC']; simp only [Ctx.inner, vwF, ho']), fun id hid => hR' id (by rw [hC']; exact hid), ⟨hh2, ⟨hs.df.nodup, fun d hd => ?_, fun D hD => ?_, hs.df.apart⟩, hs.sz, fun t => ?_, fun x d hx => ?_, fun id o hy => ?_⟩, hw3 _ _ hrel⟩
      · rcases hs.df.own d hd with ⟨D, e, _⟩ | hq
        · subst e
          obtain ⟨D', g1, g2, g3, g4⟩ := hs''.df.out D (by rw [hC']; exact .inr hd)
          exact .inl ⟨D', g1, g2, by rw [hC'] at g3; exact g3, g4⟩
        · exact .inr hq
      · obtain ⟨D', g1, g2, g3, g4⟩ := hs''.df.out D (by rw [hC']; exact .inl hD)
        exact ⟨D', g1, g2, by rw [hC'] at g3; exact g3, g4⟩
      · exact hw3 _ _ (hs''.gh _ _ (.inl (by rw [hC']; exact hs.sl t)))
      · exact hw3 _ _ (hs''.gh _ _ (.inl (by rw [hC']; exact hs.gh x d hx)))
      · have h1 := hs.yd id o hy
        rw [hsplit] at h1
        have hhid : hid id = none := by
          simp only [vwF] at h1
          split at h1
          · cases h1
          · exact h1
        have h2 := hs''.yd id o (by rw [hC']; simp only [Ctx.inner, vwF, hhid]; exact hy)
        simp only [vwF, h2, hhid]) l w' hs'
    rw [hP] at this
    exact this
  rintro e a' w' ⟨s', ⟨h1, h2⟩, hs'⟩
  rcases h1 with rfl | rfl
  · exact hfin s' a' w' hs' h2
  · exact hfin s' a' w' hs' h2
theorem A98 (ho : Nat → Option DObj) : vwF (fun _ => none) ho = ho := by
  funext id; unfold vwF; cases ho id <;> rfl
theorem A99 {f : FuncId} {ds : List DV} {vs : List Value} {K : DS → DV → Prop} (hs : HoldsB C (Us C s.nx) s β a w) (hR : ∀ id, C.R id → id < s.nx) (hl : vs.length = ds.length)
    (hr : ∀ (j : Nat) (v : Value) (d : DV), vs[j]? = some v → ds[j]? = some d → WV C (Us C s.nx) (s.vw C) β w v d) (hk : callI C.P f ds s K) :
    Calls C.P f vs.toArray w fun e w' => ∃ v d s' β', e = .returned v ∧ K s' d ∧ (∀ id, C.R id → id < s'.nx) ∧ HoldsB C (Us C s'.nx) s' β' a w' ∧ WV C (Us C s'.nx) (s'.vw C) β' w' v d := by
  refine (A97 (vis := s.ho) (hid := fun _ => none) (R := C.R) hs (fun _ => Iff.rfl) hR (A98 _).symm (fun _ _ h => by cases h) hl hr hk).mono ?_
  rintro e w' ⟨v, d, ho', nx', β', h1, h2, _, h3, h4, h5⟩
  rw [A98] at h4 h5
  exact ⟨v, d, ⟨s.sv, ho', nx'⟩, β', h1, h2, h3, h4, h5⟩
def DS.drops (s : DS) (ids : List Nat) : DS := { s with ho := fun id => if ids.contains id then none else s.ho id }
def B09 (s : DS) (ids : List Nat) (ds : List DV) : Bool :=
  (ids.all fun id => match s.ho id with | some (.row _ cs) => (DV.refsL cs).all ids.contains | _ => true) && (DV.refsL ds).all ids.contains
def callK (P : Program) (f : FuncId) (ds : List DV) (s : DS) (K : DS → DV → Prop) : Prop :=
  (∃ R, (∀ x ∈ ds, x.refs = []) ∧ DCall P f ds R ∧ ∀ d, R d → K s d) ∨
  (∃ ds' R, ds.mapM (rz s.ho 5) = some ds' ∧ DCall P f ds' R ∧ ∀ d, R d → Plain d ∧ K s d) ∨
  (∃ ids ds' R, B09 s ids ds = true ∧ ds.mapM (rz s.ho 5) = some ds' ∧ DCall P f ds' R ∧ ∀ d, R d → K (s.drops ids) d) ∨
  callI P f ds s K
theorem Bu7 {V : Nat → Option DObj} {w' : World} (hh : HH C U V β w) {x : Value} {d : DV} {S : Nat → Prop} (hS : ∀ b, S b → alw C w β b) (h : RelI w' (fun b => (S b ∨ w.heap.size ≤ b) ∧ b < w'.heap.size) x d) : RelI w' (alw C w' β) x d := by
  refine h.mono fun b hb => ⟨?_, rfl⟩
  rcases hb.1 with h1 | h1
  · obtain ⟨h2, h3, h4⟩ := hS b h1
    exact ⟨h2, hb.2, h4⟩
  · refine ⟨.inr (.inl (Nat.le_trans hh.bel.size h1)), hb.2, fun id hid => ?_⟩
    have := hh.lt hid
    omega
theorem B10 (hs : HoldsB C U s β a w) (x : Value) (d : DV) (h : GLV x d) : RelI w (alw C w β) x d := by
  have h1 := hs.gh x d (.inr h)
  obtain ⟨g, cs, hg, rfl, rfl⟩ := h
  exact Az1 (h1.2.1 fun id hi => (by simp [DV.refs] at hi)) (by simp [DV.refs])
theorem A73 {f : FuncId} {ds : List DV} {vs : List Value} {R : DV → Prop} (hs : HoldsB C U s β a w) (hl : vs.length = ds.length)
    (hr : ∀ (j : Nat) (v : Value) (d : DV), vs[j]? = some v → ds[j]? = some d → RelI w (alw C w β) v d) (hc : DCall C.P f ds R) :
    Calls C.P f vs.toArray w fun e w' => ∃ v d, e = .returned v ∧ R d ∧ HoldsB C U s β a w' ∧ WV C U (s.vw C) β w' v d := by
  refine (hc w (alw C w β) vs (fun b hb => hb.2.1) hl hr (B10 hs)).mono ?_
  rintro e w' ⟨v, r, rfl, hR, hb, hrel⟩
  exact ⟨v, r, rfl, hR, hs.keep hb, Al0 (Bu7 hs.hh (fun b hb => hb) hrel)⟩
theorem HoldsB.drops (hs : HoldsB C U s β a w) (ids : List Nat) :
    ∃ β', HoldsB C U (s.drops ids) β' a w ∧ (∀ b, alw C w β b → alw C w β' b) ∧ ∀ id ∈ ids, (s.ho id).isSome = true → ∀ b, β id = some b → alw C w β' b := by
  let β' : Nat → Option Nat := fun id => if id ∈ ids ∧ (s.ho id).isSome = true then none else β id
  have hsome : ∀ j b, β' j = some b → β j = some b ∧ ¬ (j ∈ ids ∧ (s.ho j).isSome = true) := fun j b hb => by
    by_cases hj : j ∈ ids ∧ (s.ho j).isSome = true
    · simp only [β', if_pos hj] at hb; cases hb
    · simp only [β', if_neg hj] at hb; exact ⟨hb, hj⟩
  refine ⟨β', ?_, fun b ⟨h1, h2, h3⟩ => ⟨h1, h2, fun j hj => h3 j (hsome j b hj).1⟩, fun id hi ha b hb => ⟨.inr (hs.hh.bge id b hb).1, hs.hh.lt hb, fun j hj => ?_⟩⟩
  · have hl := hs.hh.less (U' := U) (β' := β') (V' := (s.drops ids).vw C) (fun _ h => h) (fun id => ?_) (fun id => ?_)
    · exact hs.carry rfl (fun id o hy => by simp only [DS.drops]; rw [hs.yd id o hy]; simp) hl
    · by_cases hi : id ∈ ids ∧ (s.ho id).isSome = true
      · refine .inr ⟨by simp [β', hi], ?_⟩
        have := hs.apart hi.2
        simp [DS.vw, vwF, DS.drops, hi.1, this]
      · exact .inl (by simp [β', hi])
    · by_cases hi : id ∈ ids
      · cases ho : s.ho id with
        | none => exact .inl (by simp [DS.vw, vwF, DS.drops, ho])
        | some o =>
          have := hs.apart (i := id) (by rw [ho]; rfl)
          exact .inr (by simp [DS.vw, vwF, DS.drops, hi, this])
      · exact .inl (by simp [DS.vw, vwF, DS.drops, hi])
  · obtain ⟨h1, h2⟩ := hsome j b hj
    have := hs.hh.inj j id b h1 hb
    subst this
    exact h2 ⟨hi, ha⟩
theorem B89 {f : FuncId} {ds : List DV} {vs : List Value} {K : DS → DV → Prop} (hs : HoldsB C (Us C s.nx) s β a w) (hR : ∀ id, C.R id → id < s.nx) (hl : vs.length = ds.length)
    (hr : ∀ (j : Nat) (v : Value) (d : DV), vs[j]? = some v → ds[j]? = some d → WV C (Us C s.nx) (s.vw C) β w v d) (hk : callK C.P f ds s K) :
    Calls C.P f vs.toArray w fun e w' => ∃ v d s' β', e = .returned v ∧ K s' d ∧ (∀ id, C.R id → id < s'.nx) ∧ HoldsB C (Us C s'.nx) s' β' a w' ∧ WV C (Us C s'.nx) (s'.vw C) β' w' v d := by
  rcases hk with ⟨R, himm, hcall, hK⟩ | ⟨ds', R, hm, hcall, hK⟩ | ⟨ids, ds', R, hg, hm, hcall, hK⟩ | hcallI
  · refine (A73 hs hl (fun j v d hv hd => ?_) hcall).mono ?_
    · have h0 := himm d (List.mem_of_getElem? hd)
      exact Az1 ((hr j v d hv hd).2.1 fun id hi => by rw [h0] at hi; cases hi) h0
    · rintro e w' ⟨v, d, rfl, hR', h1, h2⟩
      exact ⟨v, d, s, β, rfl, hK d hR', hR, h1, h2⟩
  · obtain ⟨hml, hmr⟩ := mapM_some hm
    refine (hcall w (frz C w) vs (fun b hb => hb.2) (by omega) (fun j v d hv hd => ?_) (fun x d hx => (B10 hs x d hx).mono fun b hb => ⟨⟨hb.1, hb.2.1⟩, rfl⟩)).mono ?_
    · have hj : j < ds.length := by have := (List.getElem?_eq_some_iff.1 hd).1; omega
      exact rz_ok hs.hh (fun _ _ => Ad2) 5 v ds[j] d (hr j v _ hv (List.getElem?_eq_getElem hj)) (hmr j _ d (List.getElem?_eq_getElem hj) hd)
    · rintro e w' ⟨v, r, rfl, hR', hb, hrel⟩
      exact ⟨v, r, s, β, rfl, (hK r hR').2, hR, hs.keep hb, Al0 (Bh1 hrel (hK r hR').1)⟩
  · obtain ⟨hml, hmr⟩ := mapM_some hm
    simp only [B09, Bool.and_eq_true, List.all_eq_true] at hg
    obtain ⟨hg1, hg2⟩ := hg
    obtain ⟨β', h1, h2, h3⟩ := hs.drops ids
    refine (A73 h1 (by omega) (fun j v d hv hd => ?_) hcall).mono ?_
    · have hj : j < ds.length := by have := (List.getElem?_eq_some_iff.1 hd).1; omega
      have hz := hmr j _ d (List.getElem?_eq_getElem hj) hd
      refine B08 hs.hh (fun _ _ => Ad2) (alw C w β') (fun id => id ∈ ids) h2 (fun id b hi ha hb => h3 id hi ha b hb) (fun id T cs hi ho k hk => ?_) 5 v ds[j] d (fun id hi => ?_) (hr j v _ hv (List.getElem?_eq_getElem hj)) hz
      · have := hg1 id hi
        rw [ho] at this
        have := List.all_eq_true.1 this k hk
        simpa using this
      · have := hg2 id (DV.refsL_mem (List.getElem_mem hj) hi)
        simpa using this
    · rintro e w' ⟨v, d, rfl, hR', h4, h5⟩
      exact ⟨v, d, s.drops ids, β', rfl, hK d hR', hR, h4, h5⟩
  · exact A99 hs hR hl hr hcallI
end
end Go.DD

/- Rounds of a range over a function. -/
namespace Go.DD
open Go.RowKit (Below)
def zipF : List Nat → List DV → (Nat → DV) → Nat → DV
  | p :: ps, d :: ds, f => zipF ps ds (fun u => if p = u then d else f u)
  | _, _, f => f
theorem Bk9 {W : Value → DV → Prop} {nt : Nat} : ∀ (ps : List Nat) (vs : List Value) (ds : List DV) (tmps : Array Value) (f : Nat → DV), vs.length = ps.length → ds.length = ps.length →
    (∀ t ∈ ps, t < nt) → tmps.size = nt → (∀ (j : Nat) (v : Value) (d : DV), vs[j]? = some v → ds[j]? = some d → W v d) → (∀ t, W (tmps.getD t undef) (f t)) →
    ((ps.zip vs).foldl (fun (t : Array Value) (p : Nat × Value) => t.setIfInBounds p.1 p.2) tmps).size = nt ∧ ∀ t, W (((ps.zip vs).foldl (fun (t : Array Value) (p : Nat × Value) => t.setIfInBounds p.1 p.2) tmps).getD t undef) (zipF ps ds f t)
  | [], _, _, tmps, f, _, _, _, hsz, _, hr => ⟨hsz, hr⟩
  | p :: ps, [], _, _, _, h, _, _, _, _, _ => by simp at h
  | p :: ps, _ :: _, [], _, _, _, h, _, _, _, _ => by simp at h
  | p :: ps, v :: vs, d :: ds, tmps, f, h1, h2, h3, hsz, hvd, hr => by
    simp only [List.zip_cons_cons, List.foldl_cons, zipF]
    refine Bk9 ps vs ds _ _ (by simpa using h1) (by simpa using h2) (fun t ht => h3 t (by simp [ht])) (by simpa using hsz) (fun j u e hu he => hvd (j + 1) u e (by simpa using hu) (by simpa using he)) fun t => ?_
    by_cases hpt : p = t
    · subst hpt
      simp only [if_true]
      have hlt : p < tmps.size := by rw [hsz]; exact h3 p (by simp)
      have : (tmps.setIfInBounds p v).getD p undef = v := by simp [hlt]
      rw [this]; exact hvd 0 v d rfl rfl
    · simp only [hpt, if_false]
      have : (tmps.setIfInBounds p v).getD t undef = tmps.getD t undef := by simp [Array.getElem?_setIfInBounds_ne hpt]
      rw [this]; exact hr t
def A32 (P : Program) (id : Nat) (ds : List DV) (s : DS) (K : DS → DV → Prop) : Prop :=
  ∃ lp, s.ho id = some (.loop lp) ∧ lp.st = .ready ∧ ds.length = lp.ps.length ∧ (∀ t ∈ lp.ps, t < lp.nt) ∧ ∀ (S G : Nat → Prop) (w0 : World) (X : Value → DV → Prop) (M : Nat → Prop) (Y : Nat → Option DObj) (R : Nat → Prop) (l : Nat),
    DW ⟨P, S, G, w0, lp.nt, X, M, some l, Y, R⟩ lp.asg (fun e s1 => e = .normal ∧ ∃ lp1, s1.ho id = some (.loop lp1) ∧ lp1.st = .ready ∧
      DW ⟨P, S, G, w0, lp.nt, X, M, some l, Y, R⟩ lp.body (fun e s2 => ∃ lp2, s2.ho id = some (.loop lp2) ∧ match e with
        | .normal => K ⟨s.sv, setH s2.ho id (some (.loop { lp2 with st := .ready, pend := none })), s2.nx⟩ (.v (.bool true))
        | .ret => K ⟨s.sv, setH s2.ho id (some (.loop { lp2 with st := .done, pend := some .ret })), s2.nx⟩ (.v (.bool false))
        | .exit i => K ⟨s.sv, setH s2.ho id (some (.loop { lp2 with st := .done, pend := some (.exit i) })), s2.nx⟩ (.v (.bool false))
        | _ => False) (s1.lay id (some (.loop { lp1 with st := .busy })))) ⟨zipF lp.ps ds lp.sl.get, s.ho, s.nx⟩
section
variable {C : Ctx} {U : Nat → Prop} {s : DS} {β : Nat → Option Nat} {a : Act} {w : World}
theorem HoldsB.mark (hs : HoldsB C U s β a w) {id b : Nat} {lp : DLoop} {r : Loop} (hb : β id = some b) (ho : s.ho id = some (.loop lp)) (hr : w.heap[b]? = some (.loop r))
    (st : LoopState) (pend : Option Code) : HoldsB C U (s.lay id (some (.loop { lp with st := st, pend := pend }))) β a (w.putObj b (.loop { r with state := st, pending := pend })) := by
  have hlt : b < w.heap.size := (Array.getElem?_eq_some_iff.1 hr).1
  obtain ⟨b', r', hb', hr', q1, q2, q3, q4, q5, q6, hrel⟩ := hs.hh.hp id _ (Ad2 ho)
  rw [hb] at hb'; cases hb'
  rw [hr] at hr'
  cases hr'
  exact (hs.wrote (w' := w.putObj b (.loop { r with state := st, pending := pend })) 0 id b (.loop { lp with st := st, pend := pend }) hb (by rw [ho]; rfl) (fun k hk => World.putObj_heap_other hk) (by simp) rfl rfl rfl
    (fun c T hc => by rw [hr] at hc; cases hc) fun hrel' => ⟨b, _, hb, World.putObj_heap_same hlt, q1, q2, q3, q4, rfl, rfl, fun t => hrel' _ _ (hrel t)⟩).1
theorem Bu8 {id b : Nat} {ds : List DV} {vs : List Value} {K : DS → DV → Prop} (hs : HoldsB C (Us C s.nx) s β a w) (hR : ∀ id, C.R id → id < s.nx) (hb : β id = some b) (hl : vs.length = ds.length)
    (hr : ∀ (j : Nat) (v : Value) (d : DV), vs[j]? = some v → ds[j]? = some d → WV C (Us C s.nx) (s.vw C) β w v d) (hk : A32 C.P id ds s K) :
    ∃ fn tmps assign body, (Instr.yield b vs.toArray).run C.P w = .ok (.round b fn tmps assign body) w ∧
      RoundIn C.F 0 C.P b fn tmps assign body w fun e w' => ∃ v d s' β', e = .returned v ∧ K s' d ∧ (∀ id, C.R id → id < s'.nx) ∧ HoldsB C (Us C s'.nx) s' β' a w' ∧ WV C (Us C s'.nx) (s'.vw C) β' w' v d := by
  obtain ⟨lp, ho, hst, hlen, hps, h⟩ := hk
  obtain ⟨b', r, hb', hrb, q1, q2, q3, q4, q5, q6, hrel⟩ := hs.hh.hp id _ (Ad2 ho)
  rw [hb] at hb'; cases hb'
  have hsz : vs.toArray.size = r.params.size := by rw [List.size_toArray, hl, hlen, ← q1, Array.length_toList]
  refine ⟨r.fn, _, r.assign, r.body, run_yield hrb hsz, roundIn_of_wpIn trivial ?_⟩
  obtain ⟨hz1, hz2⟩ := Bk9 (W := WV C (Us C s.nx) (s.vw C) β w) lp.ps vs ds r.tmps lp.sl.get (by omega) hlen hps q2 hr hrel
  have htm : (r.params.zip vs.toArray).foldl (fun tmps (x : Nat × Value) => tmps.setIfInBounds x.1 x.2) r.tmps = (lp.ps.zip vs).foldl (fun (t : Array Value) (p : Nat × Value) => t.setIfInBounds p.1 p.2) r.tmps := by
    rw [← Array.foldl_toList, Array.toList_zip, q1]
  obtain ⟨C', hC'⟩ : ∃ C', C' = C.inner (Us C s.nx) (s.vw C) β a.defers w lp.nt (some b) (fun _ => none) C.R := ⟨_, rfl⟩
  have hY : C'.Y = C.Y := by rw [hC']; rfl
  have hP : C'.P = C.P := by rw [hC']; rfl
  have hnt : C'.nt = lp.nt := by rw [hC']; rfl
  have hUs : ∀ nx, Us C' nx = Us C nx := fun nx => by rw [hC']; rfl
  have hvw : ∀ s : DS, s.vw C' = s.vw C := fun s => by unfold DS.vw; rw [hY]
  have hto : ∀ {U : Nat → Prop} {V : Nat → Option DObj} {β : Nat → Option Nat} {w : World}, HH C U V β w → HH C' U V β w ∧ ∀ x d, WV C' U V β w x d ↔ WV C U V β w x d := fun h => HH.ctx (by rw [hC']; rfl) (by rw [hC']; rfl) (by rw [hC']; rfl) (by rw [hC']; rfl) h
  have hfrom : ∀ {U : Nat → Prop} {V : Nat → Option DObj} {β : Nat → Option Nat} {w : World}, HH C' U V β w → HH C U V β w ∧ ∀ x d, WV C U V β w x d ↔ WV C' U V β w x d := fun h => HH.ctx (by rw [hC']; rfl) (by rw [hC']; rfl) (by rw [hC']; rfl) (by rw [hC']; rfl) h
  have hmk : ∀ {β : Nat → Option Nat} {w : World} {d : Deferred}, Mark C' β w d ↔ Mark C β w d := by rw [hC']; exact Iff.rfl
  have hent : HoldsB C' (Us C' s.nx) ⟨zipF lp.ps ds lp.sl.get, s.ho, s.nx⟩ β { tmps := (lp.ps.zip vs).foldl (fun (t : Array Value) (p : Nat × Value) => t.setIfInBounds p.1 p.2) r.tmps, defers := [] } w := by
    obtain ⟨g1, g2⟩ := hto hs.hh
    have e : (⟨zipF lp.ps ds lp.sl.get, s.ho, s.nx⟩ : DS).vw C' = s.vw C := hvw s
    refine ⟨by rw [hUs, e]; exact g1, ⟨List.nodup_nil, (fun d hd => by cases hd), (fun D hD => ?_), (fun D hD => by cases hD)⟩, by rw [hnt]; exact hz1, fun t => by rw [hUs, e]; exact (g2 _ _).2 (hz2 t), fun x d hx => ?_, by rw [hY]; exact hs.yd⟩
    · rw [hC'] at hD
      exact hmk.2 (hD.elim (hs.df.out D) hs.df.ownC)
    · rw [hUs, e]
      rw [hC'] at hx
      rcases hx with hx | hx
      · exact (g2 _ _).2 hx
      · exact (g2 _ _).2 (hs.gh x d (.inr hx))
  have hyl : WV C (Us C s.nx) (s.vw C) β w (.func (.yield b) #[] #[]) (.yl id) := hs.hh.wv (.yl id b hb) fun i hi => by
    obtain rfl : i = id := by simpa [DV.refs] using hi
    exact Ae2 (by rw [ho]; rfl)
  have hC2 : C' = ⟨C.P, C.S, C.G, C.w0, lp.nt, C'.X, C'.M, some b, C'.Y, C'.R⟩ := by rw [hC']; rfl
  have hX : ∀ x d, WV C (Us C s.nx) (s.vw C) β w x d → C'.X x d := fun x d hx => by rw [hC']; exact hx
  have hRR : C'.R = C.R := by rw [hC']; rfl
  have hrun := h C.S C.G C.w0 C'.X C'.M C'.Y C'.R b
  rw [← hC2] at hrun
  have hasg := hrun r.assign (by rw [hP, hnt]; exact q3) _ w ⟨by rw [hRR]; exact hR, β, hent⟩
  rw [← htm] at hasg
  have hF : C'.F = C.F.inRound b := by rw [hC']; rfl
  rw [hF, hP] at hasg
  -- the record's block is where it was
  have hblock : ∀ {s1 : DS} {β1 : Nat → Option Nat} {a1 : Act} {w1 : World} {o : DObj}, HoldsB C' (Us C' s1.nx) s1 β1 a1 w1 → s1.ho id = some o → β1 id = some b := fun {s1 β1 a1 w1 o} hs1 ho1 => by
    have h1 := (hs1.gh _ _ (.inl (hX _ _ hyl))).2.1 fun i hi => by
      obtain rfl : i = id := by simpa [DV.refs] using hi
      exact Ae2 (by rw [ho1]; rfl)
    obtain ⟨b2, e, hb2⟩ := A87 h1
    cases e; exact hb2
  refine wpIn_mono (F := C.F.inRound b) hasg ?_
  rintro e a1 w1 ⟨s1, ⟨rfl, lp1, ho1, hst1, hbody⟩, hR1, β1, hs1⟩
  have hb1 := hblock hs1 ho1
  obtain ⟨b1', r1, hb1', hrb1, _, _, _, _, q51, q61, _⟩ := hs1.hh.hp id _ (Ad2 ho1)
  rw [hb1] at hb1'; cases hb1'
  refine ⟨_, run_beginRound hrb1 (by rw [q51, hst1]), ?_⟩
  have hs1' := hs1.mark hb1 ho1 hrb1 .busy lp1.pend
  rw [← q61] at hs1'
  have hw1' : ({ lp1 with st := LoopState.busy, pend := r1.pending } : DLoop) = { lp1 with st := .busy } := by rw [q61]
  rw [hw1'] at hs1'
  have hbw := hbody r.body (by rw [hP, hnt]; exact q4) a1 _ ⟨hR1, β1, hs1'⟩
  rw [hF, hP] at hbw
  refine wpIn_mono (F := C.F.inRound b) hbw ?_
  rintro e a2 w2 ⟨s2, ⟨lp2, ho2, hpost⟩, hR2, β2, hs2⟩
  have hb2 := hblock hs2 ho2
  obtain ⟨b2', r2, hb2', hrb2, _⟩ := hs2.hh.hp id _ (Ad2 ho2)
  rw [hb2] at hb2'; cases hb2'
  have fin : ∀ (jump : Option Code) , K ⟨s.sv, setH s2.ho id (some (.loop { lp2 with st := if jump.isNone then .ready else .done, pend := jump })), s2.nx⟩ (.v (.bool jump.isNone)) →
      ∃ v w', (Instr.endRound b jump).run C.P w2 = .ok v w' ∧ ∃ v' d s' β', Ending.returned v = .returned v' ∧ K s' d ∧ (∀ id, C.R id → id < s'.nx) ∧ HoldsB C (Us C s'.nx) s' β' a w' ∧ WV C (Us C s'.nx) (s'.vw C) β' w' v' d := fun jump hK => by
    have hs3 := hs2.mark hb2 ho2 hrb2 (if jump.isNone then .ready else .done) jump
    obtain ⟨s3, hs3e⟩ : ∃ s3, s2.lay id (some (.loop { lp2 with st := if jump.isNone then .ready else .done, pend := jump })) = s3 := ⟨_, rfl⟩
    rw [hs3e] at hs3
    have hn3 : s3.nx = s2.nx := by rw [← hs3e]; rfl
    have hK' : K ⟨s.sv, s3.ho, s3.nx⟩ (.v (.bool jump.isNone)) := by rw [← hs3e]; exact hK
    obtain ⟨g1, g2⟩ := hfrom hs3.hh
    have e : s3.vw C' = (⟨s.sv, s3.ho, s3.nx⟩ : DS).vw C := hvw s3
    rw [hUs, e] at g1 g2
    have g3 : ∀ x d, WV C' (Us C' s2.nx) (s3.vw C') β2 _ x d → WV C (Us C s2.nx) ((⟨s.sv, s3.ho, s3.nx⟩ : DS).vw C) β2 _ x d := fun x d hx => by
      rw [hUs, e] at hx; exact (g2 x d).2 hx
    refine ⟨_, _, run_endRound jump hrb2, _, _, ⟨s.sv, s3.ho, s3.nx⟩, β2, rfl, hK', fun id hid => by simp only [hn3]; exact hR2 id (by rw [hRR]; exact hid), ?_, WV.v _⟩
    simp only [hn3]
    refine ⟨by rw [← hn3]; simpa only [hn3] using g1, ⟨hs.df.nodup, fun d hd => ?_, fun D hD => ?_, hs.df.apart⟩, hs.sz, fun t => ?_, fun x d hx => ?_, fun i o hy => ?_⟩
    · rcases hs.df.own d hd with ⟨D, e, _⟩ | hq
      · subst e
        exact .inl (hmk.1 (hs3.df.out D (by rw [hC']; exact .inr hd)))
      · exact .inr hq
    · exact hmk.1 (hs3.df.out D (by rw [hC']; exact .inl hD))
    · have := g3 _ _ (hs3.gh _ _ (.inl (hX _ _ (hs.sl t))))
      simpa only [hn3] using this
    · have := g3 _ _ (hs3.gh _ _ (.inl (hX _ _ (hs.gh x d hx))))
      simpa only [hn3] using this
    · exact hs3.yd i o (by rw [hY]; exact hy)
  cases e with
  | normal => exact fin none hpost
  | ret => exact fin (some .ret) hpost
  | exit i => exact fin (some (.exit i)) hpost
  | _ => exact hpost.elim
end
end Go.DD
