/- Maps among the own objects: made, read, written, counted. Keys: bools, integers, strings. -/
import Derived.Test.YtpaggdhijeabnaaGreatDoorHf
import Derived.MapKept
import Derived.ChangeKeysEq
import Derived.WideKeyRuns
namespace Go.DD
open Go.RowKit (Below)

theorem isKeyB_ok {d : TypeDesc} {v : Value} (h : isKeyB d v = true) : MapKept.IsKey d v := by
  cases d <;> cases v <;> simp_all [isKeyB, MapKept.IsKey]

theorem bytes_beq (a b : ByteArray) : (a == b) = (a.data.toList == b.data.toList) := by
  obtain ⟨x⟩ := a
  obtain ⟨y⟩ := b
  show (x == y) = (x.toList == y.toList)
  rw [Bool.eq_iff_iff]
  simp only [beq_iff_eq]
  exact ⟨fun h => by rw [h], fun h => Array.toList_inj.1 h⟩
theorem sameD_eq (d : TypeDesc) (k x : Value) : sameD d k x = Instr.sameNow d k x := by
  cases d <;> cases k <;> cases x <;> simp [sameD, Instr.sameNow, bytes_beq]

theorem same_key {kd : TypeDesc} {k x : Value} (h : sameD kd k x = some true) : x = k := by
  unfold sameD at h
  split at h
  · split at h
    · rename_i e; subst e; simp at h; rw [h]
    · cases h
  · simp only [Option.some.injEq, beq_iff_eq] at h
    congr 1
    rename_i x y
    obtain ⟨x⟩ := x
    obtain ⟨y⟩ := y
    simp only at h
    rw [Array.toList_inj.1 h]
  · simp at h; rw [h]
  · cases h
theorem same_bits {kd : TypeDesc} {k : Value} (h : isKeyB kd k = true) : Instr.sameBits 10000 k k = true := by
  unfold isKeyB at h
  split at h
  · simp [Instr.sameBits]
  · simp [Instr.sameBits]
  · rw [Instr.sameBits, bytes_beq]; simp
  · cases h

theorem bytes_inj {a b : ByteArray} (h : (a.toList == b.toList) = true) : a = b := by
  have e : a.toList = b.toList := by simpa using h
  rw [ByteArray.toList_eq, ByteArray.toList_eq] at e
  obtain ⟨a⟩ := a
  obtain ⟨b⟩ := b
  congr 1
  exact Array.toList_inj.1 e
theorem sameK_f {ks : List Nat} {a b : Value} {r : Bool} (h : sameK (.f ks) a b = some r) : ∃ xs ys : Array Value, a = .agg xs ∧ b = .agg ys ∧ eqL ks (xs.toList.map .v) (ys.toList.map .v) = some r := by
  cases a <;> cases b <;> simp only [sameK] at h <;> first | (cases h; done) | exact ⟨_, _, rfl, rfl, h⟩
theorem isKeyK_f {ks : List Nat} {a : Value} (h : isKeyK (.f ks) a = true) : ∃ xs : Array Value, a = .agg xs ∧ cellsB ks xs.toList = true := by
  cases a <;> simp only [isKeyK] at h <;> first | (cases h; done) | exact ⟨_, rfl, h⟩
theorem eqC_true {k : Nat} {x y : Value} (h : eqC k (.v x) (.v y) = some true) : x = y := by
  match k with
  | 0 =>
    cases x <;> cases y <;> simp only [eqC] at h <;> first | (cases h; done) | skip
    split at h
    · rename_i hk; subst hk; simp at h; rw [h]
    · cases h
  | 1 => cases x <;> cases y <;> simp only [eqC] at h <;> first | (cases h; done) | (have := (Option.some.inj h); simp at this; rw [this])
  | 2 => cases x <;> cases y <;> simp only [eqC] at h <;> first | (cases h; done) | exact congrArg Value.string (bytes_inj (by simpa using h))
  | k + 3 => cases x <;> cases y <;> simp [eqC] at h
theorem eqL_true : ∀ {ks : List Nat} {xs ys : List Value}, eqL ks (xs.map .v) (ys.map .v) = some true → xs = ys
  | [], [], [], _ => rfl
  | k :: ks, x :: xs, y :: ys, h => by
    simp only [List.map_cons, eqL] at h
    split at h
    · rename_i hc; rw [eqC_true hc, eqL_true h]
    · cases h
    · cases h
  | [], _ :: _, _, h => by simp [eqL] at h
  | [], [], _ :: _, h => by simp [eqL] at h
  | _ :: _, [], _, h => by simp [eqL] at h
  | _ :: _, _ :: _, [], h => by simp [eqL] at h

/-- What the model does with keys of a type. -/
structure KLaw (P : Program) (kt : TypeId) (kd : KD) : Prop where
  chk : ∀ (w : World) (e : Bool) (kv : Value), isKeyK kd kv = true → (Instr.checkKey e 10000 kt kv).run P w = .ok () w
  one : ∀ (kv x : Value), sameK kd kv x = some true → x = kv
  bits : ∀ kv, isKeyK kd kv = true → Instr.sameBits 10000 kv kv = true
  find : ∀ (w : World) (kv : Value) (ms : List MapEntry) (es : List ME) (i : Nat) (r : Option (Nat × ME)), ms.length = es.length → (∀ (j : Nat) (e : MapEntry) (p : ME), ms[j]? = some e → es[j]? = some p → e.key = p.k) → findD kd kv es i = some r →
    (r = none ∧ ∀ f, i = 0 → f = ms → (Instr.findKey kt kv f).run P w = .ok none w) ∨ ∃ j e p, r = some (i + j, p) ∧ ms[j]? = some e ∧ es[j]? = some p ∧ (∀ f, i = 0 → f = ms → (Instr.findKey kt kv f).run P w = .ok (some (i + j, e.val)) w) ∧ sameK kd kv e.key = some true

theorem findP_ok {d : TypeDesc} {k : Value} : ∀ (ms : List MapEntry) (es : List ME) (i : Nat) (r : Option (Nat × ME)), ms.length = es.length → (∀ (j : Nat) (e : MapEntry) (p : ME), ms[j]? = some e → es[j]? = some p → e.key = p.k) →
    findD (.p d) k es i = some r → (r = none ∧ Instr.findNow d k ms i = some none) ∨
      ∃ j e p, r = some (i + j, p) ∧ ms[j]? = some e ∧ es[j]? = some p ∧ Instr.findNow d k ms i = some (some (i + j, e.val)) ∧ sameD d k e.key = some true
  | [], [], i, r, _, _, h => by simp [findD] at h; subst h; exact .inl ⟨rfl, rfl⟩
  | [], _ :: _, _, _, h, _, _ => by simp at h
  | _ :: _, [], _, _, h, _, _ => by simp at h
  | m :: ms, p :: ps, i, r, hl, hk, h => by
    have hkey : m.key = p.k := hk 0 m p rfl rfl
    simp only [findD, sameK] at h
    split at h
    · rename_i hs
      cases h
      refine .inr ⟨0, m, p, rfl, rfl, rfl, ?_, by rw [hkey]; exact hs⟩
      simp [Instr.findNow, ← sameD_eq, hkey, hs]
    · rename_i hs
      rcases findP_ok ms ps (i + 1) r (by simpa using hl) (fun j e q he hq => hk (j + 1) e q (by simpa using he) (by simpa using hq)) h with ⟨h1, h2⟩ | ⟨j, e, v, h1, h2, h3, h4, h5⟩
      · refine .inl ⟨h1, ?_⟩
        simp [Instr.findNow, ← sameD_eq, hkey, hs, h2]
      · refine .inr ⟨j + 1, e, v, by rw [h1]; congr 2; omega, by simpa using h2, by simpa using h3, ?_, h5⟩
        simp [Instr.findNow, ← sameD_eq, hkey, hs, h4]; omega
    · cases h

theorem klaw_p {P : Program} {kt : TypeId} {d : TypeDesc} (hu : P.underlying kt = some d) : KLaw P kt (.p d) where
  chk := fun w e kv h => MapKept.run_checkKey hu (isKeyB_ok h) e 9999
  one := fun kv x h => same_key h
  bits := fun kv h => same_bits h
  find := fun w kv ms es i r hl hk h => by
    rcases findP_ok ms es i r hl hk h with ⟨h1, h2⟩ | ⟨j, e, p, h1, h2, h3, h4, h5⟩
    · exact .inl ⟨h1, fun f hi hf => by subst hi hf; exact MapKept.run_findKey hu h2⟩
    · exact .inr ⟨j, e, p, h1, h2, h3, fun f hi hf => by subst hi hf; exact MapKept.run_findKey hu h4, h5⟩

/-- Keys of several plain cells: the model's '==' and its check. -/
theorem klaw_f {P : Program} {kt : TypeId} {ks : List Nat} (hwide : (match P.underlying kt with | some (.array _ _) | some (.struct _) => true | _ => false) = true)
    (hchk : ∀ (w : World) (e : Bool) (cs : Array Value), cellsB ks cs.toList = true → (Instr.checkKey e 10000 kt (.agg cs)).run P w = .ok () w)
    (heq : ∀ (w : World) (xs ys : Array Value) (r : Bool), eqL ks (xs.toList.map .v) (ys.toList.map .v) = some r → (Op.equal kt (.agg xs) (.agg ys)).run P w = .ok r w) : KLaw P kt (.f ks) where
  chk := fun w e kv h => by
    obtain ⟨cs, rfl, h⟩ := isKeyK_f h
    exact hchk w e _ h
  one := fun kv x h => by
    obtain ⟨xs, ys, rfl, rfl, h⟩ := sameK_f h
    have := eqL_true h
    rw [Array.toList_inj.1 this]
  bits := fun kv h => by
    obtain ⟨cs, rfl, h⟩ := isKeyK_f h
    · have key : ∀ (ks : List Nat) (l : List Value), cellsB ks l = true → ∀ p ∈ l.zip l, (Instr.sameBits 9999 p.1 p.2) = true := by
        intro ks l
        induction l generalizing ks with
        | nil => simp
        | cons a l ih =>
          intro h p hp
          simp only [List.zip_cons_cons, List.mem_cons] at hp
          unfold cellsB at h
          split at h
          · rename_i e; cases e
          · rename_i e; cases e
            rcases hp with rfl | hp
            · simp [Instr.sameBits]
            · exact ih _ h p hp
          · rename_i e; cases e
            rcases hp with rfl | hp
            · simp [Instr.sameBits]
            · exact ih _ h p hp
          · rename_i e; cases e
            rcases hp with rfl | hp
            · rw [Instr.sameBits, bytes_beq]; simp
            · exact ih _ h p hp
          · cases h
      show Instr.sameBits (9999 + 1) (.agg cs) (.agg cs) = true
      simp only [Instr.sameBits, beq_self_eq_true, Bool.true_and, List.all_eq_true]
      exact key ks cs.toList h
  find := fun w kv ms es i r hl hk h => by
    have key : ∀ (ms : List MapEntry) (es : List ME) (i : Nat) (r : Option (Nat × ME)), ms.length = es.length → (∀ (j : Nat) (e : MapEntry) (p : ME), ms[j]? = some e → es[j]? = some p → e.key = p.k) → findD (.f ks) kv es i = some r →
        (r = none ∧ (Instr.findAsking kt kv ms i).run P w = .ok none w) ∨ ∃ j e p, r = some (i + j, p) ∧ ms[j]? = some e ∧ es[j]? = some p ∧ (Instr.findAsking kt kv ms i).run P w = .ok (some (i + j, e.val)) w ∧ sameK (.f ks) kv e.key = some true := by
      intro ms
      induction ms with
      | nil =>
        intro es i r hl _ h
        cases es with
        | nil => simp [findD] at h; subst h; exact .inl ⟨rfl, by simp [Instr.findAsking]⟩
        | cons _ _ => simp at hl
      | cons m ms ih =>
        intro es i r hl hk h
        cases es with
        | nil => simp at hl
        | cons p ps =>
          have hkey : m.key = p.k := hk 0 m p rfl rfl
          have hrun : ∀ b, sameK (.f ks) kv p.k = some b → (Op.equal kt kv m.key).run P w = .ok b w := by
            intro b hb
            rw [hkey]
            obtain ⟨xs, ys, e1, e2, hb⟩ := sameK_f hb
            rw [e1, e2]
            exact heq w _ _ b hb
          simp only [findD] at h
          split at h
          · rename_i hs
            cases h
            refine .inr ⟨0, m, p, rfl, rfl, rfl, ?_, by rw [hkey]; exact hs⟩
            simp [Instr.findAsking, hrun _ hs]
          · rename_i hs
            rcases ih ps (i + 1) r (by simpa using hl) (fun j e q he hq => hk (j + 1) e q (by simpa using he) (by simpa using hq)) h with ⟨h1, h2⟩ | ⟨j, e, v, h1, h2, h3, h4, h5⟩
            · exact .inl ⟨h1, by simp [Instr.findAsking, hrun _ hs, h2]⟩
            · refine .inr ⟨j + 1, e, v, by rw [h1]; congr 2; omega, by simpa using h2, by simpa using h3, ?_, h5⟩
              simp [Instr.findAsking, hrun _ hs, h4]; omega
          · cases h
    rcases key ms es i r hl hk h with ⟨h1, h2⟩ | ⟨j, e, p, h1, h2, h3, h4, h5⟩
    · exact .inl ⟨h1, fun f hi hf => by subst hi hf; rw [run_findKey_eq w hwide]; exact h2⟩
    · exact .inr ⟨j, e, p, h1, h2, h3, fun f hi hf => by subst hi hf; rw [run_findKey_eq w hwide]; exact h4, h5⟩

theorem run_check_one {P : Program} {w : World} {t : TypeId} {k : Nat} {v : Value} (h : plainEq P t = some k) (e : Bool) (n : Nat) (hv : cellsB [k] [v] = true) : (Instr.checkKey e (n + 1) t v).run P w = .ok () w := by
  unfold plainEq at h
  unfold Instr.checkKey
  split at h <;> first | (cases h; done) | skip
  all_goals
    rename_i hu
    simp only [Sem.run_bind, run_underlying hu, Result.andThen_ok]
    cases h
    cases v <;> first | (simp [cellsB] at hv; done) | rfl

theorem cellsB_cons {k : Nat} {ks : List Nat} {l : List Value} (h : cellsB (k :: ks) l = true) : ∃ v l', l = v :: l' ∧ cellsB [k] [v] = true ∧ cellsB ks l' = true := by
  cases l with
  | nil => unfold cellsB at h; simp at h
  | cons v l =>
    refine ⟨v, l, rfl, ?_⟩
    match k with
    | 0 => cases v <;> simp_all [cellsB]
    | 1 => cases v <;> simp_all [cellsB]
    | 2 => cases v <;> simp_all [cellsB]
    | k + 3 => cases v <;> simp [cellsB] at h

theorem plain_agg {P : Program} {t : TypeId} {k : Nat} (h : plainEq P t = some k) (w : World) : (isAgg t).run P w = .ok false w := by
  unfold plainEq at h
  simp only [isAgg, Sem.run_bind]
  split at h <;> first | (rename_i hu; rw [run_underlying hu]; rfl) | cases h

theorem run_equal_one {P : Program} {w : World} {t : TypeId} {k : Nat} {x y : Value} {b : Bool} (hp : plainEq P t = some k) (h : eqC k (.v x) (.v y) = some b) (d : Nat) : (Op.equalIn (d + 1) t x y).run P w = .ok b w := by
  unfold plainEq at hp
  unfold eqC at h
  split at h
  · rename_i e1 e2; cases e1; cases e2
    split at h
    · cases h
      rename_i hk
      subst hk
      split at hp <;> cases hp
      rename_i hu; exact run_equalIn_int w d _ _ _ _ _ hu
    · cases h
  · rename_i e1 e2; cases e1; cases e2
    cases h
    split at hp <;> cases hp
    rename_i hu; exact run_equalIn_bool' w d _ _ _ hu
  · rename_i e1 e2; cases e1; cases e2
    cases h
    split at hp <;> cases hp
    rename_i hu; exact run_equalIn_string w d _ _ _ hu
  · cases h

/-- A type's keys. -/
theorem klaw {P : Program} {kt : TypeId} {kd : KD} (h : keyKd P kt = some kd) : KLaw P kt kd := by
  unfold keyKd at h
  split at h
  · rename_i fs hu
    split at h
    rotate_left
    · cases h
    rename_i hst
    obtain ⟨ks, hf, rfl⟩ := Option.map_eq_some_iff.1 h
    refine klaw_f (by rw [hu]) (fun w e cs hc => ?_) (fun w xs ys r hr => ?_)
    · show (Instr.checkKey e (9999 + 1) kt (.agg cs)).run P w = .ok () w
      rw [Instr.checkKey]
      simp only [Sem.run_bind, run_underlying hu, Result.andThen_ok]
      rw [← Array.forIn_toList]
      have key : ∀ (L : List Field) (ks : List Nat) (off : Nat), flatEq P off L = some ks → cellsB ks (cs.toList.drop off) = true →
          (forIn L PUnit.unit (fun (f : Field) (_ : PUnit) => (do
            if f.name ≠ "_" then
              Instr.checkKey e 9999 f.type (← part f.type cs f.offset)
              pure (ForInStep.yield PUnit.unit)
            else pure (ForInStep.yield PUnit.unit) : Sem (ForInStep PUnit)))).run P w = .ok PUnit.unit w := by
        intro L
        induction L with
        | nil => intro ks off _ _; simp
        | cons f L ih =>
          intro ks off hk hc
          simp only [flatEq] at hk
          split at hk
          rotate_left
          · cases hk
          rename_i hno
          simp only [Bool.and_eq_true, bne_iff_ne, ne_eq, beq_iff_eq] at hno
          obtain ⟨hn, ho⟩ := hno
          obtain ⟨k, hp, hk⟩ := Option.bind_eq_some_iff.1 hk
          obtain ⟨ks', hrest, rfl⟩ := Option.map_eq_some_iff.1 hk
          obtain ⟨v, l', e1, hv, hl⟩ := cellsB_cons hc
          have hlt : off < cs.toList.length := by
            rcases Nat.lt_or_ge off cs.toList.length with h1 | h1
            · exact h1
            · rw [List.drop_eq_nil_of_le h1] at e1; cases e1
          rw [List.drop_eq_getElem_cons hlt] at e1
          injection e1 with e1 e2
          have px : (part f.type cs f.offset).run P w = .ok v w := by
            subst ho
            simp at e1 hlt
            simp [part, plain_agg hp w, hlt, e1]
          have pc := run_check_one (w := w) hp e 9998 hv
          rw [← e2] at hl
          simp only [List.forIn_cons, Sem.run_bind, hn, ne_eq, not_false_eq_true, if_true, Result.andThen_ok, px, pc, Sem.run_pure]
          exact ih ks' (off + 1) hrest hl
      have := key fs.toList ks 0 hf (by simpa using hc)
      rw [this]; rfl
    · have hfs : P.fieldsOf kt = fs := by simp [Program.fieldsOf, hu]
      have he := eqL_ok (w := w) (β := fun _ => none) (P := P) (al := fun _ => True) 9998 fs.toList ks 0 xs.toList ys.toList (xs.toList.map .v) (ys.toList.map .v) r hf (by simpa using hr) (by simp) (by simp)
        (fun j u d hu hd => by simp only [List.getElem?_map, hu, Option.map_some, Option.some.injEq] at hd; subst hd; exact .imm _ _ (.v u)) (fun j u d hu hd => by simp only [List.getElem?_map, hu, Option.map_some, Option.some.injEq] at hd; subst hd; exact .imm _ _ (.v u))
      have h3 := run_equalIn_struct (P := P) w 9999 kt xs ys (by rw [hfs]; exact hu) hst
      rw [hfs] at h3
      exact h3.trans (by simpa using he)
  · rename_i n el hu
    split at h
    rotate_left
    · cases h
    rename_i hone
    obtain ⟨k, hp, rfl⟩ := Option.map_eq_some_iff.1 h
    obtain ⟨_, hsz, inf, hi, hi1⟩ := run_tkind_one hone (default : World)
    have hsz : ∀ w, (sizeOf el).run P w = .ok 1 w := fun w => (run_tkind_one hone w).2.1
    have px : ∀ (w : World) (cs : Array Value) (off : Nat) (v : Value), cs[off]? = some v → (part el cs off).run P w = .ok v w := fun w cs off v hv => by simp [part, plain_agg hp w, hv]
    refine klaw_f (by rw [hu]) (fun w e cs hc => ?_) (fun w xs ys r hr => ?_)
    · show (Instr.checkKey e (9999 + 1) kt (.agg cs)).run P w = .ok () w
      rw [Instr.checkKey]
      simp only [Sem.run_bind, run_underlying hu, Result.andThen_ok]
      simp only [Std.Legacy.Range.forIn_eq_forIn_range', Std.Legacy.Range.size, Nat.sub_zero, Nat.add_one_sub_one, Nat.div_one]
      have key : ∀ (m off : Nat), cellsB (List.replicate m k) (cs.toList.drop off) = true →
          (forIn (List.range' off m) PUnit.unit (fun (i : Nat) (_ : PUnit) => (do
            Instr.checkKey e 9999 el (← part el cs (i * (← sizeOf el)))
            pure (ForInStep.yield PUnit.unit) : Sem (ForInStep PUnit)))).run P w = .ok PUnit.unit w := by
        intro m
        induction m with
        | zero => intro off _; simp
        | succ m ih =>
          intro off hc
          rw [List.replicate_succ] at hc
          obtain ⟨v, l', e1, hv, hl⟩ := cellsB_cons hc
          have hlt : off < cs.toList.length := by
            rcases Nat.lt_or_ge off cs.toList.length with h1 | h1
            · exact h1
            · rw [List.drop_eq_nil_of_le h1] at e1; cases e1
          rw [List.drop_eq_getElem_cons hlt] at e1
          injection e1 with e1 e2
          have hcv : cs[off]? = some v := by
            rw [← e1]; simp at hlt; simp [hlt]
          have pc := run_check_one (w := w) hp e 9998 hv
          rw [← e2] at hl
          rw [List.range'_succ]
          simp only [List.forIn_cons, Sem.run_bind, hsz, Result.andThen_ok, Nat.mul_one, px w cs off v hcv, pc, Sem.run_pure]
          exact ih (off + 1) hl
      have := key n 0 (by simpa using hc)
      rw [this]; rfl
    · have hitems : ∀ (m off : Nat), eqL (List.replicate m k) ((xs.toList.drop off).map .v) ((ys.toList.drop off).map .v) = some r → (Op.eqItems 9999 el 1 xs ys (List.range' off m)).run P w = .ok r w := by
        intro m
        induction m with
        | zero =>
          intro off h
          simp only [List.replicate_zero] at h
          unfold eqL at h
          split at h <;> simp_all [Op.eqItems]
        | succ m ih =>
          intro off h
          rw [List.replicate_succ] at h
          have hc : off < xs.toList.length := by
            rcases Nat.lt_or_ge off xs.toList.length with h1 | h1
            · exact h1
            · rw [List.drop_eq_nil_of_le h1] at h; simp [eqL] at h
          have hd : off < ys.toList.length := by
            rcases Nat.lt_or_ge off ys.toList.length with h1 | h1
            · exact h1
            · rw [List.drop_eq_nil_of_le h1] at h; simp [eqL] at h
          rw [List.drop_eq_getElem_cons hc, List.drop_eq_getElem_cons hd] at h
          simp only [List.map_cons, eqL] at h
          have gx := px w xs off xs.toList[off] (by simp at hc; simp [hc])
          have gy := px w ys off ys.toList[off] (by simp at hd; simp [hd])
          rw [List.range'_succ]
          cases hq : eqC k (.v xs.toList[off]) (.v ys.toList[off]) with
          | none => rw [hq] at h; cases h
          | some b =>
            rw [hq] at h
            have pe := run_equal_one (w := w) hp hq 9998
            simp only [Op.eqItems, Sem.run_bind, Nat.mul_one, gx, gy, pe, Result.andThen_ok]
            cases b
            · simp at h; subst h; simp
            · simpa using ih (off + 1) h
      show (Op.equalIn (9999 + 1) kt (.agg xs) (.agg ys)).run P w = .ok r w
      rw [run_equalIn_array w 9999 xs ys hu hi]
      have hce : P.cellsOf el = 1 := by unfold Program.cellsOf; simp [hi, hi1]
      rw [hce, List.range_eq_range']
      exact hitems n 0 (by simpa using hr)
  · rename_i d hn1 hn2 hu
    cases h
    exact klaw_p hu
  · cases h

theorem unvL_ok {P : Program} {w : World} {al : Nat → Prop} {β : Nat → Option Nat} : ∀ {us : List Value} {cs : List DV} {l : List Value}, unvL cs = some l → us.length = cs.length → (∀ (j : Nat) (u : Value) (d : DV), us[j]? = some u → cs[j]? = some d → Rel P w al β u d) → us = l
  | us, [], l, h, hl, _ => by simp [unvL] at h; subst h; simpa using hl
  | [], _ :: _, _, _, hl, _ => by simp at hl
  | u :: us, c :: cs, l, h, hl, hr => by
    unfold unvL at h
    split at h
    · rename_i e; cases e
    · rename_i x l' e; cases e
      split at h
      · obtain ⟨r, hr', rfl⟩ := Option.map_eq_some_iff.1 h
        have e1 : u = x := rel_v (hr 0 u _ rfl rfl)
        have e2 : us = r := unvL_ok hr' (by simpa using hl) fun j u d hu hd => hr (j + 1) u d (by simpa using hu) (by simpa using hd)
        rw [e1, e2]
      · cases h
    · cases h
theorem kv_ok {P : Program} {w : World} {al : Nat → Prop} {β : Nat → Option Nat} {x kv : Value} {d : DV} (h : Rel P w al β x d) (hk : kvOf d = some kv) : x = kv := by
  unfold kvOf at hk
  split at hk
  · cases hk; exact rel_v h
  · rename_i cs
    obtain ⟨l, hl, rfl⟩ := Option.map_eq_some_iff.1 hk
    obtain ⟨vs, rfl, h1, _, h2⟩ := rel_agg h
    rw [unvL_ok hl h1 h2]
  · cases hk

section ops
variable {C : Ctx} {U : Nat → Prop} {s : DS} {β : Nat → Option Nat} {a : Act} {w : World} {o : Oper} {d : DV} {s' : DS} {nid : Nat}

theorem HoldsB.mapo {id b ck : Nat} {es : List ME} (hs : HoldsB C U s β a w) (hb : β id = some b) (ho : s.ho id = some (.mapo ck es)) :
    ∃ ms, w.heap[b]? = some (.map ms ck) ∧ ms.size = es.length ∧ ∀ (j : Nat) (e : MapEntry) (p : ME), ms[j]? = some e → es[j]? = some p → e.key = p.k ∧ e.born = p.b ∧ WV C U (s.vw C) β w e.val p.v := by
  obtain ⟨b', ms, hb', h1, h2, h4⟩ := hs.hh.hp id _ (vw_some ho)
  rw [hb] at hb'; cases hb'
  exact ⟨ms, h1, h2, h4⟩

theorem ok_mkm {t : TypeId} (ho : o.op = .makeMap t none) (hs : HoldsB C U s β a w) (hn : ¬ U nid) : OpOk C (Un U nid) a w o (.mp nid) (s.upd nid (.lay (.mapo 0 []))) := by
  have hbl := below_alloc w (.map #[] 0)
  have hf := (hs.turned (β' := upd β nid (some w.heap.size)) (w' := w.alloc (.map #[] 0)) hn none (fun _ h => by cases h) (.mapo 0 []) (fun b hb _ => hbl.block b hb) hbl.os hbl.tape hbl.output hbl.size (fun j hj _ => upd_other β _ hj) (fun _ h => by cases h)
    (fun b hb => by rw [upd_same] at hb; cases hb; exact ⟨.inr (Nat.le_refl _), by simp⟩) (fun _ => ⟨_, #[], upd_same _ _ _, heap_alloc_new w _, rfl, by simp⟩)).1
  refine ⟨.value (.map (some w.heap.size)), _, _, _, ?_, .inl rfl, hf, wv_new (.mp nid _ (by simp)) rfl⟩
  simp [execOp, ho, Instr.makeMap]

theorem lkRes_rel {V : Nat → Option DObj} {ok b : Bool} {x : Value} {v : DV} (h : WV C U V β w x v) : WV C U V β w (if ok then .tuple #[x, .bool b] else x) (lkRes ok v b) := by
  unfold lkRes
  cases ok
  · exact h
  · refine ⟨fun id hi => ?_, fun ha => .tup [x, .bool b] _ rfl fun j u d hu hd => ?_, TP.of_wv (C := C) (U := U) (V := V) (β := β) (w := w) (us := [x, .bool b]) rfl fun j u d hu hd => ?_⟩
    · simp [DV.refs, DV.refsL] at hi; exact h.1 id hi
    · match j with
      | 0 => simp at hu hd; subst hu hd; exact h.2.1 fun id hi => ha id (by simp [DV.refs, DV.refsL, hi])
      | 1 => simp at hu hd; subst hu hd; exact .imm _ _ (.v _)
      | j + 2 => simp at hu
    · match j with
      | 0 => simp at hu hd; subst hu hd; exact h
      | 1 => simp at hu hd; subst hu hd; exact WV.v _
      | j + 2 => simp at hu

theorem run_zero {P : Program} {et : TypeId} {z : Value} (hz : (P.info? et).bind (·.zero) = some z) (w : World) : (zeroValue et : Sem Value).run P w = .ok z w := by
  obtain ⟨i, hi, hz'⟩ := Option.bind_eq_some_iff.1 hz
  simp [zeroValue, typeInfo, hi, hz']

theorem ok_lkp {t kt et : TypeId} {kd : KD} {x k : Operand} {ok : Bool} {kv z : Value} (ho : o.op = .lookup t x k ok) (ht : C.P.underlying t = some (.map kt et)) (hkd : keyKd C.P kt = some kd)
    (hz : (C.P.info? et).bind (·.zero) = some z) (hs : HoldsB C U s β a w) (hk : kvOf (s.ev k) = some kv) (hkey : isKeyK kd kv = true) :
    (s.ev x = .v (.map none) → OpOk C U a w o (lkRes ok (.v z) false) s) ∧
    (∀ id ck es r, s.ev x = .mp id → s.ho id = some (.mapo ck es) → findD kd kv es 0 = some r → OpOk C U a w o (match r with | some p => lkRes ok p.2.v true | none => lkRes ok (.v z) false) s) := by
  have hke : a.eval k = kv := kv_ok (hs.ev k) hk
  have L := klaw hkd
  have hzero := run_zero hz w
  have hck : ∀ e, (Instr.checkKey e 10000 kt kv).run C.P w = .ok () w := fun e => L.chk w e kv hkey
  refine ⟨fun hx => ?_, fun id ck es r hx hid hf => ?_⟩
  · have hxe : a.eval x = .map none := by have := hs.ev x; rw [hx] at this; exact rel_v this
    refine .same hs (x := if ok then .tuple #[z, .bool false] else z) ?_ (lkRes_rel (WV.v z))
    rcases L.find w kv [] [] 0 none rfl (by simp) rfl with ⟨_, h2⟩ | ⟨j, e, p, h1, _⟩
    · have hfk := h2 [] rfl rfl
      simp [execOp, ho, Instr.lookup, run_underlying ht, hxe, hke, hck, hfk, hzero, Result.andThen]
    · cases h1
  · have h1 := hs.ev x
    rw [hx] at h1
    obtain ⟨b, hxe, hb⟩ := rel_mp h1
    obtain ⟨ms, hm, hsz, hrel⟩ := hs.mapo hb hid
    have hg : (getObj b).run C.P w = .ok (.map ms ck) w := MapKept.run_getObj_map hm
    rcases L.find w kv ms.toList es 0 r (by simpa using hsz) (fun j e p he hp => (hrel j e p (by simpa using he) hp).1) hf with ⟨rfl, h2⟩ | ⟨j, e, v, rfl, h2, h3, h4, _⟩
    · refine .same hs (x := if ok then .tuple #[z, .bool false] else z) ?_ (lkRes_rel (WV.v z))
      have hfk := h2 _ rfl rfl
      simp [execOp, ho, Instr.lookup, run_underlying ht, hxe, hke, hck, hg, hfk, hzero, Result.andThen]
    · refine .same hs (x := if ok then .tuple #[e.val, .bool true] else e.val) ?_ (lkRes_rel (hrel j e _ (by simpa using h2) h3).2.2)
      have hfk := h4 _ rfl rfl
      simp [execOp, ho, Instr.lookup, run_underlying ht, hxe, hke, hck, hg, hfk, Result.andThen]

theorem ok_lnm {t kt et : TypeId} {c : Call} {x : Operand} (ho : o.op = .call c) (hc : c.callee = .builtin .len) (hargs : c.args.toList = [x]) (ht : c.argTypes[0]? = some t) (hu : C.P.underlying t = some (.map kt et)) (hs : HoldsB C U s β a w) :
    (s.ev x = .v (.map none) → OpOk C U a w o (.v (.int .i64 0)) s) ∧ (∀ id ck es, s.ev x = .mp id → s.ho id = some (.mapo ck es) → OpOk C U a w o (.v (.int .i64 es.length)) s) := by
  have hA : c.args = #[x] := by apply Array.ext'; simpa using hargs
  refine ⟨fun hx => ?_, fun id ck es hx hid => ?_⟩
  · have hxe : a.eval x = .map none := by have := hs.ev x; rw [hx] at this; exact rel_v this
    refine .same hs (x := .int .i64 0) ?_ (WV.v _)
    simp [execOp, ho, resolve, hc, hA, invoke, builtin, Builtin.len_, ht, hxe, run_underlying hu, goInt]
  · have h1 := hs.ev x
    rw [hx] at h1
    obtain ⟨b, hxe, hb⟩ := rel_mp h1
    obtain ⟨ms, hm, hsz, _⟩ := hs.mapo hb hid
    have hg : (getObj b).run C.P w = .ok (.map ms ck) w := MapKept.run_getObj_map hm
    refine .same hs (x := .int .i64 es.length) ?_ (WV.v _)
    simp [execOp, ho, resolve, hc, hA, invoke, builtin, Builtin.len_, ht, hxe, run_underlying hu, hg, goInt, hsz, Result.andThen]

/-- The map of an object is written. -/
theorem ok_mapw {id b ck ck' : Nat} {ms ms' : Array MapEntry} {es es' : List ME} {nx : Next} {x : Value} (hs : HoldsB C U s β a w) (hb : β id = some b) (hid : s.ho id = some (.mapo ck es)) (hm : w.heap[b]? = some (.map ms ck))
    (h1 : ms'.size = es'.length)
    (h3 : ∀ (V' : Nat → Option DObj) (w' : World), (∀ x d, WV C U (s.vw C) β w x d → WV C U V' β w' x d) → ∀ (j : Nat) (e : MapEntry) (p : ME), ms'[j]? = some e → es'[j]? = some p → e.key = p.k ∧ e.born = p.b ∧ WV C U V' β w' e.val p.v)
    (hrun : (execOp a.eval o).run C.P w = .ok nx { w with heap := w.heap.setIfInBounds b (.map ms' ck') }) (hnx : nx = .value x ∨ (nx = .skip ∧ x = undef)) (hd : WV C U (s.vw C) β w x d) : OpOk C U a w o d (s.upd nid (.wr id (.mapo ck' es'))) := by
  have hblt : b < w.heap.size := (Array.getElem?_eq_some_iff.1 hm).1
  have hw := hs.wrote nid id b (.mapo ck' es') (w' := { w with heap := w.heap.setIfInBounds b (.map ms' ck') }) hb (by rw [hid]; rfl) (fun k hk => by simp [Array.getElem?_setIfInBounds_ne (Ne.symm hk)]) (by simp) rfl rfl rfl
    (fun c T hc => by rw [hm] at hc; cases hc) (fun hrel' => ⟨b, ms', hb, by simp [hblt], h1, h3 _ _ hrel'⟩)
  exact ⟨nx, _, β, x, hrun, hnx, hw.1, hw.2 _ _ hd⟩

theorem ok_mup {t kt et : TypeId} {kd : KD} {x k y : Operand} {kv : Value} {id ck ck' : Nat} {es es' : List ME} (ho : o.op = .mapUpdate t x k y ∨ o.op = .insert t x k y) (ht : C.P.underlying t = some (.map kt et)) (hkd : keyKd C.P kt = some kd)
    (hs : HoldsB C U s β a w) (hk : kvOf (s.ev k) = some kv) (hkey : isKeyK kd kv = true) (hx : s.ev x = .mp id) (hid : s.ho id = some (.mapo ck es)) (hp : putD kd kv (s.ev y) ck es = some (ck', es')) : OpOk C U a w o .any (s.upd nid (.wr id (.mapo ck' es'))) := by
  have hke : a.eval k = kv := kv_ok (hs.ev k) hk
  have L := klaw hkd
  have hck : ∀ e, (Instr.checkKey e 10000 kt kv).run C.P w = .ok () w := fun e => L.chk w e kv hkey
  have h1 := hs.ev x
  rw [hx] at h1
  obtain ⟨b, hxe, hb⟩ := rel_mp h1
  obtain ⟨ms, hm, hsz, hrel⟩ := hs.mapo hb hid
  have hg : (getObj b).run C.P w = .ok (.map ms ck) w := MapKept.run_getObj_map hm
  have hset : ∀ o', (setObj b o').run C.P w = .ok () { w with heap := w.heap.setIfInBounds b o' } := fun o' => MapKept.run_setObj_map o' hm
  have hrunU : ∀ w', (Instr.mapUpdate t (a.eval x) (a.eval k) (a.eval y)).run C.P w = .ok () w' → (execOp a.eval o).run C.P w = .ok .skip w' := fun w' h => by
    rcases ho with ho | ho <;> simp [execOp, ho, h]
  unfold putD at hp
  split at hp
  · rename_i i e hf
    cases hp
    rcases L.find w kv ms.toList es 0 _ (by simpa using hsz) (fun j e p he hp => (hrel j e p (by simpa using he) hp).1) hf with ⟨h2, _⟩ | ⟨j, e0, v', h2, h3, h4, h5, h6⟩
    · cases h2
    · simp only [Nat.zero_add, Option.some.injEq, Prod.mk.injEq] at h2
      obtain ⟨rfl, rfl⟩ := h2
      have hek : e0.key = kv := L.one _ _ h6
      have hje : ms[i]? = some e0 := by simpa using h3
      have hilt : i < ms.size := (Array.getElem?_eq_some_iff.1 hje).1
      refine ok_mapw (ms' := ms.modify i fun e => { e with key := kv, val := a.eval y }) (x := undef) hs hb hid hm (by simpa using hsz) (fun V' w' hmono j e' p he' hp' => ?_) (hrunU _ ?_) (.inr ⟨rfl, rfl⟩) WV.any
      · rw [Array.getElem?_modify] at he'
        rw [List.getElem?_set] at hp'
        by_cases hij : i = j
        · subst hij
          rw [if_pos rfl] at he' hp'
          split at hp'
          · cases hp'
            rw [hje] at he'
            simp only [Option.map_some, Option.some.injEq] at he'
            subst he'
            exact ⟨rfl, (hrel i e0 e hje h4).2.1, hmono _ _ (hs.evw y)⟩
          · cases hp'
        · rw [if_neg hij] at he' hp'
          have := hrel j e' p he' hp'
          exact ⟨this.1, this.2.1, hmono _ _ this.2.2⟩
      · have hfk := h5 _ rfl rfl
        simp [Instr.mapUpdate, run_underlying ht, hxe, hke, hck, hg, hfk, hje, hek, Instr.keyThatStays, L.bits kv hkey, hset, Result.andThen]
  · rename_i hf
    cases hp
    rcases L.find w kv ms.toList es 0 _ (by simpa using hsz) (fun j e p he hp => (hrel j e p (by simpa using he) hp).1) hf with ⟨_, h2⟩ | ⟨j, e, v', h2, _⟩
    · refine ok_mapw (ms' := ms.push { key := kv, val := a.eval y, born := ck }) (x := undef) hs hb hid hm (by simp [hsz]) (fun V' w' hmono j e' p he' hp' => ?_) (hrunU _ ?_) (.inr ⟨rfl, rfl⟩) WV.any
      · rw [Array.getElem?_push] at he'
        by_cases hj : j = ms.size
        · subst hj
          rw [if_pos rfl] at he'
          cases he'
          rw [hsz] at hp'
          simp at hp'
          subst hp'
          exact ⟨rfl, rfl, hmono _ _ (hs.evw y)⟩
        · rw [if_neg hj] at he'
          have hjl : j < ms.size := (Array.getElem?_eq_some_iff.1 he').1
          rw [List.getElem?_append_left (by omega)] at hp'
          have := hrel j e' p he' hp'
          exact ⟨this.1, this.2.1, hmono _ _ this.2.2⟩
      · have hfk := h2 _ rfl rfl
        simp [Instr.mapUpdate, run_underlying ht, hxe, hke, hck, hg, hfk, hset, Result.andThen]
    · cases h2
  · cases hp

theorem wv_two {V : Nat → Option DObj} {x y : Value} {v : DV} (h : WV C U V β w x v) : WV C U V β w (.tuple #[x, y]) (.tup [v, .v y]) := by
  refine ⟨fun id hi => ?_, fun ha => .tup [x, y] _ rfl fun j u d hu hd => ?_, TP.of_wv (C := C) (U := U) (V := V) (β := β) (w := w) (us := [x, y]) rfl fun j u d hu hd => ?_⟩
  · simp [DV.refs, DV.refsL] at hi; exact h.1 id hi
  · match j with
    | 0 => simp at hu hd; subst hu hd; exact h.2.1 fun id hi => ha id (by simp [DV.refs, DV.refsL, hi])
    | 1 => simp at hu hd; subst hu hd; exact .imm _ _ (.v _)
    | j + 2 => simp at hu
  · match j with
    | 0 => simp at hu hd; subst hu hd; exact h
    | 1 => simp at hu hd; subst hu hd; exact WV.v _
    | j + 2 => simp at hu

/-- 'm[k] op= ..': the entry is there, or is made. -/
theorem ok_men {t kt et : TypeId} {kd : KD} {x k : Operand} {kv z : Value} {id ck : Nat} {es : List ME} {r : Option (Nat × ME)} (ho : o.op = .mapEntry t x k) (ht : C.P.underlying t = some (.map kt et)) (hkd : keyKd C.P kt = some kd) (hz : (C.P.info? et).bind (·.zero) = some z)
    (hs : HoldsB C U s β a w) (hk : kvOf (s.ev k) = some kv) (hkey : isKeyK kd kv = true) (hx : s.ev x = .mp id) (hid : s.ho id = some (.mapo ck es)) (hf : findD kd kv es 0 = some r) :
    (∀ p, r = some p → OpOk C U a w o (.tup [p.2.v, .v (.int .i64 p.2.b)]) (s.upd nid (.wr id (.mapo ck es)))) ∧ (r = none → OpOk C U a w o (.tup [.v z, .v (.int .i64 ck)]) (s.upd nid (.wr id (.mapo (ck + 1) (es ++ [⟨kv, .v z, ck⟩]))))) := by
  have hke : a.eval k = kv := kv_ok (hs.ev k) hk
  have L := klaw hkd
  have hck : ∀ e, (Instr.checkKey e 10000 kt kv).run C.P w = .ok () w := fun e => L.chk w e kv hkey
  have h1 := hs.ev x
  rw [hx] at h1
  obtain ⟨b, hxe, hb⟩ := rel_mp h1
  obtain ⟨ms, hm, hsz, hrel⟩ := hs.mapo hb hid
  have hg : (getObj b).run C.P w = .ok (.map ms ck) w := MapKept.run_getObj_map hm
  have hset : ∀ o', (setObj b o').run C.P w = .ok () { w with heap := w.heap.setIfInBounds b o' } := fun o' => MapKept.run_setObj_map o' hm
  have hzero := run_zero hz w
  rcases L.find w kv ms.toList es 0 _ (by simpa using hsz) (fun j e p he hp => (hrel j e p (by simpa using he) hp).1) hf with ⟨rfl, h2⟩ | ⟨i, e, p, rfl, h3, h4, h5, h6⟩
  · refine ⟨fun _ h => (by cases h), fun _ => ?_⟩
    refine ok_mapw (ms' := ms.push { key := kv, val := z, born := ck }) (x := .tuple #[z, .int .i64 ck]) hs hb hid hm (by simp [hsz]) (fun V' w' hmono j e' p he' hp' => ?_) ?_ (.inl rfl) (wv_two (WV.v z))
    · rw [Array.getElem?_push] at he'
      by_cases hj : j = ms.size
      · subst hj
        rw [if_pos rfl] at he'
        cases he'
        rw [hsz] at hp'
        simp at hp'
        subst hp'
        exact ⟨rfl, rfl, WV.v z⟩
      · rw [if_neg hj] at he'
        have hjl : j < ms.size := (Array.getElem?_eq_some_iff.1 he').1
        rw [List.getElem?_append_left (by omega)] at hp'
        have := hrel j e' p he' hp'
        exact ⟨this.1, this.2.1, hmono _ _ this.2.2⟩
    · have hfk := h2 _ rfl rfl
      simp [execOp, ho, Instr.mapEntry, run_underlying ht, hxe, hke, hck, hg, hfk, hset, hzero, goInt, Result.andThen]
  · refine ⟨fun q hq => ?_, fun h => (by cases h)⟩
    cases hq
    simp only [Nat.zero_add]
    have hek : e.key = kv := L.one _ _ h6
    have hje : ms[i]? = some e := by simpa using h3
    have hr0 := hrel i e p hje h4
    refine ok_mapw (ms' := ms.modify i fun e => { e with key := kv }) (x := .tuple #[e.val, .int .i64 p.b]) hs hb hid hm (by simpa using hsz) (fun V' w' hmono j e' p' he' hp' => ?_) ?_ (.inl rfl) (wv_two hr0.2.2)
    · rw [Array.getElem?_modify] at he'
      by_cases hij : i = j
      · subst hij
        rw [if_pos rfl, hje] at he'
        simp only [Option.map_some, Option.some.injEq] at he'
        subst he'
        rw [h4] at hp'
        cases hp'
        exact ⟨by simp only; rw [← hek]; exact hr0.1, hr0.2.1, hmono _ _ hr0.2.2⟩
      · rw [if_neg hij] at he'
        have := hrel j e' p' he' hp'
        exact ⟨this.1, this.2.1, hmono _ _ this.2.2⟩
    · have hfk := h5 _ rfl rfl
      simp [execOp, ho, Instr.mapEntry, run_underlying ht, hxe, hke, hck, hg, hfk, hje, hek, Instr.keyThatStays, L.bits kv hkey, hset, goInt, hr0.2.1, Result.andThen]

theorem findB_ok {n : Int} : ∀ (es : List ME) (ms : List MapEntry) (i j : Nat), ms.length = es.length → (∀ (j : Nat) (e : MapEntry) (p : ME), ms[j]? = some e → es[j]? = some p → e.born = p.b) → findB n es i = some j → ∃ k, j = i + k ∧ ms.findIdx? (fun e => (e.born : Int) == n) = some k ∧ k < ms.length
  | [], _, _, _, _, _, h => by simp [findB] at h
  | _ :: _, [], _, _, hl, _, _ => by simp at hl
  | p :: ps, m :: ms, i, j, hl, hr, h => by
    have h0 : m.born = p.b := hr 0 m p rfl rfl
    simp only [findB] at h
    split at h
    · rename_i hp
      cases h
      exact ⟨0, rfl, by rw [List.findIdx?_cons, h0, if_pos hp], by simp⟩
    · rename_i hp
      obtain ⟨k, rfl, h2, h3⟩ := findB_ok ps ms (i + 1) j (by simpa using hl) (fun j e p he hp => hr (j + 1) e p (by simpa using he) (by simpa using hp)) h
      exact ⟨k + 1, by omega, by rw [List.findIdx?_cons, h0, if_neg hp, h2]; rfl, by simp; omega⟩

theorem ok_mes {t : TypeId} {x st y : Operand} {n : Int} {id ck i : Nat} {es : List ME} (ho : o.op = .entryStore t x st y) (hs : HoldsB C U s β a w) (hx : s.ev x = .mp id) (hst : intD (s.ev st) = some n) (hid : s.ho id = some (.mapo ck es)) (hf : findB n es 0 = some i) :
    OpOk C U a w o .any (s.upd nid (.wr id (.mapo ck (es.modify i fun e => { e with v := s.ev y })))) := by
  have h1 := hs.ev x
  rw [hx] at h1
  obtain ⟨b, hxe, hb⟩ := rel_mp h1
  obtain ⟨kk, hst'⟩ := intD_ok (hs.ev st) hst
  obtain ⟨ms, hm, hsz, hrel⟩ := hs.mapo hb hid
  have hg : (getObj b).run C.P w = .ok (.map ms ck) w := MapKept.run_getObj_map hm
  have hset : ∀ o', (setObj b o').run C.P w = .ok () { w with heap := w.heap.setIfInBounds b o' } := fun o' => MapKept.run_setObj_map o' hm
  obtain ⟨k, hk, h2, h3⟩ := findB_ok es ms.toList 0 i (by simpa using hsz) (fun j e p he hp => (hrel j e p (by simpa using he) hp).2.1) hf
  obtain rfl : i = k := by omega
  have hfi : ms.findIdx? (fun e => (e.born : Int) == n) = some i := by
    obtain ⟨l⟩ := ms
    simpa using h2
  refine ok_mapw (ms' := ms.modify i fun e => { e with val := a.eval y }) (x := undef) hs hb hid hm (by simpa using hsz) (fun V' w' hmono j e' p he' hp' => ?_) ?_ (.inr ⟨rfl, rfl⟩) WV.any
  · rw [Array.getElem?_modify] at he'
    rw [List.getElem?_modify] at hp'
    by_cases hij : i = j
    · subst hij
      rw [if_pos rfl] at he'
      obtain ⟨e0, he0, rfl⟩ := Option.map_eq_some_iff.1 he'
      obtain ⟨p0, hp0, rfl⟩ := Option.map_eq_some_iff.1 hp'
      simp only [if_true]
      have := hrel i e0 p0 he0 hp0
      exact ⟨this.1, this.2.1, hmono _ _ (hs.evw y)⟩
    · rw [if_neg hij] at he'
      obtain ⟨p0, hp0, rfl⟩ := Option.map_eq_some_iff.1 hp'
      simp only [hij, if_false]
      have := hrel j e' p0 he' hp0
      exact ⟨this.1, this.2.1, hmono _ _ this.2.2⟩
  · simp [execOp, ho, Instr.entryStore, hxe, hst', asInt, asIntOf, hg, hfi, hset, Result.andThen]
end ops

end Go.DD
