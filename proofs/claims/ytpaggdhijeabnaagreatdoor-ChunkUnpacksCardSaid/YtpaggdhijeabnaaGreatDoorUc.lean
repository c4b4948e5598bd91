/- Maps among the own objects: made, read, written, counted. Keys: bools, integers, strings. -/
import Derived.Test.YtpaggdhijeabnaaGreatDoorUb
import Derived.MapKept
import Derived.ChangeKeysEq
import Derived.WideKeyRuns
import Derived.Tactics
import Derived.OrdersIn
import Derived.OwnWalkIn
import Derived.RangeFuncNested
import Derived.RangeFuncLeaves
namespace Go.DD
open Go.RowKit (Below)

theorem isKeyB_ok {d : TypeDesc} {v : Value} (h : isKeyB d v = true) : MapKept.IsKey d v := by
  cases d <;> cases v <;> simp_all [isKeyB, MapKept.IsKey]

theorem bytes_beq (a b : ByteArray) : (a == b) = (a.data.toList == b.data.toList) := by
  obtain ⟨x⟩ := a
  obtain ⟨y⟩ := b
  show (x == y) = (x.toList == y.toList)
  rw [Bool.eq_iff_iff]
  simp only [beq_iff_eq]
  exact ⟨fun h => by rw [h], fun h => Array.toList_inj.1 h⟩
theorem sameD_eq (d : TypeDesc) (k x : Value) : sameD d k x = Instr.sameNow d k x := by
  cases d <;> cases k <;> cases x <;> simp [sameD, Instr.sameNow, bytes_beq]

theorem same_key {kd : TypeDesc} {k x : Value} (h : sameD kd k x = some true) : x = k := by
  unfold sameD at h
  split at h
  · split at h
    · rename_i e; subst e; simp at h; rw [h]
    · cases h
  · simp only [Option.some.injEq, beq_iff_eq] at h
    congr 1
    rename_i x y
    obtain ⟨x⟩ := x
    obtain ⟨y⟩ := y
    simp only at h
    rw [Array.toList_inj.1 h]
  · simp at h; rw [h]
  · cases h
theorem same_bits {kd : TypeDesc} {k : Value} (h : isKeyB kd k = true) : Instr.sameBits 10000 k k = true := by
  unfold isKeyB at h
  split at h
  · simp [Instr.sameBits]
  · simp [Instr.sameBits]
  · rw [Instr.sameBits, bytes_beq]; simp
  · cases h

theorem bytes_inj {a b : ByteArray} (h : (a.toList == b.toList) = true) : a = b := by
  have e : a.toList = b.toList := by simpa using h
  rw [ByteArray.toList_eq, ByteArray.toList_eq] at e
  obtain ⟨a⟩ := a
  obtain ⟨b⟩ := b
  congr 1
  exact Array.toList_inj.1 e
theorem sameK_f {ks : List Nat} {a b : Value} {r : Bool} (h : sameK (.f ks) a b = some r) : ∃ xs ys : Array Value, a = .agg xs ∧ b = .agg ys ∧ eqL ks (xs.toList.map .v) (ys.toList.map .v) = some r := by
  cases a <;> cases b <;> simp only [sameK] at h <;> first | (cases h; done) | exact ⟨_, _, rfl, rfl, h⟩
theorem isKeyK_f {ks : List Nat} {a : Value} (h : isKeyK (.f ks) a = true) : ∃ xs : Array Value, a = .agg xs ∧ cellsB ks xs.toList = true := by
  cases a <;> simp only [isKeyK] at h <;> first | (cases h; done) | exact ⟨_, rfl, h⟩
theorem eqC_true {k : Nat} {x y : Value} (h : eqC k (.v x) (.v y) = some true) : x = y := by
  match k with
  | 0 =>
    cases x <;> cases y <;> simp only [eqC] at h <;> first | (cases h; done) | skip
    split at h
    · rename_i hk; subst hk; simp at h; rw [h]
    · cases h
  | 1 => cases x <;> cases y <;> simp only [eqC] at h <;> first | (cases h; done) | (have := (Option.some.inj h); simp at this; rw [this])
  | 2 => cases x <;> cases y <;> simp only [eqC] at h <;> first | (cases h; done) | exact congrArg Value.string (bytes_inj (by simpa using h))
  | k + 3 => cases x <;> cases y <;> simp [eqC] at h
theorem eqL_true : ∀ {ks : List Nat} {xs ys : List Value}, eqL ks (xs.map .v) (ys.map .v) = some true → xs = ys
  | [], [], [], _ => rfl
  | k :: ks, x :: xs, y :: ys, h => by
    simp only [List.map_cons, eqL] at h
    split at h
    · rename_i hc; rw [eqC_true hc, eqL_true h]
    · cases h
    · cases h
  | [], _ :: _, _, h => by simp [eqL] at h
  | [], [], _ :: _, h => by simp [eqL] at h
  | _ :: _, [], _, h => by simp [eqL] at h
  | _ :: _, _ :: _, [], h => by simp [eqL] at h

/-- What the model does with keys of a type. -/
structure KLaw (P : Program) (kt : TypeId) (kd : KD) : Prop where
  chk : ∀ (w : World) (e : Bool) (kv : Value), isKeyK kd kv = true → (Instr.checkKey e 10000 kt kv).run P w = .ok () w
  one : ∀ (kv x : Value), sameK kd kv x = some true → x = kv
  bits : ∀ kv, isKeyK kd kv = true → Instr.sameBits 10000 kv kv = true
  find : ∀ (w : World) (kv : Value) (ms : List MapEntry) (es : List ME) (i : Nat) (r : Option (Nat × ME)), ms.length = es.length → (∀ (j : Nat) (e : MapEntry) (p : ME), ms[j]? = some e → es[j]? = some p → e.key = p.k) → findD kd kv es i = some r →
    (r = none ∧ ∀ f, i = 0 → f = ms → (Instr.findKey kt kv f).run P w = .ok none w) ∨ ∃ j e p, r = some (i + j, p) ∧ ms[j]? = some e ∧ es[j]? = some p ∧ (∀ f, i = 0 → f = ms → (Instr.findKey kt kv f).run P w = .ok (some (i + j, e.val)) w) ∧ sameK kd kv e.key = some true

theorem findP_ok {d : TypeDesc} {k : Value} : ∀ (ms : List MapEntry) (es : List ME) (i : Nat) (r : Option (Nat × ME)), ms.length = es.length → (∀ (j : Nat) (e : MapEntry) (p : ME), ms[j]? = some e → es[j]? = some p → e.key = p.k) →
    findD (.p d) k es i = some r → (r = none ∧ Instr.findNow d k ms i = some none) ∨
      ∃ j e p, r = some (i + j, p) ∧ ms[j]? = some e ∧ es[j]? = some p ∧ Instr.findNow d k ms i = some (some (i + j, e.val)) ∧ sameD d k e.key = some true
  | [], [], i, r, _, _, h => by simp [findD] at h; subst h; exact .inl ⟨rfl, rfl⟩
  | [], _ :: _, _, _, h, _, _ => by simp at h
  | _ :: _, [], _, _, h, _, _ => by simp at h
  | m :: ms, p :: ps, i, r, hl, hk, h => by
    have hkey : m.key = p.k := hk 0 m p rfl rfl
    simp only [findD, sameK] at h
    split at h
    · rename_i hs
      cases h
      refine .inr ⟨0, m, p, rfl, rfl, rfl, ?_, by rw [hkey]; exact hs⟩
      simp [Instr.findNow, ← sameD_eq, hkey, hs]
    · rename_i hs
      rcases findP_ok ms ps (i + 1) r (by simpa using hl) (fun j e q he hq => hk (j + 1) e q (by simpa using he) (by simpa using hq)) h with ⟨h1, h2⟩ | ⟨j, e, v, h1, h2, h3, h4, h5⟩
      · refine .inl ⟨h1, ?_⟩
        simp [Instr.findNow, ← sameD_eq, hkey, hs, h2]
      · refine .inr ⟨j + 1, e, v, by rw [h1]; congr 2; omega, by simpa using h2, by simpa using h3, ?_, h5⟩
        simp [Instr.findNow, ← sameD_eq, hkey, hs, h4]; omega
    · cases h

theorem klaw_p {P : Program} {kt : TypeId} {d : TypeDesc} (hu : P.underlying kt = some d) : KLaw P kt (.p d) where
  chk := fun w e kv h => MapKept.run_checkKey hu (isKeyB_ok h) e 9999
  one := fun kv x h => same_key h
  bits := fun kv h => same_bits h
  find := fun w kv ms es i r hl hk h => by
    rcases findP_ok ms es i r hl hk h with ⟨h1, h2⟩ | ⟨j, e, p, h1, h2, h3, h4, h5⟩
    · exact .inl ⟨h1, fun f hi hf => by subst hi hf; exact MapKept.run_findKey hu h2⟩
    · exact .inr ⟨j, e, p, h1, h2, h3, fun f hi hf => by subst hi hf; exact MapKept.run_findKey hu h4, h5⟩

/-- Keys of several plain cells: the model's '==' and its check. -/
theorem klaw_f {P : Program} {kt : TypeId} {ks : List Nat} (hwide : (match P.underlying kt with | some (.array _ _) | some (.struct _) => true | _ => false) = true)
    (hchk : ∀ (w : World) (e : Bool) (cs : Array Value), cellsB ks cs.toList = true → (Instr.checkKey e 10000 kt (.agg cs)).run P w = .ok () w)
    (heq : ∀ (w : World) (xs ys : Array Value) (r : Bool), eqL ks (xs.toList.map .v) (ys.toList.map .v) = some r → (Op.equal kt (.agg xs) (.agg ys)).run P w = .ok r w) : KLaw P kt (.f ks) where
  chk := fun w e kv h => by
    obtain ⟨cs, rfl, h⟩ := isKeyK_f h
    exact hchk w e _ h
  one := fun kv x h => by
    obtain ⟨xs, ys, rfl, rfl, h⟩ := sameK_f h
    have := eqL_true h
    rw [Array.toList_inj.1 this]
  bits := fun kv h => by
    obtain ⟨cs, rfl, h⟩ := isKeyK_f h
    · have key : ∀ (ks : List Nat) (l : List Value), cellsB ks l = true → ∀ p ∈ l.zip l, (Instr.sameBits 9999 p.1 p.2) = true := by
        intro ks l
        induction l generalizing ks with
        | nil => simp
        | cons a l ih =>
          intro h p hp
          simp only [List.zip_cons_cons, List.mem_cons] at hp
          unfold cellsB at h
          split at h
          · rename_i e; cases e
          · rename_i e; cases e
            rcases hp with rfl | hp
            · simp [Instr.sameBits]
            · exact ih _ h p hp
          · rename_i e; cases e
            rcases hp with rfl | hp
            · simp [Instr.sameBits]
            · exact ih _ h p hp
          · rename_i e; cases e
            rcases hp with rfl | hp
            · rw [Instr.sameBits, bytes_beq]; simp
            · exact ih _ h p hp
          · cases h
      show Instr.sameBits (9999 + 1) (.agg cs) (.agg cs) = true
      simp only [Instr.sameBits, beq_self_eq_true, Bool.true_and, List.all_eq_true]
      exact key ks cs.toList h
  find := fun w kv ms es i r hl hk h => by
    have key : ∀ (ms : List MapEntry) (es : List ME) (i : Nat) (r : Option (Nat × ME)), ms.length = es.length → (∀ (j : Nat) (e : MapEntry) (p : ME), ms[j]? = some e → es[j]? = some p → e.key = p.k) → findD (.f ks) kv es i = some r →
        (r = none ∧ (Instr.findAsking kt kv ms i).run P w = .ok none w) ∨ ∃ j e p, r = some (i + j, p) ∧ ms[j]? = some e ∧ es[j]? = some p ∧ (Instr.findAsking kt kv ms i).run P w = .ok (some (i + j, e.val)) w ∧ sameK (.f ks) kv e.key = some true := by
      intro ms
      induction ms with
      | nil =>
        intro es i r hl _ h
        cases es with
        | nil => simp [findD] at h; subst h; exact .inl ⟨rfl, by simp [Instr.findAsking]⟩
        | cons _ _ => simp at hl
      | cons m ms ih =>
        intro es i r hl hk h
        cases es with
        | nil => simp at hl
        | cons p ps =>
          have hkey : m.key = p.k := hk 0 m p rfl rfl
          have hrun : ∀ b, sameK (.f ks) kv p.k = some b → (Op.equal kt kv m.key).run P w = .ok b w := by
            intro b hb
            rw [hkey]
            obtain ⟨xs, ys, e1, e2, hb⟩ := sameK_f hb
            rw [e1, e2]
            exact heq w _ _ b hb
          simp only [findD] at h
          split at h
          · rename_i hs
            cases h
            refine .inr ⟨0, m, p, rfl, rfl, rfl, ?_, by rw [hkey]; exact hs⟩
            simp [Instr.findAsking, hrun _ hs]
          · rename_i hs
            rcases ih ps (i + 1) r (by simpa using hl) (fun j e q he hq => hk (j + 1) e q (by simpa using he) (by simpa using hq)) h with ⟨h1, h2⟩ | ⟨j, e, v, h1, h2, h3, h4, h5⟩
            · exact .inl ⟨h1, by simp [Instr.findAsking, hrun _ hs, h2]⟩
            · refine .inr ⟨j + 1, e, v, by rw [h1]; congr 2; omega, by simpa using h2, by simpa using h3, ?_, h5⟩
              simp [Instr.findAsking, hrun _ hs, h4]; omega
          · cases h
    rcases key ms es i r hl hk h with ⟨h1, h2⟩ | ⟨j, e, p, h1, h2, h3, h4, h5⟩
    · exact .inl ⟨h1, fun f hi hf => by subst hi hf; rw [run_findKey_eq w hwide]; exact h2⟩
    · exact .inr ⟨j, e, p, h1, h2, h3, fun f hi hf => by subst hi hf; rw [run_findKey_eq w hwide]; exact h4, h5⟩

theorem run_check_one {P : Program} {w : World} {t : TypeId} {k : Nat} {v : Value} (h : plainEq P t = some k) (e : Bool) (n : Nat) (hv : cellsB [k] [v] = true) : (Instr.checkKey e (n + 1) t v).run P w = .ok () w := by
  unfold plainEq at h
  unfold Instr.checkKey
  split at h <;> first | (cases h; done) | skip
  all_goals
    rename_i hu
    simp only [Sem.run_bind, run_underlying hu, Result.andThen_ok]
    cases h
    cases v <;> first | (simp [cellsB] at hv; done) | rfl

theorem cellsB_cons {k : Nat} {ks : List Nat} {l : List Value} (h : cellsB (k :: ks) l = true) : ∃ v l', l = v :: l' ∧ cellsB [k] [v] = true ∧ cellsB ks l' = true := by
  cases l with
  | nil => unfold cellsB at h; simp at h
  | cons v l =>
    refine ⟨v, l, rfl, ?_⟩
    match k with
    | 0 => cases v <;> simp_all [cellsB]
    | 1 => cases v <;> simp_all [cellsB]
    | 2 => cases v <;> simp_all [cellsB]
    | k + 3 => cases v <;> simp [cellsB] at h

theorem plain_agg {P : Program} {t : TypeId} {k : Nat} (h : plainEq P t = some k) (w : World) : (isAgg t).run P w = .ok false w := by
  unfold plainEq at h
  simp only [isAgg, Sem.run_bind]
  split at h <;> first | (rename_i hu; rw [run_underlying hu]; rfl) | cases h

theorem run_equal_one {P : Program} {w : World} {t : TypeId} {k : Nat} {x y : Value} {b : Bool} (hp : plainEq P t = some k) (h : eqC k (.v x) (.v y) = some b) (d : Nat) : (Op.equalIn (d + 1) t x y).run P w = .ok b w := by
  unfold plainEq at hp
  unfold eqC at h
  split at h
  · rename_i e1 e2; cases e1; cases e2
    split at h
    · cases h
      rename_i hk
      subst hk
      split at hp <;> cases hp
      rename_i hu; exact run_equalIn_int w d _ _ _ _ _ hu
    · cases h
  · rename_i e1 e2; cases e1; cases e2
    cases h
    split at hp <;> cases hp
    rename_i hu; exact run_equalIn_bool' w d _ _ _ hu
  · rename_i e1 e2; cases e1; cases e2
    cases h
    split at hp <;> cases hp
    rename_i hu; exact run_equalIn_string w d _ _ _ hu
  · cases h

/-- A type's keys. -/
theorem klaw {P : Program} {kt : TypeId} {kd : KD} (h : keyKd P kt = some kd) : KLaw P kt kd := by
  unfold keyKd at h
  split at h
  · rename_i fs hu
    split at h
    rotate_left
    · cases h
    rename_i hst
    obtain ⟨ks, hf, rfl⟩ := Option.map_eq_some_iff.1 h
    refine klaw_f (by rw [hu]) (fun w e cs hc => ?_) (fun w xs ys r hr => ?_)
    · show (Instr.checkKey e (9999 + 1) kt (.agg cs)).run P w = .ok () w
      rw [Instr.checkKey]
      simp only [Sem.run_bind, run_underlying hu, Result.andThen_ok]
      rw [← Array.forIn_toList]
      have key : ∀ (L : List Field) (ks : List Nat) (off : Nat), flatEq P off L = some ks → cellsB ks (cs.toList.drop off) = true →
          (forIn L PUnit.unit (fun (f : Field) (_ : PUnit) => (do
            if f.name ≠ "_" then
              Instr.checkKey e 9999 f.type (← part f.type cs f.offset)
              pure (ForInStep.yield PUnit.unit)
            else pure (ForInStep.yield PUnit.unit) : Sem (ForInStep PUnit)))).run P w = .ok PUnit.unit w := by
        intro L
        induction L with
        | nil => intro ks off _ _; simp
        | cons f L ih =>
          intro ks off hk hc
          simp only [flatEq] at hk
          split at hk
          rotate_left
          · cases hk
          rename_i hno
          simp only [Bool.and_eq_true, bne_iff_ne, ne_eq, beq_iff_eq] at hno
          obtain ⟨hn, ho⟩ := hno
          obtain ⟨k, hp, hk⟩ := Option.bind_eq_some_iff.1 hk
          obtain ⟨ks', hrest, rfl⟩ := Option.map_eq_some_iff.1 hk
          obtain ⟨v, l', e1, hv, hl⟩ := cellsB_cons hc
          have hlt : off < cs.toList.length := by
            rcases Nat.lt_or_ge off cs.toList.length with h1 | h1
            · exact h1
            · rw [List.drop_eq_nil_of_le h1] at e1; cases e1
          rw [List.drop_eq_getElem_cons hlt] at e1
          injection e1 with e1 e2
          have px : (part f.type cs f.offset).run P w = .ok v w := by
            subst ho
            simp at e1 hlt
            simp [part, plain_agg hp w, hlt, e1]
          have pc := run_check_one (w := w) hp e 9998 hv
          rw [← e2] at hl
          simp only [List.forIn_cons, Sem.run_bind, hn, ne_eq, not_false_eq_true, if_true, Result.andThen_ok, px, pc, Sem.run_pure]
          exact ih ks' (off + 1) hrest hl
      have := key fs.toList ks 0 hf (by simpa using hc)
      rw [this]; rfl
    · have hfs : P.fieldsOf kt = fs := by simp [Program.fieldsOf, hu]
      have he := eqL_ok (w := w) (β := fun _ => none) (P := P) (al := fun _ => True) 9998 fs.toList ks 0 xs.toList ys.toList (xs.toList.map .v) (ys.toList.map .v) r hf (by simpa using hr) (by simp) (by simp)
        (fun j u d hu hd => by simp only [List.getElem?_map, hu, Option.map_some, Option.some.injEq] at hd; subst hd; exact .imm _ _ (.v u)) (fun j u d hu hd => by simp only [List.getElem?_map, hu, Option.map_some, Option.some.injEq] at hd; subst hd; exact .imm _ _ (.v u))
      have h3 := run_equalIn_struct (P := P) w 9999 kt xs ys (by rw [hfs]; exact hu) hst
      rw [hfs] at h3
      exact h3.trans (by simpa using he)
  · rename_i n el hu
    split at h
    rotate_left
    · cases h
    rename_i hone
    obtain ⟨k, hp, rfl⟩ := Option.map_eq_some_iff.1 h
    obtain ⟨_, hsz, inf, hi, hi1⟩ := run_tkind_one hone (default : World)
    have hsz : ∀ w, (sizeOf el).run P w = .ok 1 w := fun w => (run_tkind_one hone w).2.1
    have px : ∀ (w : World) (cs : Array Value) (off : Nat) (v : Value), cs[off]? = some v → (part el cs off).run P w = .ok v w := fun w cs off v hv => by simp [part, plain_agg hp w, hv]
    refine klaw_f (by rw [hu]) (fun w e cs hc => ?_) (fun w xs ys r hr => ?_)
    · show (Instr.checkKey e (9999 + 1) kt (.agg cs)).run P w = .ok () w
      rw [Instr.checkKey]
      simp only [Sem.run_bind, run_underlying hu, Result.andThen_ok]
      simp only [Std.Legacy.Range.forIn_eq_forIn_range', Std.Legacy.Range.size, Nat.sub_zero, Nat.add_one_sub_one, Nat.div_one]
      have key : ∀ (m off : Nat), cellsB (List.replicate m k) (cs.toList.drop off) = true →
          (forIn (List.range' off m) PUnit.unit (fun (i : Nat) (_ : PUnit) => (do
            Instr.checkKey e 9999 el (← part el cs (i * (← sizeOf el)))
            pure (ForInStep.yield PUnit.unit) : Sem (ForInStep PUnit)))).run P w = .ok PUnit.unit w := by
        intro m
        induction m with
        | zero => intro off _; simp
        | succ m ih =>
          intro off hc
          rw [List.replicate_succ] at hc
          obtain ⟨v, l', e1, hv, hl⟩ := cellsB_cons hc
          have hlt : off < cs.toList.length := by
            rcases Nat.lt_or_ge off cs.toList.length with h1 | h1
            · exact h1
            · rw [List.drop_eq_nil_of_le h1] at e1; cases e1
          rw [List.drop_eq_getElem_cons hlt] at e1
          injection e1 with e1 e2
          have hcv : cs[off]? = some v := by
            rw [← e1]; simp at hlt; simp [hlt]
          have pc := run_check_one (w := w) hp e 9998 hv
          rw [← e2] at hl
          rw [List.range'_succ]
          simp only [List.forIn_cons, Sem.run_bind, hsz, Result.andThen_ok, Nat.mul_one, px w cs off v hcv, pc, Sem.run_pure]
          exact ih (off + 1) hl
      have := key n 0 (by simpa using hc)
      rw [this]; rfl
    · have hitems : ∀ (m off : Nat), eqL (List.replicate m k) ((xs.toList.drop off).map .v) ((ys.toList.drop off).map .v) = some r → (Op.eqItems 9999 el 1 xs ys (List.range' off m)).run P w = .ok r w := by
        intro m
        induction m with
        | zero =>
          intro off h
          simp only [List.replicate_zero] at h
          unfold eqL at h
          split at h <;> simp_all [Op.eqItems]
        | succ m ih =>
          intro off h
          rw [List.replicate_succ] at h
          have hc : off < xs.toList.length := by
            rcases Nat.lt_or_ge off xs.toList.length with h1 | h1
            · exact h1
            · rw [List.drop_eq_nil_of_le h1] at h; simp [eqL] at h
          have hd : off < ys.toList.length := by
            rcases Nat.lt_or_ge off ys.toList.length with h1 | h1
            · exact h1
            · rw [List.drop_eq_nil_of_le h1] at h; simp [eqL] at h
          rw [List.drop_eq_getElem_cons hc, List.drop_eq_getElem_cons hd] at h
          simp only [List.map_cons, eqL] at h
          have gx := px w xs off xs.toList[off] (by simp at hc; simp [hc])
          have gy := px w ys off ys.toList[off] (by simp at hd; simp [hd])
          rw [List.range'_succ]
          cases hq : eqC k (.v xs.toList[off]) (.v ys.toList[off]) with
          | none => rw [hq] at h; cases h
          | some b =>
            rw [hq] at h
            have pe := run_equal_one (w := w) hp hq 9998
            simp only [Op.eqItems, Sem.run_bind, Nat.mul_one, gx, gy, pe, Result.andThen_ok]
            cases b
            · simp at h; subst h; simp
            · simpa using ih (off + 1) h
      show (Op.equalIn (9999 + 1) kt (.agg xs) (.agg ys)).run P w = .ok r w
      rw [run_equalIn_array w 9999 xs ys hu hi]
      have hce : P.cellsOf el = 1 := by unfold Program.cellsOf; simp [hi, hi1]
      rw [hce, List.range_eq_range']
      exact hitems n 0 (by simpa using hr)
  · rename_i d hn1 hn2 hu
    cases h
    exact klaw_p hu
  · cases h

theorem unvL_ok {P : Program} {w : World} {al : Nat → Prop} {β : Nat → Option Nat} : ∀ {us : List Value} {cs : List DV} {l : List Value}, unvL cs = some l → us.length = cs.length → (∀ (j : Nat) (u : Value) (d : DV), us[j]? = some u → cs[j]? = some d → Rel P w al β u d) → us = l
  | us, [], l, h, hl, _ => by simp [unvL] at h; subst h; simpa using hl
  | [], _ :: _, _, _, hl, _ => by simp at hl
  | u :: us, c :: cs, l, h, hl, hr => by
    unfold unvL at h
    split at h
    · rename_i e; cases e
    · rename_i x l' e; cases e
      split at h
      · obtain ⟨r, hr', rfl⟩ := Option.map_eq_some_iff.1 h
        have e1 : u = x := rel_v (hr 0 u _ rfl rfl)
        have e2 : us = r := unvL_ok hr' (by simpa using hl) fun j u d hu hd => hr (j + 1) u d (by simpa using hu) (by simpa using hd)
        rw [e1, e2]
      · cases h
    · cases h
theorem kv_ok {P : Program} {w : World} {al : Nat → Prop} {β : Nat → Option Nat} {x kv : Value} {d : DV} (h : Rel P w al β x d) (hk : kvOf d = some kv) : x = kv := by
  unfold kvOf at hk
  split at hk
  · cases hk; exact rel_v h
  · rename_i cs
    obtain ⟨l, hl, rfl⟩ := Option.map_eq_some_iff.1 hk
    obtain ⟨vs, rfl, h1, _, h2⟩ := rel_agg h
    rw [unvL_ok hl h1 h2]
  · cases hk

section ops
variable {C : Ctx} {U : Nat → Prop} {s : DS} {β : Nat → Option Nat} {a : Act} {w : World} {o : Oper} {d : DV} {s' : DS} {nid : Nat}

theorem HoldsB.mapo {id b ck : Nat} {es : List ME} (hs : HoldsB C U s β a w) (hb : β id = some b) (ho : s.ho id = some (.mapo ck es)) :
    ∃ ms, w.heap[b]? = some (.map ms ck) ∧ ms.size = es.length ∧ ∀ (j : Nat) (e : MapEntry) (p : ME), ms[j]? = some e → es[j]? = some p → e.key = p.k ∧ e.born = p.b ∧ WV C U (s.vw C) β w e.val p.v := by
  obtain ⟨b', ms, hb', h1, h2, h4⟩ := hs.hh.hp id _ (vw_some ho)
  rw [hb] at hb'; cases hb'
  exact ⟨ms, h1, h2, h4⟩

theorem ok_mkm {t : TypeId} (ho : o.op = .makeMap t none) (hs : HoldsB C U s β a w) (hn : ¬ U nid) : OpOk C (Un U nid) a w o (.mp nid) (s.upd nid (.lay (.mapo 0 []))) := by
  have hbl := below_alloc w (.map #[] 0)
  have hf := (hs.turned (β' := upd β nid (some w.heap.size)) (w' := w.alloc (.map #[] 0)) hn none (fun _ h => by cases h) (.mapo 0 []) (fun b hb _ => hbl.block b hb) hbl.os hbl.tape hbl.output hbl.size (fun j hj _ => upd_other β _ hj) (fun _ h => by cases h)
    (fun b hb => by rw [upd_same] at hb; cases hb; exact ⟨.inr (Nat.le_refl _), by simp⟩) (fun _ => ⟨_, #[], upd_same _ _ _, heap_alloc_new w _, rfl, by simp⟩)).1
  refine ⟨.value (.map (some w.heap.size)), _, _, _, ?_, .inl rfl, hf, wv_new (.mp nid _ (by simp)) rfl⟩
  simp [execOp, ho, Instr.makeMap]

theorem lkRes_rel {V : Nat → Option DObj} {ok b : Bool} {x : Value} {v : DV} (h : WV C U V β w x v) : WV C U V β w (if ok then .tuple #[x, .bool b] else x) (lkRes ok v b) := by
  unfold lkRes
  cases ok
  · exact h
  · refine ⟨fun id hi => ?_, fun ha => .tup [x, .bool b] _ rfl fun j u d hu hd => ?_, TP.of_wv (C := C) (U := U) (V := V) (β := β) (w := w) (us := [x, .bool b]) rfl fun j u d hu hd => ?_⟩
    · simp [DV.refs, DV.refsL] at hi; exact h.1 id hi
    · match j with
      | 0 => simp at hu hd; subst hu hd; exact h.2.1 fun id hi => ha id (by simp [DV.refs, DV.refsL, hi])
      | 1 => simp at hu hd; subst hu hd; exact .imm _ _ (.v _)
      | j + 2 => simp at hu
    · match j with
      | 0 => simp at hu hd; subst hu hd; exact h
      | 1 => simp at hu hd; subst hu hd; exact WV.v _
      | j + 2 => simp at hu

theorem run_zero {P : Program} {et : TypeId} {z : Value} (hz : (P.info? et).bind (·.zero) = some z) (w : World) : (zeroValue et : Sem Value).run P w = .ok z w := by
  obtain ⟨i, hi, hz'⟩ := Option.bind_eq_some_iff.1 hz
  simp [zeroValue, typeInfo, hi, hz']

theorem ok_lkp {t kt et : TypeId} {kd : KD} {x k : Operand} {ok : Bool} {kv z : Value} (ho : o.op = .lookup t x k ok) (ht : C.P.underlying t = some (.map kt et)) (hkd : keyKd C.P kt = some kd)
    (hz : (C.P.info? et).bind (·.zero) = some z) (hs : HoldsB C U s β a w) (hk : kvOf (s.ev k) = some kv) (hkey : isKeyK kd kv = true) :
    (s.ev x = .v (.map none) → OpOk C U a w o (lkRes ok (.v z) false) s) ∧
    (∀ id ck es r, s.ev x = .mp id → s.ho id = some (.mapo ck es) → findD kd kv es 0 = some r → OpOk C U a w o (match r with | some p => lkRes ok p.2.v true | none => lkRes ok (.v z) false) s) := by
  have hke : a.eval k = kv := kv_ok (hs.ev k) hk
  have L := klaw hkd
  have hzero := run_zero hz w
  have hck : ∀ e, (Instr.checkKey e 10000 kt kv).run C.P w = .ok () w := fun e => L.chk w e kv hkey
  refine ⟨fun hx => ?_, fun id ck es r hx hid hf => ?_⟩
  · have hxe : a.eval x = .map none := by have := hs.ev x; rw [hx] at this; exact rel_v this
    refine .same hs (x := if ok then .tuple #[z, .bool false] else z) ?_ (lkRes_rel (WV.v z))
    rcases L.find w kv [] [] 0 none rfl (by simp) rfl with ⟨_, h2⟩ | ⟨j, e, p, h1, _⟩
    · have hfk := h2 [] rfl rfl
      simp [execOp, ho, Instr.lookup, run_underlying ht, hxe, hke, hck, hfk, hzero, Result.andThen]
    · cases h1
  · have h1 := hs.ev x
    rw [hx] at h1
    obtain ⟨b, hxe, hb⟩ := rel_mp h1
    obtain ⟨ms, hm, hsz, hrel⟩ := hs.mapo hb hid
    have hg : (getObj b).run C.P w = .ok (.map ms ck) w := MapKept.run_getObj_map hm
    rcases L.find w kv ms.toList es 0 r (by simpa using hsz) (fun j e p he hp => (hrel j e p (by simpa using he) hp).1) hf with ⟨rfl, h2⟩ | ⟨j, e, v, rfl, h2, h3, h4, _⟩
    · refine .same hs (x := if ok then .tuple #[z, .bool false] else z) ?_ (lkRes_rel (WV.v z))
      have hfk := h2 _ rfl rfl
      simp [execOp, ho, Instr.lookup, run_underlying ht, hxe, hke, hck, hg, hfk, hzero, Result.andThen]
    · refine .same hs (x := if ok then .tuple #[e.val, .bool true] else e.val) ?_ (lkRes_rel (hrel j e _ (by simpa using h2) h3).2.2)
      have hfk := h4 _ rfl rfl
      simp [execOp, ho, Instr.lookup, run_underlying ht, hxe, hke, hck, hg, hfk, Result.andThen]

theorem ok_lnm {t kt et : TypeId} {c : Call} {x : Operand} (ho : o.op = .call c) (hc : c.callee = .builtin .len) (hargs : c.args.toList = [x]) (ht : c.argTypes[0]? = some t) (hu : C.P.underlying t = some (.map kt et)) (hs : HoldsB C U s β a w) :
    (s.ev x = .v (.map none) → OpOk C U a w o (.v (.int .i64 0)) s) ∧ (∀ id ck es, s.ev x = .mp id → s.ho id = some (.mapo ck es) → OpOk C U a w o (.v (.int .i64 es.length)) s) := by
  have hA : c.args = #[x] := by apply Array.ext'; simpa using hargs
  refine ⟨fun hx => ?_, fun id ck es hx hid => ?_⟩
  · have hxe : a.eval x = .map none := by have := hs.ev x; rw [hx] at this; exact rel_v this
    refine .same hs (x := .int .i64 0) ?_ (WV.v _)
    simp [execOp, ho, resolve, hc, hA, invoke, builtin, Builtin.len_, ht, hxe, run_underlying hu, goInt]
  · have h1 := hs.ev x
    rw [hx] at h1
    obtain ⟨b, hxe, hb⟩ := rel_mp h1
    obtain ⟨ms, hm, hsz, _⟩ := hs.mapo hb hid
    have hg : (getObj b).run C.P w = .ok (.map ms ck) w := MapKept.run_getObj_map hm
    refine .same hs (x := .int .i64 es.length) ?_ (WV.v _)
    simp [execOp, ho, resolve, hc, hA, invoke, builtin, Builtin.len_, ht, hxe, run_underlying hu, hg, goInt, hsz, Result.andThen]

/-- The map of an object is written. -/
theorem ok_mapw {id b ck ck' : Nat} {ms ms' : Array MapEntry} {es es' : List ME} {nx : Next} {x : Value} (hs : HoldsB C U s β a w) (hb : β id = some b) (hid : s.ho id = some (.mapo ck es)) (hm : w.heap[b]? = some (.map ms ck))
    (h1 : ms'.size = es'.length)
    (h3 : ∀ (V' : Nat → Option DObj) (w' : World), (∀ x d, WV C U (s.vw C) β w x d → WV C U V' β w' x d) → ∀ (j : Nat) (e : MapEntry) (p : ME), ms'[j]? = some e → es'[j]? = some p → e.key = p.k ∧ e.born = p.b ∧ WV C U V' β w' e.val p.v)
    (hrun : (execOp a.eval o).run C.P w = .ok nx { w with heap := w.heap.setIfInBounds b (.map ms' ck') }) (hnx : nx = .value x ∨ (nx = .skip ∧ x = undef)) (hd : WV C U (s.vw C) β w x d) : OpOk C U a w o d (s.upd nid (.wr id (.mapo ck' es'))) := by
  have hblt : b < w.heap.size := (Array.getElem?_eq_some_iff.1 hm).1
  have hw := hs.wrote nid id b (.mapo ck' es') (w' := { w with heap := w.heap.setIfInBounds b (.map ms' ck') }) hb (by rw [hid]; rfl) (fun k hk => by simp [Array.getElem?_setIfInBounds_ne (Ne.symm hk)]) (by simp) rfl rfl rfl
    (fun c T hc => by rw [hm] at hc; cases hc) (fun hrel' => ⟨b, ms', hb, by simp [hblt], h1, h3 _ _ hrel'⟩)
  exact ⟨nx, _, β, x, hrun, hnx, hw.1, hw.2 _ _ hd⟩

theorem ok_mup {t kt et : TypeId} {kd : KD} {x k y : Operand} {kv : Value} {id ck ck' : Nat} {es es' : List ME} (ho : o.op = .mapUpdate t x k y ∨ o.op = .insert t x k y) (ht : C.P.underlying t = some (.map kt et)) (hkd : keyKd C.P kt = some kd)
    (hs : HoldsB C U s β a w) (hk : kvOf (s.ev k) = some kv) (hkey : isKeyK kd kv = true) (hx : s.ev x = .mp id) (hid : s.ho id = some (.mapo ck es)) (hp : putD kd kv (s.ev y) ck es = some (ck', es')) : OpOk C U a w o .any (s.upd nid (.wr id (.mapo ck' es'))) := by
  have hke : a.eval k = kv := kv_ok (hs.ev k) hk
  have L := klaw hkd
  have hck : ∀ e, (Instr.checkKey e 10000 kt kv).run C.P w = .ok () w := fun e => L.chk w e kv hkey
  have h1 := hs.ev x
  rw [hx] at h1
  obtain ⟨b, hxe, hb⟩ := rel_mp h1
  obtain ⟨ms, hm, hsz, hrel⟩ := hs.mapo hb hid
  have hg : (getObj b).run C.P w = .ok (.map ms ck) w := MapKept.run_getObj_map hm
  have hset : ∀ o', (setObj b o').run C.P w = .ok () { w with heap := w.heap.setIfInBounds b o' } := fun o' => MapKept.run_setObj_map o' hm
  have hrunU : ∀ w', (Instr.mapUpdate t (a.eval x) (a.eval k) (a.eval y)).run C.P w = .ok () w' → (execOp a.eval o).run C.P w = .ok .skip w' := fun w' h => by
    rcases ho with ho | ho <;> simp [execOp, ho, h]
  unfold putD at hp
  split at hp
  · rename_i i e hf
    cases hp
    rcases L.find w kv ms.toList es 0 _ (by simpa using hsz) (fun j e p he hp => (hrel j e p (by simpa using he) hp).1) hf with ⟨h2, _⟩ | ⟨j, e0, v', h2, h3, h4, h5, h6⟩
    · cases h2
    · simp only [Nat.zero_add, Option.some.injEq, Prod.mk.injEq] at h2
      obtain ⟨rfl, rfl⟩ := h2
      have hek : e0.key = kv := L.one _ _ h6
      have hje : ms[i]? = some e0 := by simpa using h3
      have hilt : i < ms.size := (Array.getElem?_eq_some_iff.1 hje).1
      refine ok_mapw (ms' := ms.modify i fun e => { e with key := kv, val := a.eval y }) (x := undef) hs hb hid hm (by simpa using hsz) (fun V' w' hmono j e' p he' hp' => ?_) (hrunU _ ?_) (.inr ⟨rfl, rfl⟩) WV.any
      · rw [Array.getElem?_modify] at he'
        rw [List.getElem?_set] at hp'
        by_cases hij : i = j
        · subst hij
          rw [if_pos rfl] at he' hp'
          split at hp'
          · cases hp'
            rw [hje] at he'
            simp only [Option.map_some, Option.some.injEq] at he'
            subst he'
            exact ⟨rfl, (hrel i e0 e hje h4).2.1, hmono _ _ (hs.evw y)⟩
          · cases hp'
        · rw [if_neg hij] at he' hp'
          have := hrel j e' p he' hp'
          exact ⟨this.1, this.2.1, hmono _ _ this.2.2⟩
      · have hfk := h5 _ rfl rfl
        simp [Instr.mapUpdate, run_underlying ht, hxe, hke, hck, hg, hfk, hje, hek, Instr.keyThatStays, L.bits kv hkey, hset, Result.andThen]
  · rename_i hf
    cases hp
    rcases L.find w kv ms.toList es 0 _ (by simpa using hsz) (fun j e p he hp => (hrel j e p (by simpa using he) hp).1) hf with ⟨_, h2⟩ | ⟨j, e, v', h2, _⟩
    · refine ok_mapw (ms' := ms.push { key := kv, val := a.eval y, born := ck }) (x := undef) hs hb hid hm (by simp [hsz]) (fun V' w' hmono j e' p he' hp' => ?_) (hrunU _ ?_) (.inr ⟨rfl, rfl⟩) WV.any
      · rw [Array.getElem?_push] at he'
        by_cases hj : j = ms.size
        · subst hj
          rw [if_pos rfl] at he'
          cases he'
          rw [hsz] at hp'
          simp at hp'
          subst hp'
          exact ⟨rfl, rfl, hmono _ _ (hs.evw y)⟩
        · rw [if_neg hj] at he'
          have hjl : j < ms.size := (Array.getElem?_eq_some_iff.1 he').1
          rw [List.getElem?_append_left (by omega)] at hp'
          have := hrel j e' p he' hp'
          exact ⟨this.1, this.2.1, hmono _ _ this.2.2⟩
      · have hfk := h2 _ rfl rfl
        simp [Instr.mapUpdate, run_underlying ht, hxe, hke, hck, hg, hfk, hset, Result.andThen]
    · cases h2
  · cases hp

theorem wv_two {V : Nat → Option DObj} {x y : Value} {v : DV} (h : WV C U V β w x v) : WV C U V β w (.tuple #[x, y]) (.tup [v, .v y]) := by
  refine ⟨fun id hi => ?_, fun ha => .tup [x, y] _ rfl fun j u d hu hd => ?_, TP.of_wv (C := C) (U := U) (V := V) (β := β) (w := w) (us := [x, y]) rfl fun j u d hu hd => ?_⟩
  · simp [DV.refs, DV.refsL] at hi; exact h.1 id hi
  · match j with
    | 0 => simp at hu hd; subst hu hd; exact h.2.1 fun id hi => ha id (by simp [DV.refs, DV.refsL, hi])
    | 1 => simp at hu hd; subst hu hd; exact .imm _ _ (.v _)
    | j + 2 => simp at hu
  · match j with
    | 0 => simp at hu hd; subst hu hd; exact h
    | 1 => simp at hu hd; subst hu hd; exact WV.v _
    | j + 2 => simp at hu

/-- 'm[k] op= ..': the entry is there, or is made. -/
theorem ok_men {t kt et : TypeId} {kd : KD} {x k : Operand} {kv z : Value} {id ck : Nat} {es : List ME} {r : Option (Nat × ME)} (ho : o.op = .mapEntry t x k) (ht : C.P.underlying t = some (.map kt et)) (hkd : keyKd C.P kt = some kd) (hz : (C.P.info? et).bind (·.zero) = some z)
    (hs : HoldsB C U s β a w) (hk : kvOf (s.ev k) = some kv) (hkey : isKeyK kd kv = true) (hx : s.ev x = .mp id) (hid : s.ho id = some (.mapo ck es)) (hf : findD kd kv es 0 = some r) :
    (∀ p, r = some p → OpOk C U a w o (.tup [p.2.v, .v (.int .i64 p.2.b)]) (s.upd nid (.wr id (.mapo ck es)))) ∧ (r = none → OpOk C U a w o (.tup [.v z, .v (.int .i64 ck)]) (s.upd nid (.wr id (.mapo (ck + 1) (es ++ [⟨kv, .v z, ck⟩]))))) := by
  have hke : a.eval k = kv := kv_ok (hs.ev k) hk
  have L := klaw hkd
  have hck : ∀ e, (Instr.checkKey e 10000 kt kv).run C.P w = .ok () w := fun e => L.chk w e kv hkey
  have h1 := hs.ev x
  rw [hx] at h1
  obtain ⟨b, hxe, hb⟩ := rel_mp h1
  obtain ⟨ms, hm, hsz, hrel⟩ := hs.mapo hb hid
  have hg : (getObj b).run C.P w = .ok (.map ms ck) w := MapKept.run_getObj_map hm
  have hset : ∀ o', (setObj b o').run C.P w = .ok () { w with heap := w.heap.setIfInBounds b o' } := fun o' => MapKept.run_setObj_map o' hm
  have hzero := run_zero hz w
  rcases L.find w kv ms.toList es 0 _ (by simpa using hsz) (fun j e p he hp => (hrel j e p (by simpa using he) hp).1) hf with ⟨rfl, h2⟩ | ⟨i, e, p, rfl, h3, h4, h5, h6⟩
  · refine ⟨fun _ h => (by cases h), fun _ => ?_⟩
    refine ok_mapw (ms' := ms.push { key := kv, val := z, born := ck }) (x := .tuple #[z, .int .i64 ck]) hs hb hid hm (by simp [hsz]) (fun V' w' hmono j e' p he' hp' => ?_) ?_ (.inl rfl) (wv_two (WV.v z))
    · rw [Array.getElem?_push] at he'
      by_cases hj : j = ms.size
      · subst hj
        rw [if_pos rfl] at he'
        cases he'
        rw [hsz] at hp'
        simp at hp'
        subst hp'
        exact ⟨rfl, rfl, WV.v z⟩
      · rw [if_neg hj] at he'
        have hjl : j < ms.size := (Array.getElem?_eq_some_iff.1 he').1
        rw [List.getElem?_append_left (by omega)] at hp'
        have := hrel j e' p he' hp'
        exact ⟨this.1, this.2.1, hmono _ _ this.2.2⟩
    · have hfk := h2 _ rfl rfl
      simp [execOp, ho, Instr.mapEntry, run_underlying ht, hxe, hke, hck, hg, hfk, hset, hzero, goInt, Result.andThen]
  · refine ⟨fun q hq => ?_, fun h => (by cases h)⟩
    cases hq
    dsimp only
    have hek : e.key = kv := L.one _ _ h6
    have hje : ms[i]? = some e := by simpa using h3
    have hr0 := hrel i e p hje h4
    refine ok_mapw (ms' := ms.modify i fun e => { e with key := kv }) (x := .tuple #[e.val, .int .i64 p.b]) hs hb hid hm (by simpa using hsz) (fun V' w' hmono j e' p' he' hp' => ?_) ?_ (.inl rfl) (wv_two hr0.2.2)
    · rw [Array.getElem?_modify] at he'
      by_cases hij : i = j
      · subst hij
        rw [if_pos rfl, hje] at he'
        simp only [Option.map_some, Option.some.injEq] at he'
        subst he'
        rw [h4] at hp'
        cases hp'
        exact ⟨by simp only; rw [← hek]; exact hr0.1, hr0.2.1, hmono _ _ hr0.2.2⟩
      · rw [if_neg hij] at he'
        have := hrel j e' p' he' hp'
        exact ⟨this.1, this.2.1, hmono _ _ this.2.2⟩
    · have hfk := h5 _ rfl rfl
      simp [execOp, ho, Instr.mapEntry, run_underlying ht, hxe, hke, hck, hg, hfk, hje, hek, Instr.keyThatStays, L.bits kv hkey, hset, goInt, hr0.2.1, Result.andThen]

theorem findB_ok {n : Int} : ∀ (es : List ME) (ms : List MapEntry) (i j : Nat), ms.length = es.length → (∀ (j : Nat) (e : MapEntry) (p : ME), ms[j]? = some e → es[j]? = some p → e.born = p.b) → findB n es i = some j → ∃ k, j = i + k ∧ ms.findIdx? (fun e => (e.born : Int) == n) = some k ∧ k < ms.length
  | [], _, _, _, _, _, h => by simp [findB] at h
  | _ :: _, [], _, _, hl, _, _ => by simp at hl
  | p :: ps, m :: ms, i, j, hl, hr, h => by
    have h0 : m.born = p.b := hr 0 m p rfl rfl
    simp only [findB] at h
    split at h
    · rename_i hp
      cases h
      exact ⟨0, rfl, by rw [List.findIdx?_cons, h0, if_pos hp], by simp⟩
    · rename_i hp
      obtain ⟨k, rfl, h2, h3⟩ := findB_ok ps ms (i + 1) j (by simpa using hl) (fun j e p he hp => hr (j + 1) e p (by simpa using he) (by simpa using hp)) h
      exact ⟨k + 1, by omega, by rw [List.findIdx?_cons, h0, if_neg hp, h2]; rfl, by simp; omega⟩

theorem ok_mes {t : TypeId} {x st y : Operand} {n : Int} {id ck i : Nat} {es : List ME} (ho : o.op = .entryStore t x st y) (hs : HoldsB C U s β a w) (hx : s.ev x = .mp id) (hst : intD (s.ev st) = some n) (hid : s.ho id = some (.mapo ck es)) (hf : findB n es 0 = some i) :
    OpOk C U a w o .any (s.upd nid (.wr id (.mapo ck (es.modify i fun e => { e with v := s.ev y })))) := by
  have h1 := hs.ev x
  rw [hx] at h1
  obtain ⟨b, hxe, hb⟩ := rel_mp h1
  obtain ⟨kk, hst'⟩ := intD_ok (hs.ev st) hst
  obtain ⟨ms, hm, hsz, hrel⟩ := hs.mapo hb hid
  have hg : (getObj b).run C.P w = .ok (.map ms ck) w := MapKept.run_getObj_map hm
  have hset : ∀ o', (setObj b o').run C.P w = .ok () { w with heap := w.heap.setIfInBounds b o' } := fun o' => MapKept.run_setObj_map o' hm
  obtain ⟨k, hk, h2, h3⟩ := findB_ok es ms.toList 0 i (by simpa using hsz) (fun j e p he hp => (hrel j e p (by simpa using he) hp).2.1) hf
  obtain rfl : i = k := by omega
  have hfi : ms.findIdx? (fun e => (e.born : Int) == n) = some i := by
    obtain ⟨l⟩ := ms
    simpa using h2
  refine ok_mapw (ms' := ms.modify i fun e => { e with val := a.eval y }) (x := undef) hs hb hid hm (by simpa using hsz) (fun V' w' hmono j e' p he' hp' => ?_) ?_ (.inr ⟨rfl, rfl⟩) WV.any
  · rw [Array.getElem?_modify] at he'
    rw [List.getElem?_modify] at hp'
    by_cases hij : i = j
    · subst hij
      rw [if_pos rfl] at he'
      obtain ⟨e0, he0, rfl⟩ := Option.map_eq_some_iff.1 he'
      obtain ⟨p0, hp0, rfl⟩ := Option.map_eq_some_iff.1 hp'
      simp only [if_true]
      have := hrel i e0 p0 he0 hp0
      exact ⟨this.1, this.2.1, hmono _ _ (hs.evw y)⟩
    · rw [if_neg hij] at he'
      obtain ⟨p0, hp0, rfl⟩ := Option.map_eq_some_iff.1 hp'
      simp only [hij, if_false]
      have := hrel j e' p0 he' hp0
      exact ⟨this.1, this.2.1, hmono _ _ this.2.2⟩
  · simp [execOp, ho, Instr.entryStore, hxe, hst', asInt, asIntOf, hg, hfi, hset, Result.andThen]
end ops

end Go.DD

/- Iterators of maps, interface values, slices of arrays, copies. -/
namespace Go.DD
open Go.RowKit (Below)

section ops
variable {C : Ctx} {U : Nat → Prop} {s : DS} {β : Nat → Option Nat} {a : Act} {w : World} {o : Oper} {d : DV} {s' : DS} {nid : Nat}

theorem ok_rgm {t kt et : TypeId} {x : Operand} (ho : o.op = .range t x) (ht : C.P.underlying t = some (.map kt et)) (hs : HoldsB C U s β a w) (hn : ¬ U nid) :
    (s.ev x = .v (.map none) → OpOk C (Un U nid) a w o (.pt nid 0) (s.upd nid (.lay (.miter (.v (.map none)) 0 [] 0)))) ∧
    (∀ id ck es, s.ev x = .mp id → s.ho id = some (.mapo ck es) → OpOk C (Un U nid) a w o (.pt nid 0) (s.upd nid (.lay (.miter (.mp id) ck [] ck)))) := by
  have key : ∀ (mv : Option Nat) (m : DV) (ck : Nat), a.eval x = .map mv → s.ev x = m → (Instr.range t (.map mv)).run C.P w = .ok (.pointer (some ⟨w.heap.size, 0, none⟩)) (w.alloc (.mapIter mv ck #[] ck)) →
      OpOk C (Un U nid) a w o (.pt nid 0) (s.upd nid (.lay (.miter m ck [] ck))) := by
    intro mv m ck h1 h2 hrun
    have hbl := below_alloc w (.mapIter mv ck #[] ck)
    have hf := (hs.turned (β' := upd β nid (some w.heap.size)) (w' := w.alloc (.mapIter mv ck #[] ck)) hn none (fun _ h => by cases h) (.miter m ck [] ck) (fun b hb _ => hbl.block b hb) hbl.os hbl.tape hbl.output hbl.size (fun j hj _ => upd_other β _ hj) (fun _ h => by cases h)
      (fun b hb => by rw [upd_same] at hb; cases hb; exact ⟨.inr (Nat.le_refl _), by simp⟩) (fun hrel => ⟨_, mv, upd_same _ _ _, heap_alloc_new w _, hrel _ _ (by rw [← h1, ← h2]; exact hs.evw x)⟩)).1
    refine ⟨.value (.pointer (some ⟨w.heap.size, 0, none⟩)), _, _, _, ?_, .inl rfl, hf, wv_new (.pt nid 0 _ (by simp)) rfl⟩
    simp [execOp, ho, h1, hrun]
  refine ⟨fun hx => ?_, fun id ck es hx hid => ?_⟩
  · have hxe : a.eval x = .map none := by have := hs.ev x; rw [hx] at this; exact rel_v this
    refine key none _ 0 hxe hx ?_
    simp [Instr.range, run_underlying ht]
  · have h1 := hs.ev x
    rw [hx] at h1
    obtain ⟨b, hxe, hb⟩ := rel_mp h1
    obtain ⟨ms, hm, hsz, hrel⟩ := hs.mapo hb hid
    have hg : (getObj b).run C.P w = .ok (.map ms ck) w := MapKept.run_getObj_map hm
    refine key (some b) _ ck hxe hx ?_
    simp [Instr.range, run_underlying ht, hg, Result.andThen]

/-- Lists, element by element. -/
inductive F2 {α β : Type} (R : α → β → Prop) : List α → List β → Prop
  | nil : F2 R [] []
  | cons {a b l m} (h : R a b) (t : F2 R l m) : F2 R (a :: l) (b :: m)
theorem F2.of {α β : Type} {R : α → β → Prop} : ∀ {l : List α} {m : List β}, l.length = m.length → (∀ (j : Nat) (a : α) (b : β), l[j]? = some a → m[j]? = some b → R a b) → F2 R l m
  | [], [], _, _ => .nil
  | a :: l, b :: m, hl, h => .cons (h 0 a b rfl rfl) (F2.of (by simpa using hl) fun j x y hx hy => h (j + 1) x y (by simpa using hx) (by simpa using hy))
  | [], _ :: _, hl, _ => by simp at hl
  | _ :: _, [], hl, _ => by simp at hl
theorem F2.filter {α β : Type} {R : α → β → Prop} {f : α → Bool} {g : β → Bool} (hfg : ∀ a b, R a b → f a = g b) : ∀ {l : List α} {m : List β}, F2 R l m → F2 R (l.filter f) (m.filter g)
  | _, _, .nil => .nil
  | _, _, .cons (a := a) (b := b) h t => by
    have ih := F2.filter hfg t
    simp only [List.filter_cons, hfg a b h]
    split
    · exact .cons h ih
    · exact ih
theorem F2.append {α β : Type} {R : α → β → Prop} {l l' : List α} {m m' : List β} (h : F2 R l m) (h' : F2 R l' m') : F2 R (l ++ l') (m ++ m') := by
  induction h with
  | nil => exact h'
  | cons h _ ih => exact .cons h ih
theorem F2.length {α β : Type} {R : α → β → Prop} {l : List α} {m : List β} (h : F2 R l m) : l.length = m.length := by
  induction h with
  | nil => rfl
  | cons _ _ ih => simp [ih]
theorem F2.get {α β : Type} {R : α → β → Prop} {l : List α} {m : List β} (h : F2 R l m) : ∀ {j : Nat} {a : α}, l[j]? = some a → ∃ b, m[j]? = some b ∧ R a b := by
  induction h with
  | nil => intro j a h; simp at h
  | cons h _ ih =>
    intro j a hj
    cases j with
    | zero => simp at hj; subst hj; exact ⟨_, rfl, h⟩
    | succ j => simpa using ih (by simpa using hj)
theorem F2.all {α β : Type} {R : α → β → Prop} {f : α → Bool} {g : β → Bool} (hfg : ∀ a b, R a b → f a = g b) {l : List α} {m : List β} (h : F2 R l m) : l.all f = m.all g := by
  induction h with
  | nil => rfl
  | cons h _ ih => simp [hfg _ _ h, ih]

theorem HoldsB.drawn (hs : HoldsB C U s β a w) : HoldsB C U s β a w.drew ∧ ∀ x d, WV C U (s.vw C) β w x d → WV C U (s.vw C) β w.drew x d := by
  have h := hs.hh.keep (below_drew w)
  exact ⟨hs.carry rfl hs.yd h, h.2.1⟩

theorem wv_over {V : Nat → Option DObj} : WV C U V β w (.tuple #[.bool false]) (.tup [.v (.bool false)]) :=
  WV.flat (.tup [.bool false] _ rfl fun j u d hu hd => by
    match j with
    | 0 => simp at hu hd; subst hu hd; exact .imm _ _ (.v _)
    | j + 1 => simp at hu) rfl
theorem wv_key {V : Nat → Option DObj} (x : Value) : WV C U V β w x (ofV x) := WV.flat (rel_ofV x) (refs_ofV x)
theorem wv_next {V : Nat → Option DObj} {k x : Value} {v : DV} (h : WV C U V β w x v) : WV C U V β w (.tuple #[.bool true, k, x]) (.tup [.v (.bool true), ofV k, v]) := by
  refine ⟨fun id hi => ?_, fun ha => .tup [.bool true, k, x] _ rfl fun j u d hu hd => ?_, TP.of_wv (C := C) (U := U) (V := V) (β := β) (w := w) (us := [.bool true, k, x]) rfl fun j u d hu hd => ?_⟩
  · simp [DV.refs, DV.refsL, refs_ofV] at hi; exact h.1 id hi
  · match j with
    | 0 => simp at hu hd; subst hu hd; exact .imm _ _ (.v _)
    | 1 => simp at hu hd; subst hu hd; exact rel_ofV _
    | 2 => simp at hu hd; subst hu hd; exact h.2.1 fun id hi => ha id (by simp [DV.refs, DV.refsL, refs_ofV, hi])
    | j + 3 => simp at hu
  · match j with
    | 0 => simp at hu hd; subst hu hd; exact WV.v _
    | 1 => simp at hu hd; subst hu hd; exact wv_key _
    | 2 => simp at hu hd; subst hu hd; exact h
    | j + 3 => simp at hu

theorem cand_ne (since : Nat) (seen : List Nat) (es : List ME) : candD since seen es ≠ [] := by
  unfold candD
  simp only
  split
  · simp
  · rename_i h
    intro e
    simp only [List.nil_append, List.map_append, List.append_eq_nil_iff, List.map_eq_nil_iff] at e
    rw [e.1] at h
    simp at h

/-- A step of an iterator: the tape says to which of the candidates. -/
theorem ok_nxm {x : Operand} {id im ck since last : Nat} {seen : List Nat} {es : List ME} (ho : o.op = .next x false) (hs : HoldsB C U s β a w) (hx : s.ev x = .pt id 0) (hid : s.ho id = some (.miter (.mp im) since seen last)) (him : s.ho im = some (.mapo ck es))
    (hgone : (!seen.isEmpty && !es.isEmpty && es.all (fun e => decide (e.b ≥ last))) = false) :
    ∃ c ∈ candD since seen es, OpOk C U a w o (nxtU id (nxtD (.mp im) since seen ck c)).1 (s.upd nid (nxtU id (nxtD (.mp im) since seen ck c)).2) := by
  have h1 := hs.ev x
  rw [hx] at h1
  obtain ⟨b, hxe, hb⟩ := rel_pt h1
  obtain ⟨b', mv, hb', hit, hmv⟩ := hs.hh.hp id _ (vw_some hid)
  rw [hb] at hb'; cases hb'
  have hmr := hmv.2.1 (fun i hi => by simp [DV.refs] at hi; subst hi; rw [vw_some him]; rfl)
  obtain ⟨bm, e1, hbm⟩ := rel_mp hmr
  cases e1
  obtain ⟨ms, hm, hsz, hrel⟩ := hs.mapo hbm him
  have hf2 : F2 (fun (e : MapEntry) (p : ME) => e.key = p.k ∧ e.born = p.b ∧ WV C U (s.vw C) β w e.val p.v) ms.toList es := F2.of (by simpa using hsz) fun j e p he hp => hrel j e p (by simpa using he) hp
  have hgi : (getObj b).run C.P w = .ok (.mapIter (some bm) since seen.toArray last) w := by simp [getObj, Sem.run, hit]
  have hgm : (getObj bm).run C.P w = .ok (.map ms ck) w := MapKept.run_getObj_map hm
  have hall : ms.all (fun e => decide (e.born ≥ last)) = es.all (fun e => decide (e.b ≥ last)) := by
    rw [← Array.all_toList]
    exact hf2.all fun e p h => by rw [h.2.1]
  have hemp : ms.isEmpty = es.isEmpty := by
    cases es with
    | nil => simp at hsz; subst hsz; rfl
    | cons p ps => have : ms.size ≠ 0 := by simp at hsz; omega
                   simp [Array.isEmpty, this]
  have hgone' : (!seen.toArray.isEmpty && !ms.isEmpty && ms.all (fun e => decide (e.born ≥ last))) = false := by
    rw [hall, hemp, ← hgone]; simp
  obtain ⟨old, hold⟩ : ∃ old, old = (ms.filter fun e => !seen.toArray.contains e.born).filter (fun e => decide (e.born < since)) := ⟨_, rfl⟩
  obtain ⟨new, hnew⟩ : ∃ new, new = (ms.filter fun e => !seen.toArray.contains e.born).filter (fun e => decide (e.born ≥ since)) := ⟨_, rfl⟩
  obtain ⟨cand, hcand⟩ : ∃ cand, cand = (if old.isEmpty then #[none] else #[]) ++ (old ++ new).map some := ⟨_, rfl⟩
  have f_left : F2 (fun (e : MapEntry) (p : ME) => e.key = p.k ∧ e.born = p.b ∧ WV C U (s.vw C) β w e.val p.v) (ms.toList.filter fun e => !seen.toArray.contains e.born) (es.filter fun e => !seen.contains e.b) :=
    F2.filter (fun e p h => by rw [h.2.1]; simp) hf2
  have f_old := F2.filter (f := fun (e : MapEntry) => decide (e.born < since)) (g := fun (e : ME) => decide (e.b < since)) (fun e p h => by rw [h.2.1]) f_left
  have f_new := F2.filter (f := fun (e : MapEntry) => decide (e.born ≥ since)) (g := fun (e : ME) => decide (e.b ≥ since)) (fun e p h => by rw [h.2.1]) f_left
  have holdl : old.toList = (ms.toList.filter fun e => !seen.toArray.contains e.born).filter (fun e => decide (e.born < since)) := by rw [hold]; simp
  have hnewl : new.toList = (ms.toList.filter fun e => !seen.toArray.contains e.born).filter (fun e => decide (e.born ≥ since)) := by rw [hnew]; simp
  have f_cand : F2 (fun (e : Option MapEntry) (p : Option ME) => (e = none ∧ p = none) ∨ ∃ e' p', e = some e' ∧ p = some p' ∧ e'.key = p'.k ∧ e'.born = p'.b ∧ WV C U (s.vw C) β w e'.val p'.v) cand.toList (candD since seen es) := by
    have hmap : ∀ {l : List MapEntry} {m : List ME}, F2 (fun (e : MapEntry) (p : ME) => e.key = p.k ∧ e.born = p.b ∧ WV C U (s.vw C) β w e.val p.v) l m → F2 (fun (e : Option MapEntry) (p : Option ME) => (e = none ∧ p = none) ∨ ∃ e' p', e = some e' ∧ p = some p' ∧ e'.key = p'.k ∧ e'.born = p'.b ∧ WV C U (s.vw C) β w e'.val p'.v) (l.map some) (m.map some) := by
      intro l m h
      induction h with
      | nil => exact .nil
      | cons h _ ih => exact .cons (.inr ⟨_, _, rfl, rfl, h⟩) ih
    rw [hcand]
    unfold candD
    simp only [Array.toList_append, Array.toList_map]
    refine F2.append ?_ (hmap (F2.append (by rw [holdl]; exact f_old) (by rw [hnewl]; exact f_new)))
    have hoe : old.isEmpty = ((es.filter fun e => !seen.contains e.b).filter fun e => decide (e.b < since)).isEmpty := by
      have hl := f_old.length
      rw [← holdl] at hl
      cases hq : (es.filter fun e => !seen.contains e.b).filter fun e => decide (e.b < since) with
      | nil => rw [hq] at hl; simp at hl; subst hl; rfl
      | cons p ps => rw [hq] at hl
                     have : old.size ≠ 0 := by simp at hl; omega
                     simp [Array.isEmpty, this]
    rw [hoe]
    split
    · exact .cons (.inl ⟨rfl, rfl⟩) .nil
    · exact .nil
  have hpos : 0 < cand.size := by
    have := f_cand.length
    have h2 := cand_ne since seen es
    cases hq : candD since seen es with
    | nil => exact absurd hq h2
    | cons p ps => rw [hq] at this; simp at this; omega
  -- the tape's word
  obtain ⟨k, w1, hk, hchoose, hw1⟩ : ∃ k w1, k < cand.size ∧ (choose (.mapNext cand.size)).run C.P w = .ok k w1 ∧ (w1 = w ∨ w1 = w.drew) := by
    by_cases hf : (Question.mapNext cand.size).forced = true
    · exact ⟨0, w, hpos, by simp [choose, Sem.run, hf], .inl rfl⟩
    · refine ⟨(Question.mapNext cand.size).cut (w.tape w.drawn (.mapNext cand.size)), w.drew, ?_, ?_, .inr rfl⟩
      · exact Nat.mod_lt _ hpos
      · simp only [choose, Sem.run]
        rw [if_neg hf]
        rfl
  obtain ⟨hs1, hrel1⟩ : HoldsB C U s β a w1 ∧ ∀ x d, WV C U (s.vw C) β w x d → WV C U (s.vw C) β w1 x d := by
    rcases hw1 with rfl | rfl
    · exact ⟨hs, fun _ _ h => h⟩
    · exact hs.drawn
  have hheap : w1.heap = w.heap := by rcases hw1 with rfl | rfl <;> rfl
  have hck : cand.toList[k]? = some cand[k] := by simp [hk]
  obtain ⟨c, hc, hcr⟩ := f_cand.get hck
  refine ⟨c, List.mem_of_getElem? hc, ?_⟩
  have hnext : ∀ (r : Value) (w2 : World), ((match cand[k]? with
      | some (some e) => (do
        setObj b (.mapIter (some bm) since (seen.toArray.push e.born) ck)
        pure (.tuple #[.bool true, e.key, e.val]) : Sem Value)
      | some none => pure (.tuple #[.bool false])
      | none => stuck "Next: no such candidate").run C.P w1 = .ok r w2) → (execOp a.eval o).run C.P w = .ok (.value r) w2 := by
    intro r w2 h
    have hin : (Instr.next (.pointer (some ⟨b, 0, none⟩)) false o.type).run C.P w = .ok r w2 := by
      simp only [Instr.next, Sem.run_bind, hgi, Result.andThen_ok, hgm]
      simp only [hgone', Bool.false_eq_true, if_false]
      rw [← hold, ← hnew, ← hcand]
      simp only [Sem.run_bind, hchoose, Result.andThen_ok]
      exact h
    simp [execOp, ho, hxe, hin]
  have hck2 : cand[k]? = some cand[k] := by simp [hk]
  rcases hcr with ⟨h1, rfl⟩ | ⟨e', p', h1, rfl, hek, heb, hev⟩
  · refine ⟨_, w1, β, .tuple #[.bool false], hnext _ w1 (by rw [hck2, h1]; rfl), .inl rfl, hs1, ?_⟩
    exact wv_over
  · have hit1 : w1.heap[b]? = some (.mapIter (some bm) since seen.toArray last) := by rw [hheap]; exact hit
    have hblt : b < w1.heap.size := (Array.getElem?_eq_some_iff.1 hit1).1
    have hset : ∀ o', (setObj b o').run C.P w1 = .ok () { w1 with heap := w1.heap.setIfInBounds b o' } := fun o' => by simp [setObj, Sem.run, hit1]
    have hw := hs1.wrote nid id b (.miter (.mp im) since (seen ++ [p'.b]) ck) (w' := { w1 with heap := w1.heap.setIfInBounds b (.mapIter (some bm) since (seen.toArray.push e'.born) ck) }) hb (by rw [hid]; rfl)
      (fun k hk => by simp [Array.getElem?_setIfInBounds_ne (Ne.symm hk)]) (by simp) rfl rfl rfl (fun c T hc => by rw [hit1] at hc; cases hc)
      (fun hrel' => ⟨b, some bm, hb, by simp [hblt, heb], hrel' _ _ (hrel1 _ _ hmv)⟩)
    refine ⟨_, _, β, .tuple #[.bool true, e'.key, e'.val], hnext _ { w1 with heap := w1.heap.setIfInBounds b (.mapIter (some bm) since (seen.toArray.push e'.born) ck) } ?_, .inl rfl, hw.1, ?_⟩
    · rw [hck2, h1]
      simp only [Sem.run_bind, hset, Result.andThen_ok, Sem.run_pure]
    · rw [hek]
      exact wv_next (hw.2 _ _ (hrel1 _ _ hev))

theorem ok_nxm0 {x : Operand} {id since last : Nat} {seen : List Nat} (ho : o.op = .next x false) (hs : HoldsB C U s β a w) (hx : s.ev x = .pt id 0) (hid : s.ho id = some (.miter (.v (.map none)) since seen last)) : OpOk C U a w o (.tup [.v (.bool false)]) s := by
  have h1 := hs.ev x
  rw [hx] at h1
  obtain ⟨b, hxe, hb⟩ := rel_pt h1
  obtain ⟨b', mv, hb', hit, hmv⟩ := hs.hh.hp id _ (vw_some hid)
  rw [hb] at hb'; cases hb'
  have e1 := rel_v (hmv.2.1 (fun i hi => by simp [DV.refs] at hi))
  cases e1
  have hgi : (getObj b).run C.P w = .ok (.mapIter none since seen.toArray last) w := by simp [getObj, Sem.run, hit]
  exact .same hs (x := .tuple #[.bool false]) (by simp [execOp, ho, hxe, Instr.next, hgi, Result.andThen]) wv_over

theorem F2.find {α β : Type} {R : α → β → Prop} {f : α → Bool} {g : β → Bool} (hfg : ∀ a b, R a b → f a = g b) {l : List α} {m : List β} (h : F2 R l m) : ∀ {b : β}, m.find? g = some b → ∃ a, l.find? f = some a ∧ R a b := by
  induction h with
  | nil => intro b hb; simp at hb
  | cons h _ ih =>
    intro b hb
    rw [List.find?_cons] at hb ⊢
    rw [hfg _ _ h]
    split at hb
    · cases hb; exact ⟨_, rfl, h⟩
    · exact ih hb
theorem wv_pair {V : Nat → Option DObj} {k x : Value} {v : DV} (h : WV C U V β w x v) : WV C U V β w (.tuple #[k, x]) (.tup [ofV k, v]) := by
  refine ⟨fun id hi => ?_, fun ha => .tup [k, x] _ rfl fun j u d hu hd => ?_, TP.of_wv (C := C) (U := U) (V := V) (β := β) (w := w) (us := [k, x]) rfl fun j u d hu hd => ?_⟩
  · simp [DV.refs, DV.refsL, refs_ofV] at hi; exact h.1 id hi
  · match j with
    | 0 => simp at hu hd; subst hu hd; exact rel_ofV _
    | 1 => simp at hu hd; subst hu hd; exact h.2.1 fun id hi => ha id (by simp [DV.refs, DV.refsL, refs_ofV, hi])
    | j + 2 => simp at hu
  · match j with
    | 0 => simp at hu hd; subst hu hd; exact wv_key _
    | 1 => simp at hu hd; subst hu hd; exact h
    | j + 2 => simp at hu
/-- What an iterator came to last. -/
theorem ent_ok {x : Operand} {l : List (DV × Upd)} (ho : o.op = .entry x) (hs : HoldsB C U s β a w) (h : entL s x = some l) : ∃ p ∈ l, OpOk C U a w o p.1 (s.upd nid p.2) := by
  unfold entL at h
  split at h
  rotate_left
  · cases h
  rename_i id hx
  split at h
  rotate_left
  · cases h
  rename_i im since seen last hid
  split at h
  rotate_left
  · cases h
  rename_i ck es him
  split at h
  rotate_left
  · cases h
  rename_i hck
  subst hck
  split at h
  rotate_left
  · cases h
  rename_i st hst
  split at h
  rotate_left
  · cases h
  rename_i e he
  cases h
  have h1 := hs.ev x
  rw [hx] at h1
  obtain ⟨b, hxe, hb⟩ := rel_pt h1
  obtain ⟨b', mv, hb', hit, hmv⟩ := hs.hh.hp id _ (vw_some hid)
  rw [hb] at hb'; cases hb'
  have hmr := hmv.2.1 (fun i hi => by simp [DV.refs] at hi; subst hi; rw [vw_some him]; rfl)
  obtain ⟨bm, e1, hbm⟩ := rel_mp hmr
  cases e1
  obtain ⟨ms, hm, hsz, hrel⟩ := hs.mapo hbm him
  have hf2 : F2 (fun (e : MapEntry) (p : ME) => e.key = p.k ∧ e.born = p.b ∧ WV C U (s.vw C) β w e.val p.v) ms.toList es := F2.of (by simpa using hsz) fun j e p he hp => hrel j e p (by simpa using he) hp
  have hgi : (getObj b).run C.P w = .ok (.mapIter (some bm) since seen.toArray ck) w := by simp [getObj, Sem.run, hit]
  have hgm : (getObj bm).run C.P w = .ok (.map ms ck) w := MapKept.run_getObj_map hm
  obtain ⟨e0, hf, hk, hbn, hv⟩ := hf2.find (f := fun (e : MapEntry) => e.born == st) (g := fun (e : ME) => e.b == st) (fun a b hr => by rw [hr.2.1]) he
  have hf' : ms.find? (fun e => e.born == st) = some e0 := by
    obtain ⟨l⟩ := ms
    simpa using hf
  have hbk : seen.toArray.back? = some st := by rw [List.back?_toArray]; exact hst
  refine ⟨_, List.mem_singleton.2 rfl, .same (x := .tuple #[e0.key, e0.val]) hs ?_ ?_⟩
  · simp [execOp, ho, hxe, Instr.entry, hgi, hbk, hgm, hf', Result.andThen]
  · rw [hk]; exact wv_pair hv
/-- A step of an iterator: one of all that may come. -/
theorem nxm_ok {k : Bool} {x : Operand} {l : List (DV × Upd)} (ho : o.op = if k then .entry x else .next x false) (hs : HoldsB C U s β a w) (h : nxmL s k x = some l) : ∃ p ∈ l, OpOk C U a w o p.1 (s.upd nid p.2) := by
  unfold nxmL at h
  cases k with
  | true => exact ent_ok ho hs h
  | false =>
    simp only [Bool.false_eq_true, if_false] at h ho
    split at h
    · rename_i id hx
      split at h
      · rename_i hid
        cases h
        exact ⟨_, List.mem_singleton.2 rfl, ok_nxm0 ho hs hx hid⟩
      · rename_i im since seen last hid
        split at h
        · rename_i ck es him
          split at h
          · cases h
          · rename_i hg
            cases h
            obtain ⟨c, hc, hok⟩ := ok_nxm (nid := nid) ho hs hx hid him (by simpa using hg)
            exact ⟨_, List.mem_map.2 ⟨c, hc, rfl⟩, hok⟩
        · cases h
      · cases h
    · cases h

/-! Iterators of strings. -/
theorem ok_rgs {t : TypeId} {x : Operand} {b : ByteArray} (ho : o.op = .range t x) (ht : C.P.underlying t = some .string) (hs : HoldsB C U s β a w) (hn : ¬ U nid) (hx : s.ev x = .v (.string b)) : OpOk C (Un U nid) a w o (.pt nid 0) (s.upd nid (.lay (.siter b 0))) := by
  have hxe : a.eval x = .string b := by have := hs.ev x; rw [hx] at this; exact rel_v this
  have hbl := below_alloc w (.stringIter b 0)
  have hf := (hs.turned (β' := upd β nid (some w.heap.size)) (w' := w.alloc (.stringIter b 0)) hn none (fun _ h => by cases h) (.siter b 0) (fun b hb _ => hbl.block b hb) hbl.os hbl.tape hbl.output hbl.size (fun j hj _ => upd_other β _ hj) (fun _ h => by cases h)
    (fun b hb => by rw [upd_same] at hb; cases hb; exact ⟨.inr (Nat.le_refl _), by simp⟩) (fun hrel => ⟨_, upd_same _ _ _, heap_alloc_new w _⟩)).1
  refine ⟨.value (.pointer (some ⟨w.heap.size, 0, none⟩)), _, _, _, ?_, .inl rfl, hf, wv_new (.pt nid 0 _ (by simp)) rfl⟩
  simp [execOp, ho, hxe, Instr.range, run_underlying ht]
theorem wv_three {V : Nat → Option DObj} (x y z : Value) : WV C U V β w (.tuple #[x, y, z]) (.tup [.v x, .v y, .v z]) :=
  WV.flat (.tup [x, y, z] _ rfl fun j u d hu hd => by
    match j with
    | 0 => simp at hu hd; subst hu hd; exact .imm _ _ (.v _)
    | 1 => simp at hu hd; subst hu hd; exact .imm _ _ (.v _)
    | 2 => simp at hu hd; subst hu hd; exact .imm _ _ (.v _)
    | j + 3 => simp at hu) rfl
theorem ok_nxs {x : Operand} {id pos : Nat} {t : ByteArray} (ho : o.op = .next x true) (hs : HoldsB C U s β a w) (hx : s.ev x = .pt id 0) (hid : s.ho id = some (.siter t pos)) :
    (pos < t.size → OpOk C U a w o (.tup [.v (.bool true), .v (.int .i64 (pos : Nat)), .v (.int .i32 ((Utf8.decode t pos).1 : Nat))]) (s.upd nid (.wr id (.siter t (pos + (Utf8.decode t pos).2))))) ∧
    (¬ pos < t.size → OpOk C U a w o (.tup [.v (.bool false)]) s) := by
  have h1 := hs.ev x
  rw [hx] at h1
  obtain ⟨b, hxe, hb⟩ := rel_pt h1
  obtain ⟨b', hb', hit⟩ := hs.hh.hp id _ (vw_some hid)
  rw [hb] at hb'; cases hb'
  have hgi : (getObj b).run C.P w = .ok (.stringIter t pos) w := by simp [getObj, Sem.run, hit]
  have hset : ∀ o', (setObj b o').run C.P w = .ok () { w with heap := w.heap.setIfInBounds b o' } := fun o' => by simp [setObj, Sem.run, hit]
  have hblt : b < w.heap.size := (Array.getElem?_eq_some_iff.1 hit).1
  refine ⟨fun hp => ?_, fun hp => ?_⟩
  · have hw := hs.wrote nid id b (.siter t (pos + (Utf8.decode t pos).2)) (w' := { w with heap := w.heap.setIfInBounds b (.stringIter t (pos + (Utf8.decode t pos).2)) }) hb (by rw [hid]; rfl)
      (fun k hk => by simp [Array.getElem?_setIfInBounds_ne (Ne.symm hk)]) (by simp) rfl rfl rfl (fun c T hc => by rw [hit] at hc; cases hc)
      (fun hrel' => ⟨b, hb, by simp [hblt]⟩)
    refine ⟨.value (.tuple #[.bool true, .int .i64 (pos : Nat), .int .i32 ((Utf8.decode t pos).1 : Nat)]), _, β, _, ?_, .inl rfl, hw.1, wv_three _ _ _⟩
    simp [execOp, ho, hxe, Instr.next, hgi, hp, hset, goInt, Result.andThen]
  · exact .same hs (x := .tuple #[.bool false]) (by simp [execOp, ho, hxe, Instr.next, hgi, hp, Result.andThen]) wv_over

theorem ok_mki {t : TypeId} {x : Operand} {td : TypeDesc} (ho : o.op = .makeInterface t x) (ht : C.P.underlying t = some td) (hni : ∀ ms, td ≠ .interface ms) (hs : HoldsB C U s β a w) : OpOk C U a w o (.ifc t (s.ev x)) s := by
  have h1 := hs.evw x
  refine .same hs (x := .iface t (a.eval x)) ?_ ⟨fun id hi => h1.1 id (by simpa [DV.refs] using hi), fun ha => .ifc t _ _ (h1.2.1 fun id hi => ha id (by simpa [DV.refs] using hi)), TP.nt fun _ h => by cases h⟩
  have : (Instr.makeInterface t (a.eval x)).run C.P w = .ok (.iface t (a.eval x)) w := by
    unfold Instr.makeInterface
    simp only [Sem.run_bind, run_underlying ht, Result.andThen_ok]
    cases td <;> first | rfl | (exact absurd rfl (hni _))
  simp [execOp, ho, this]

theorem ok_tas {xt t : TypeId} {x : Operand} {td : TypeDesc} {z : Value} {ok : Bool} (ho : o.op = .typeAssert x xt t ok) (ht : C.P.underlying t = some td) (hni : ∀ ms, td ≠ .interface ms) (hz : (C.P.info? t).bind (·.zero) = some z) (hs : HoldsB C U s β a w) :
    (∀ d, s.ev x = .ifc t d → OpOk C U a w o (lkRes ok d true) s) ∧ (ok = true → (∀ T d, T ≠ t → s.ev x = .ifc T d → OpOk C U a w o (.tup [.v z, .v (.bool false)]) s) ∧ (s.ev x = .v .nilIface → OpOk C U a w o (.tup [.v z, .v (.bool false)]) s)) := by
  have h1 := hs.ev x
  have hzero := run_zero hz w
  refine ⟨fun d hx => ?_, fun hok => ⟨fun T d hT hx => ?_, fun hx => ?_⟩⟩
  · rw [hx] at h1
    obtain ⟨u, e1, hr⟩ := rel_ifc h1
    refine .same hs (x := if ok then .tuple #[u, .bool true] else u) ?_ (lkRes_rel (hs.evp x hr (by rw [hx]; simp [DV.refs])))
    have : (Instr.typeAssert (.iface t u) xt t ok).run C.P w = .ok (if ok then .tuple #[u, .bool true] else u) w := by
      unfold Instr.typeAssert
      simp only [Sem.run_bind, run_underlying ht, Result.andThen_ok]
      cases td <;> first | (simp; done) | (exact absurd rfl (hni _))
    simp [execOp, ho, e1, this]
  · subst hok
    rw [hx] at h1
    obtain ⟨u, e1, hr⟩ := rel_ifc h1
    refine .same hs (x := .tuple #[z, .bool false]) ?_ (wv_two (WV.v z))
    have : (Instr.typeAssert (.iface T u) xt t true).run C.P w = .ok (.tuple #[z, .bool false]) w := by
      unfold Instr.typeAssert
      simp only [Sem.run_bind, run_underlying ht, Result.andThen_ok]
      cases td <;> first | (simp [hT, hzero]; done) | (exact absurd rfl (hni _))
    simp [execOp, ho, e1, this]
  · subst hok
    rw [hx] at h1
    have e1 := rel_v h1
    refine .same hs (x := .tuple #[z, .bool false]) ?_ (wv_two (WV.v z))
    have : (Instr.typeAssert .nilIface xt t true).run C.P w = .ok (.tuple #[z, .bool false]) w := by
      unfold Instr.typeAssert
      simp only [Sem.run_bind, run_underlying ht, Result.andThen_ok]
      cases td <;> first | (simp [hzero]; done) | (exact absurd rfl (hni _))
    simp [execOp, ho, e1, this]

theorem ok_sla {ar e : TypeId} {x : Operand} {n id : Nat} {cs : List DV} (ho : o.op = .slice ar x none none none) (har : C.P.underlying ar = some (.array n e)) (hce : 0 < C.P.cellsOf e) (hn0 : 0 < n) (hnb : n ≤ 2147483648)
    (hs : HoldsB C U s β a w) (hx : s.ev x = .pt id 0) (hid : s.ho id = some (.row ar cs)) (hl : cs.length = n * C.P.cellsOf e) : OpOk C U a w o (.ms id 0 n (C.P.cellsOf e)) s := by
  have h1 := hs.ev x
  rw [hx] at h1
  obtain ⟨b, hxe, hb⟩ := rel_pt h1
  obtain ⟨c, hw, hlc, hex, hr⟩ := hs.row hb hid
  have hsz := hex (by simp [isArr, har])
  refine .same hs (x := .slice (some ⟨b, 0, none⟩) n n) ?_ (hs.evp x (.ms id 0 n (C.P.cellsOf e) b n c ar hb hw (Nat.le_refl _) (by simp only [maxLen]; omega) (by omega)) (by rw [hx]; simp [DV.refs]))
  have hso := run_sizeOf_pos (P := C.P) (t := e) (by omega) w
  have hne : ¬ n = 0 := by omega
  simp [execOp, ho, hxe, Instr.sliceAt, run_underlying har, Instr.sureAddr, Instr.sliceBounds, hso, Addr.add]

theorem srcC_ok {es m : Nat} {x : Operand} {news : List DV} (hs : HoldsB C U s β a w) (h : srcC s es (s.ev x) = some (news, m)) (hnl : news.length = m * es) :
    ∃ us : List Value, us.length = news.length ∧ (∀ u ∈ us, u.oneCell' = true) ∧ (∀ (j : Nat) (u : Value) (d : DV), us[j]? = some u → news[j]? = some d → WV C U (s.vw C) β w u d) ∧
      ((∃ ad cap, a.eval x = .slice (some ad) m cap ∧ ∀ (j : Nat) (u : Value), us[j]? = some u → w.cell? (ad.add j) = some u) ∨ (∃ cap, a.eval x = .slice none 0 cap ∧ m = 0 ∧ us = [])) := by
  have h1 := hs.ev x
  unfold srcC at h
  split at h
  · rename_i cs n hx
    cases h
    rw [hx] at h1
    rcases rel_sl h1 with ⟨ad, cap, e1, rfl, rfl⟩ | ⟨ad, cap, us, e1, hl, hn, ha, h1c, hc, hr⟩
    · refine ⟨[], rfl, by simp, by simp, ?_⟩
      cases ad with
      | none => exact .inr ⟨cap, e1, rfl, rfl⟩
      | some ad => exact .inl ⟨ad, cap, e1, by simp⟩
    · exact ⟨us, hl, h1c, fun j u d hu hd => wv_imm (hr j u d hu hd), .inl ⟨ad, cap, e1, hc⟩⟩
  · rename_i cap hx
    cases h
    rw [hx] at h1
    exact ⟨[], rfl, by simp, by simp, .inr ⟨cap, rel_v h1, rfl, rfl⟩⟩
  · rename_i id off n es' hx
    rw [hx] at h1
    split at h
    · rename_i T' cs hrow
      split at h
      · rename_i hfit
        obtain ⟨rfl, hfit⟩ := hfit
        cases h
        rcases rel_ms h1 with ⟨e1, rfl, rfl⟩ | ⟨b, cap, c, T, e1, hb, hw, hn, hm, hcap⟩
        · exact ⟨[], by simp, by simp, by simp, .inr ⟨0, e1, rfl, rfl⟩⟩
        · obtain ⟨c', hw', hl, _, hr⟩ := hs.row hb hrow
          rw [hw] at hw'
          injection hw' with hw'
          injection hw' with hcc hT
          subst hT hcc
          refine ⟨(c.toList.drop off).take (m * es'), by simp; omega, fun u hu => ?_, fun j u d hu hd => ?_, .inl ⟨_, cap, e1, fun j u hu => ?_⟩⟩
          · obtain ⟨j, hj, rfl⟩ := List.mem_iff_getElem.1 hu
            have hjl : off + j < cs.length := by simp at hj; omega
            refine (hr (off + j) _ cs[off + j] ?_ (List.getElem?_eq_getElem hjl)).2
            rw [List.getElem_take, List.getElem_drop]
            simp
          · rw [List.getElem?_take] at hu hd
            split at hu
            · rename_i hj
              rw [if_pos hj] at hd
              exact (hr (off + j) u d (by simpa using hu) (by simpa using hd)).1
            · cases hu
          · rw [List.getElem?_take] at hu
            split at hu
            · exact cell_row hw j u hu
            · cases hu
      · cases h
    · cases h
  · cases h

theorem HoldsB.rowSet {T : TypeId} {id b off : Nat} {cs gd : List DV} {g : List Value} {c : Array Value} (hs : HoldsB C U s β a w) (hb : β id = some b) (hid : s.ho id = some (.row T cs)) (hw : w.heap[b]? = some (.cells c T (0, 0)))
    (hgl : g.length = gd.length) (g1 : ∀ u ∈ g, u.oneCell' = true) (gr : ∀ (j : Nat) (u : Value) (d : DV), g[j]? = some u → gd[j]? = some d → WV C U (s.vw C) β w u d) (hfit : off + gd.length ≤ cs.length) :
    HoldsB C U (s.upd nid (.wr id (.row T (cs.take off ++ gd ++ cs.drop (off + gd.length))))) β a (w.setRow b (c.toList.take off ++ g ++ c.toList.drop (off + g.length)).toArray) := by
  obtain ⟨c0, hw0, hl, hex, hr⟩ := hs.row hb hid
  rw [hw] at hw0
  injection hw0 with hw0
  injection hw0 with hcc
  subst hcc
  refine (hs.wrote nid id b _ hb (by rw [hid]; rfl) (fun b' hb' => setRow_other w b b' _ hb') (by simp) rfl rfl rfl ?_ fun hrel => ?_).1
  · intro c' T' hc'
    rw [hw] at hc'
    cases hc'
    refine ⟨_, setRow_heap w b c _ T _ hw, ?_⟩
    simp; omega
  · refine .inr ⟨b, _, hb, setRow_heap w b c _ T _ hw, by simp; omega, fun h => (by have := hex h; simp; omega), fun j u d hu hd => ?_⟩
    have hu' : (c.toList.take off ++ g ++ c.toList.drop (off + gd.length))[j]? = some u := by rw [← hgl]; simpa using hu
    rw [List.append_assoc, List.getElem?_append] at hu' hd
    simp only [List.length_take, Array.length_toList] at hu' hd
    rw [show min off c.size = off by omega] at hu'
    rw [show min off cs.length = off by omega] at hd
    by_cases hj : j < off
    · rw [if_pos hj] at hu' hd
      rw [List.getElem?_take_of_lt hj] at hu' hd
      have := hr j u d (by simpa using hu') hd
      exact ⟨hrel _ _ this.1, this.2⟩
    · rw [if_neg hj] at hu' hd
      rw [List.getElem?_append] at hu' hd
      rw [hgl] at hu'
      by_cases hj2 : j - off < gd.length
      · rw [if_pos hj2] at hu' hd
        exact ⟨hrel _ _ (gr _ u d hu' hd), g1 u (List.mem_of_getElem? hu')⟩
      · rw [if_neg hj2] at hu' hd
        rw [List.getElem?_drop] at hu' hd
        have := hr _ u d (by simpa using hu') hd
        exact ⟨hrel _ _ this.1, this.2⟩

theorem ok_cpy {t T e : TypeId} {c : Call} {x y : Operand} {id off n m es : Nat} {cs news : List DV} (ho : o.op = .call c) (hc : c.callee = .builtin .copy) (hargs : c.args.toList = [x, y]) (hty : c.argTypes[0]? = some t) (ht : C.P.underlying t = some (.slice e))
    (hes : es = C.P.cellsOf e) (hce : 0 < C.P.cellsOf e) (hs : HoldsB C U s β a w) (hx : s.ev x = .ms id off n es) (hid : s.ho id = some (.row T cs)) (hy : srcC s es (s.ev y) = some (news, m)) (hn0 : 0 < n) (hfit : off + n * es ≤ cs.length) (hnl : news.length = m * es) :
    OpOk C U a w o (.v (.int .i64 (min m n : Nat))) (s.upd nid (.wr id (.row T (cs.take off ++ news.take (min m n * es) ++ cs.drop (off + min m n * es))))) := by
  have hA : c.args = #[x, y] := by apply Array.ext'; simpa using hargs
  have h1 := hs.ev x
  rw [hx] at h1
  obtain ⟨us, ul, u1, ur, usrc⟩ := srcC_ok hs hy hnl
  rcases rel_ms h1 with ⟨_, _, h0⟩ | ⟨b, cap, cc, T', e1, hb, hw, hn, hm, hcap⟩
  · omega
  obtain ⟨c0, hw0, hl, hex, hr⟩ := hs.row hb hid
  rw [hw] at hw0
  injection hw0 with hw0
  injection hw0 with hcc hTT
  subst hcc hTT
  have hso : (sizeOf e).run C.P w = .ok es w := by rw [hes]; exact run_sizeOf_pos (by omega) w
  have hmn : min m n * es ≤ m * es := Nat.mul_le_mul_right _ (Nat.min_le_left _ _)
  have hmn2 : min m n * es ≤ n * es := Nat.mul_le_mul_right _ (Nat.min_le_right _ _)
  have htl : (us.take (min m n * es)).length = min m n * es := by simp; omega
  have htd : (news.take (min m n * es)).length = min m n * es := by simp; omega
  have hst := run_storeCells_at C.P b off T' (us.take (min m n * es)) 0 cc w hw (by rw [htl]; omega) (fun u hu => u1 u (List.mem_of_mem_take hu))
  simp only [Nat.add_zero] at hst
  have hfirst : (Builtin.firstCells es (min m n) (a.eval y)).run C.P w = .ok (us.take (min m n * es)).toArray w := by
    rcases usrc with ⟨ad, cap', e2, hcell⟩ | ⟨cap', e2, rfl, rfl⟩
    · rw [e2]
      have := run_loadCells_list (P := C.P) w ad (us.take (min m n * es)) (fun j v hv => hcell j v (by
        rw [List.getElem?_take] at hv
        split at hv
        · exact hv
        · cases hv))
      rw [htl] at this
      exact this
    · rw [e2]; simp [Builtin.firstCells]
  have hlen : (Builtin.lenOf (a.eval y)).run C.P w = .ok m w := by
    rcases usrc with ⟨ad, cap', e2, _⟩ | ⟨cap', e2, rfl, _⟩ <;> rw [e2] <;> rfl
  have hwr := hs.rowSet (nid := nid) (off := off) (g := us.take (min m n * es)) (gd := news.take (min m n * es)) hb hid hw (by rw [htl, htd]) (fun u hu => u1 u (List.mem_of_mem_take hu))
    (fun j u d hu hd => by
      rw [List.getElem?_take] at hu hd
      split at hu
      · rename_i hj
        rw [if_pos hj] at hd
        exact ur j u d hu hd
      · cases hu) (by rw [htd]; omega)
  rw [htd, htl] at hwr
  rw [htl] at hst
  refine ⟨.value (.int .i64 (min m n : Nat)), _, β, _, ?_, .inl rfl, hwr, WV.v _⟩
  have hmin : Nat.min m n = min m n := rfl
  simp [execOp, ho, resolve, hc, hA, invoke, builtin, Builtin.copy_, hty, e1, run_underlying ht, hlen, hso, hmin, hfirst, hst, goInt, Result.andThen]

/-- Bytes as a string. -/
theorem ok_b2s {t t' e : TypeId} {x : Operand} {news : List DV} {m : Nat} {ns : List Int} (ho : o.op = .convert t t' x) (hs1 : C.P.underlying t = some (.slice e)) (he : C.P.underlying e = some (.int .u8)) (hd : C.P.underlying t' = some .string)
    (hs : HoldsB C U s β a w) (h : srcC s 1 (s.ev x) = some (news, m)) (hl : news.length = m) (hn : numsV news = some ns) : OpOk C U a w o (.v (.string (strOfNums ns))) s := by
  obtain ⟨us, hul, huo, hur, hcase⟩ := srcC_ok hs h (by omega)
  obtain ⟨hnl, hng⟩ := numsV_get hn
  have hus : us = ns.map (Value.int .u8) := by
    apply List.ext_getElem?
    intro j
    rw [List.getElem?_map]
    by_cases hj : j < us.length
    · have h1 := List.getElem?_eq_getElem hj
      have h2 := List.getElem?_eq_getElem (l := news) (i := j) (by omega)
      obtain ⟨n, h3, h4⟩ := hng j _ h2
      have h5 := hur j _ _ h1 h2
      rw [h4] at h5
      rw [h1, h3, h5.v_eq]
      rfl
    · rw [List.getElem?_eq_none (by omega), List.getElem?_eq_none (by omega)]
      rfl
  refine .same hs (x := .string (strOfNums ns)) ?_ (WV.v _)
  rcases hcase with ⟨ad, cap, e1, hc⟩ | ⟨cap, e1, rfl, rfl⟩
  · have hlc := run_loadCells_list (P := C.P) w ad us hc
    have hum : us.length = m := by omega
    rw [hum, hus] at hlc
    have hb := run_bytesToString (P := C.P) w ad m cap ns hlc
    rw [foldl_push_bytes] at hb
    have e2 : (⟨ByteArray.empty.data ++ (ns.map fun n => UInt8.ofNat n.toNat).toArray⟩ : ByteArray) = strOfNums ns := by
      simp [strOfNums, ByteArray.empty, ByteArray.emptyWithCapacity]
      rfl
    rw [e2] at hb
    simp only [execOp, ho, e1, Sem.run_bind, run_convert_bytes_string w t t' e (some ad) m cap hs1 he hd, hb, Result.andThen_ok, Sem.run_pure]
  · have hns : ns = [] := List.eq_nil_of_length_eq_zero (by rw [hnl, hl])
    subst hns
    have hb := run_convert_bytes_nil (P := C.P) w t e hs1 he 0 cap t' hd
    have e2 : ByteArray.empty = strOfNums [] := rfl
    rw [e2] at hb
    simp only [execOp, ho, e1, Sem.run_bind, hb, Result.andThen_ok, Sem.run_pure]

theorem freeze_heap {w : World} {b k : Nat} {c : Array Value} {T : TypeId} (h : w.heap[b]? = some (.cells c T (0, 0))) :
    (w.freeze ⟨b, k, none⟩ 1).heap[b]? = some (.cells c T (k, k + 1)) ∧ (∀ i, i ≠ b → (w.freeze ⟨b, k, none⟩ 1).heap[i]? = w.heap[i]?) ∧ (w.freeze ⟨b, k, none⟩ 1).heap.size = w.heap.size := by
  unfold World.freeze
  rw [if_neg (by decide)]
  refine ⟨?_, fun i hi => ?_, by simp⟩
  · simp [Array.getElem?_modify, h]
  · simp only [Array.getElem?_modify]
    rw [if_neg (fun e => hi e.symm)]

/-- A literal's bytes are marked as a string's: the row is given away, and read as what it holds. -/
theorem ok_frz {t e T : TypeId} {x : Operand} {id n : Nat} {cs : List DV} {ns : List Int} (ho : o.op = .convert t t x) (ht : C.P.underlying t = some (.slice e)) (he : C.P.underlying e = some (.int .u8))
    (hs : HoldsB C U s β a w) (hn : ¬ U nid) (hx : s.ev x = .ms id 0 n 1) (hid : s.ho id = some (.row T cs)) (h0 : 0 < n) (hl : cs.length = n) (hns : numsV cs = some ns) : OpOk C (Un U nid) a w o (.sl cs n) (s.upd nid (.mv (some id) (.row T []))) := by
  have h1 := hs.ev x
  rw [hx] at h1
  rcases rel_ms h1 with ⟨_, _, hz⟩ | ⟨b, cap, c, T', e1, hb, hw, hnc, hm, hcap⟩
  · omega
  · obtain ⟨c', hw', hlc, _, hr⟩ := hs.row hb hid
    rw [hw] at hw'
    cases hw'
    have hblt : b < w.heap.size := hs.hh.lt hb
    obtain ⟨f1, f2, f3⟩ := freeze_heap (k := c.size) hw
    obtain ⟨w', hw'⟩ : ∃ w', w.freeze ⟨b, c.size, none⟩ 1 = w' := ⟨_, rfl⟩
    rw [hw'] at f1 f2 f3
    have hos : w'.os = w.os ∧ w'.tape = w.tape ∧ w'.output = w.output := by
      rw [← hw']; unfold World.freeze; rw [if_neg (by decide)]; exact ⟨rfl, rfl, rfl⟩
    have hidn : id ≠ nid := fun h => hn (h ▸ hs.hh.used (vw_alive (by rw [hid]; rfl)))
    have htn := hs.turned (β' := upd (upd β id none) nid none) (w' := w') hn (some id) (fun i hi => by cases hi; rw [hid]; rfl) (.row T []) (fun k hk hne => f2 k fun h => hne id rfl (by rw [h]; exact hb))
      hos.1 hos.2.1 hos.2.2 (by omega) (fun j hj hjo => by rw [upd_other _ _ hj, upd_other _ _ (fun h => hjo (by rw [h]))]) (fun i hi => by cases hi; rw [upd_other _ _ hidn, upd_same])
      (fun b' hb' => by rw [upd_same] at hb'; cases hb') (fun _ => .inl ⟨upd_same _ _ _, rfl⟩)
    obtain ⟨hnl, hng⟩ := numsV_get hns
    have hnob : ∀ j, upd (upd β id none) nid none j ≠ some b := fun j hj => by
      unfold upd at hj
      split at hj
      · cases hj
      · split at hj
        · cases hj
        · rename_i h2
          exact h2 (hs.hh.inj j id b hj hb)
    have hrun : (execOp a.eval o).run C.P w = .ok (.value (.slice (some ⟨b, 0, none⟩) n cap)) w' := by
      have hsh : w.shape? b = some (T, c.size) := by unfold World.shape?; rw [hw]
      simp [execOp, ho, e1, convert, run_underlying ht, run_underlying he, markStringish, hsh, hw']
    refine ⟨_, w', _, _, hrun, .inl rfl, htn.1, wv_imm ?_⟩
    refine .sl ⟨b, 0, none⟩ n cap (c.toList.take n) cs (by simp; omega) hnc ⟨?_, by show b < w'.heap.size; omega, hnob⟩ (fun u hu => ?_) (fun j u hu => ?_) (fun j u d hu hd => ?_)
    · rcases (hs.hh.bge id b hb).1 with h | h
      · exact .inr (.inl h)
      · exact .inr (.inr h)
    · obtain ⟨j, hj, rfl⟩ := List.mem_iff_getElem.1 hu
      simp at hj
      have hjc : j < cs.length := by omega
      have := (hr j c[j] cs[j] (by simp) (List.getElem?_eq_getElem hjc)).2
      simpa using this
    · have hj := (List.getElem?_eq_some_iff.1 hu).1
      simp at hj
      rw [Addr.add_lit, cell_of_row w' _ _ _ _ _ f1]
      rw [List.getElem?_take_of_lt (by omega)] at hu
      simpa using hu
    · have hj := (List.getElem?_eq_some_iff.1 hu).1
      simp at hj
      rw [List.getElem?_take_of_lt (by omega)] at hu
      obtain ⟨m, _, rfl⟩ := hng j d hd
      have h5 := (hr j u _ (by simpa using hu) hd).1
      rw [h5.v_eq]
      exact .v _

end ops
end Go.DD

/- All operations that are no calls, in one. -/
namespace Go.DD
open Go.RowKit (Below)

theorem execU_ok {C : Ctx} {U : Nat → Prop} {s : DS} {β : Nat → Option Nat} {a : Act} {w : World} {o : Oper} {d : DV} {u : Upd} {nid : Nat} {op : DOp} (hs : HoldsB C U s β a w) (hn : ¬ U nid)
    (hc : compOp C.P o.op = some op) (he : execU nid s op = some (d, u)) : OpOk C (Ux U nid u) a w o d (s.upd nid u) := by
  have hmup : ∀ t x k y kd, o.op = .mapUpdate t x k y ∨ o.op = .insert t x k y → mapKd C.P t = some kd → op = .mup kd x k y → OpOk C (Ux U nid u) a w o d (s.upd nid u) := by
    rintro t x k y kd ho hkd rfl
    unfold mapKd at hkd
    split at hkd
    · rename_i kt et ht
      simp only [execU] at he
      split at he
      · rename_i kv hk
        split at he
        · rename_i hkey
          split at he
          · rename_i id hx
            split at he
            · rename_i ck es hid
              split at he
              · rename_i p hp; cases he; exact ok_mup ho ht hkd hs hk hkey hx hid (ck' := p.1) (es' := p.2) hp
              · cases he
            · cases he
          · cases he
        · cases he
      · cases he
    · cases hkd
  unfold compOp at hc
  split at hc
  case h_1 x ho => cases hc; simp [execU] at he; obtain ⟨rfl, rfl⟩ := he; exact ok_mv (.inl ho) hs
  case h_2 x ho => cases hc; simp [execU] at he; obtain ⟨rfl, rfl⟩ := he; exact ok_mv (.inr ho) hs
  case h_3 c x y ho =>
    cases hc
    simp only [execU] at he
    split at he
    · rename_i t ht; cases he; exact ok_pick ho hs ht
    · cases he
  case h_4 T ho =>
    obtain ⟨z, hz, rfl⟩ := Option.map_eq_some_iff.1 hc
    simp [execU] at he; obtain ⟨rfl, rfl⟩ := he
    exact ok_al ho hz hs hn
  case h_5 T x ho =>
    cases hc
    simp only [execU] at he
    split at he
    · rename_i hx; cases he; exact ok_bx ho hs hn hx
    · cases he
  case h_6 t ps ho =>
    split at hc
    · rename_i fs z ht hz
      split at hc
      · cases hc
      · rename_i hpos
        obtain ⟨l, hl, rfl⟩ := Option.map_eq_some_iff.1 hc
        simp only [execU] at he
        split at he
        · rename_i cs hf
          cases he
          exact ok_bld ho ht hz (by
            have h2 : (fs.toList.all fun f => C.P.cellsOf f.type != 0) = true := by simpa using hpos
            intro f hf'
            have := List.all_eq_true.1 h2 f hf'
            simpa using this) hl hs hf
        · cases he
    · cases hc
  case h_7 t n ps ho =>
    split at hc
    · rename_i e ht
      obtain ⟨z, hz, hc⟩ := Option.bind_eq_some_iff.1 hc
      split at hc
      · rename_i hn'
        cases hc
        simp only [execU] at he
        split at he
        · rename_i cs hf
          split at he
          · rename_i hzl
            cases he
            exact ok_bsl hn'.1 ho ht hz hn'.2.1 hn'.2.2 hzl hs hn hf
          · cases he
        · cases he
      · cases hc
    · cases hc
  case h_8 t x ho =>
    obtain ⟨k, hk, rfl⟩ := Option.map_eq_some_iff.1 hc
    simp only [execU] at he
    split at he
    · rename_i cs hx
      obtain ⟨d', hp, he⟩ := Option.map_eq_some_iff.1 he
      cases he
      exact ok_ld_ia ho hk hs hx hp
    · rename_i id off hx
      split at he
      · rename_i T cs hid
        obtain ⟨d', hp, he⟩ := Option.map_eq_some_iff.1 he
        cases he
        exact ok_ld_pt ho hk hs hx hid hp
      · cases he
    · cases he
  case h_9 t x y ho =>
    obtain ⟨k, hk, rfl⟩ := Option.map_eq_some_iff.1 hc
    simp only [execU] at he
    split at he
    · rename_i id off hx
      split at he
      · rename_i T cs hid
        split at he
        · rename_i hcond
          cases he
          exact ok_st ho hk rfl hs hx hid hcond.1 hcond.2.1 hcond.2.2
        · cases he
      · cases he
    · cases he
  case h_10 x ho =>
    cases hc
    simp only [execU] at he
    have key : (d, u) = (s.ev x, Upd.keep) ∧ ((∃ cs, s.ev x = .ia cs) ∨ (∃ id off, s.ev x = .pt id off) ∨ (∃ f cs, s.ev x = .fn (.func f) cs) ∨ ∃ T d, s.ev x = .ifc T d) := by
      split at he
      · rename_i cs hx; cases he; exact ⟨by rw [hx], .inl ⟨_, hx⟩⟩
      · rename_i id off hx; cases he; exact ⟨by rw [hx], .inr (.inl ⟨_, _, hx⟩)⟩
      · rename_i f cs hx; cases he; exact ⟨by rw [hx], .inr (.inr (.inl ⟨_, _, hx⟩))⟩
      · rename_i T d hx; cases he; exact ⟨by rw [hx], .inr (.inr (.inr ⟨_, _, hx⟩))⟩
      · cases he
    obtain ⟨h1, h2⟩ := key
    cases h1
    exact ok_nck ho hs h2
  case h_11 op' t x y yt ho =>
    have hbin : op = .bin op' x y → OpOk C (Ux U nid u) a w o d (s.upd nid u) := by
      rintro rfl
      simp only [execU] at he
      obtain ⟨v, hv, he⟩ := Option.map_eq_some_iff.1 he
      cases he
      exact ok_bin ho hs hv
    have hnil : ∀ k neg, (op' = if neg then .neq else .eql) → nilT C.P k t → (k = 4 → isCst x = true ∨ isCst y = true) → op = .nilq k neg x y → OpOk C (Ux U nid u) a w o d (s.upd nid u) := by
      rintro k neg hop hnt hcst rfl
      simp only [execU] at he
      split at he
      · rename_i b hx hy
        cases he
        exact ok_nilq hop ho hnt hcst hs hx hy (.inl rfl)
      · rename_i b hx hy hh
        cases he
        have := ok_nilq (b := b) (c := true) hop ho hnt hcst hs hy hh (.inr rfl)
        cases b <;> exact this
      · cases he
    split at hc
    · cases hc; exact hbin rfl
    · cases hc; exact hbin rfl
    · rename_i ht
      have hbb : ∀ neg, (op' = if neg then .neq else .eql) → op = .bb neg x y → OpOk C (Ux U nid u) a w o d (s.upd nid u) := by
        rintro neg hop rfl
        simp only [execU] at he
        split at he
        · rename_i p q hx hy
          cases he
          exact ok_bb hop ho ht hs hx hy
        · cases he
      split at hc
      · cases hc; exact hbb false rfl rfl
      · cases hc; exact hbb true rfl rfl
      · cases hc
    · rename_i fs ht
      split at hc
      · rename_i hg
        have hst : ∀ neg ks, (op' = if neg then .neq else .eql) → flatEq C.P 0 fs.toList = some ks → op = .eqs neg ks x y → OpOk C (Ux U nid u) a w o d (s.upd nid u) := by
          rintro neg ks hop hk rfl
          simp only [execU] at he
          split at he
          · rename_i xs ys hx hy
            obtain ⟨r, hr, he⟩ := Option.map_eq_some_iff.1 he
            cases he
            exact ok_eqs hop ho ht hg.1 hg.2 hk hs hx hy hr
          · cases he
        split at hc
        · obtain ⟨ks, hk, rfl⟩ := Option.map_eq_some_iff.1 hc; exact hst false ks rfl hk rfl
        · obtain ⟨ks, hk, rfl⟩ := Option.map_eq_some_iff.1 hc; exact hst true ks rfl hk rfl
        · cases hc
      · cases hc
    · rename_i e ht
      split at hc
      · cases hc; exact hnil 0 false rfl ⟨e, ht⟩ (fun h => by cases h) rfl
      · cases hc; exact hnil 0 true rfl ⟨e, ht⟩ (fun h => by cases h) rfl
      · cases hc
    · rename_i e ht
      split at hc
      · cases hc; exact hnil 1 false rfl ⟨e, ht⟩ (fun h => by cases h) rfl
      · cases hc; exact hnil 1 true rfl ⟨e, ht⟩ (fun h => by cases h) rfl
      · cases hc
    · rename_i e f ht
      split at hc
      · cases hc; exact hnil 2 false rfl ⟨e, f, ht⟩ (fun h => by cases h) rfl
      · cases hc; exact hnil 2 true rfl ⟨e, f, ht⟩ (fun h => by cases h) rfl
      · cases hc
    · rename_i e f g ht
      split at hc
      · cases hc; exact hnil 3 false rfl ⟨e, f, g, ht⟩ (fun h => by cases h) rfl
      · cases hc; exact hnil 3 true rfl ⟨e, f, g, ht⟩ (fun h => by cases h) rfl
      · cases hc
    · rename_i e ht
      split at hc
      · rename_i hcst
        have hcst' : isCst x = true ∨ isCst y = true := by simpa using hcst
        split at hc
        · cases hc; exact hnil 4 false rfl ⟨e, ht⟩ (fun _ => hcst') rfl
        · cases hc; exact hnil 4 true rfl ⟨e, ht⟩ (fun _ => hcst') rfl
        · cases hc
      · cases hc
    · cases hc
  case h_12 op' t x ho =>
    cases hc
    simp only [execU] at he
    obtain ⟨v, hv, he⟩ := Option.map_eq_some_iff.1 he
    cases he
    exact ok_un ho hs hv
  case h_13 src dst x ho =>
    split at hc
    · rename_i k' k h1 h2
      cases hc
      simp only [execU] at he
      split at he
      · rename_i kk n hx; cases he; exact ok_cvi ho h1 h2 hs hx
      · cases he
    · rename_i e h1 h2
      split at hc
      · rename_i h3
        cases hc
        simp only [execU] at he
        split at he
        · rename_i b hx; cases he; exact ok_s2b ho h1 h2 h3 hs hx
        · cases he
      · cases hc
    · rename_i e h1 h2
      split at hc
      · rename_i h3
        cases hc
        simp only [execU] at he
        split at he
        · rename_i news m hsrc
          split at he
          · rename_i hlen
            obtain ⟨ns, hns, he⟩ := Option.map_eq_some_iff.1 he
            cases he
            exact ok_b2s ho h1 h3 h2 hs hsrc hlen hns
          · cases he
        · cases he
      · cases hc
    · rename_i e e' h1 h2
      split at hc
      · rename_i heq
        subst heq
        split at hc
        · rename_i h3
          cases hc
          simp only [execU] at he
          split at he
          · rename_i id n hx
            split at he
            · rename_i T cs hid
              split at he
              · rename_i hfit
                cases he
                obtain ⟨ns, hns⟩ := Option.isSome_iff_exists.1 hfit.2.2
                exact ok_frz ho h1 h3 hs hn hx hid hfit.1 hfit.2.1 hns
              · cases he
            · cases he
          · cases he
        · cases hc
      · cases hc
    · cases hc
  case h_14 f first cap ho =>
    cases hc
    simp only [execU, Option.some.injEq, Prod.mk.injEq] at he; obtain ⟨rfl, rfl⟩ := he
    exact ok_mkf ho hs
  case h_15 t l c ho =>
    split at hc
    · rename_i e ht
      split at hc
      rotate_left
      · cases hc
      rename_i hna
      obtain ⟨z, hz, rfl⟩ := Option.map_eq_some_iff.1 hc
      simp only [execU] at he
      split at he
      · rename_i l' c' hl hc'
        split at he
        · rename_i h
          cases he
          exact ok_mks hna ho ht hz h.2.2.2.2.1 (by have := h.2.2.2.2.2; omega) h.2.2.2.1 hs hn hl hc' h.1 h.2.1 h.2.2.1
        · cases he
      · cases he
    · cases hc
  case h_16 t x lo hi mx ho =>
    split at hc
    · rename_i e ht
      split at hc
      · rename_i hinfo
        cases hc
        simp only [execU] at he
        split at he
        · rename_i cs n hx
          split at he
          · rename_i l h hlo hhi
            split at he
            · rename_i hb
              cases he
              exact (ok_sli ho ht hinfo hs).1 cs n hx hlo hhi hb.1 hb.2.1 hb.2.2
            · cases he
          · cases he
        · rename_i id off n es' hx
          split at he
          · rename_i l h hlo hhi
            split at he
            · rename_i hb
              obtain ⟨rfl, hb⟩ := hb
              cases he
              exact (ok_sli ho ht hinfo hs).2.1 id off n hx hlo hhi hb.1 hb.2.1 hb.2.2
            · cases he
          · cases he
        · rename_i hx
          split at he
          · rename_i l h hlo hhi
            split at he
            · rename_i hb
              cases he
              exact (ok_sli ho ht hinfo hs).2.2 hx hlo hhi hb.1 hb.2
            · cases he
          · cases he
        · cases he
      · cases hc
    · rename_i ht
      cases hc
      simp only [execU] at he
      split at he
      · rename_i b hx
        split at he
        · rename_i l h hlo hhi
          split at he
          · rename_i hb
            cases he
            exact ok_sls ho ht hs hx hlo hhi hb.1 hb.2.1 hb.2.2
          · cases he
        · cases he
      · cases he
    · rename_i n e har
      split at hc
      · split at hc
        · rename_i hb
          cases hc
          simp only [execU] at he
          split at he
          · rename_i id hx
            split at he
            · rename_i T cs hid
              split at he
              · rename_i hc2
                obtain ⟨rfl, hl⟩ := hc2
                cases he
                exact ok_sla ho har hb.1 hb.2.1 hb.2.2 hs hx hid hl
              · cases he
            · cases he
          · cases he
        · cases hc
      · cases hc
    · cases hc
  case h_17 t x f ho =>
    split at hc
    · rename_i fs ht
      obtain ⟨fd, hf, hc⟩ := Option.bind_eq_some_iff.1 hc
      split at hc
      · cases hc
      · rename_i hz
        cases hc
        simp only [execU] at he
        split at he
        · rename_i cs hx; cases he; exact (ok_fa ho ht hf hz hs).1 cs hx
        · rename_i id off hx; cases he; exact (ok_fa ho ht hf hz hs).2 id off hx
        · cases he
    · cases hc
  case h_18 t x f ho =>
    split at hc
    · rename_i fs ht
      obtain ⟨fd, hf, hc⟩ := Option.bind_eq_some_iff.1 hc
      obtain ⟨k, hk, rfl⟩ := Option.map_eq_some_iff.1 hc
      simp only [execU] at he
      split at he
      · rename_i cs hx
        obtain ⟨d', hp, he⟩ := Option.map_eq_some_iff.1 he
        cases he
        exact ok_fld ho ht hf hk hs hx hp
      · cases he
    · cases hc
  case h_19 t x i ho =>
    split at hc
    · rename_i e ht
      split at hc
      · cases hc
      · rename_i hz
        cases hc
        simp only [execU] at he
        split at he
        · rename_i j cs n hi hx
          split at he
          · rename_i hj; cases he; exact (ok_ia ho ht hz hs hi hj.1).1 cs n hx hj.2
          · cases he
        · rename_i j id off n es' hi hx
          split at he
          · rename_i hj; cases he; exact (ok_ia ho ht hz hs hi hj.1).2 id off n es' hx hj.2
          · cases he
        · cases he
    · rename_i n e ht
      split at hc
      · cases hc
      · rename_i hz
        cases hc
        simp only [execU] at he
        split at he
        · rename_i j id off hi hx
          split at he
          · rename_i hj; cases he; exact (ok_fx ho ht hz hs hi hj.1 hj.2).2 id off hx
          · cases he
        · rename_i j cs hi hx
          split at he
          · rename_i hj; cases he; exact (ok_fx ho ht hz hs hi hj.1 hj.2).1 cs hx
          · cases he
        · cases he
    · cases hc
  case h_20 t x i ho =>
    split at hc
    · rename_i ht
      cases hc
      simp only [execU] at he
      split at he
      · rename_i j b hi hx
        split at he
        · rename_i h0
          obtain ⟨c, hcc, he⟩ := Option.map_eq_some_iff.1 he
          cases he
          exact ok_ixs ho ht hs hi h0 hx hcc
        · cases he
      · cases he
    · cases hc
  case h_21 x i ho =>
    cases hc
    simp only [execU] at he
    split at he
    · rename_i v hv
      cases he
      obtain ⟨ds, hx, hd⟩ := extV_some hv
      exact ok_extv ho hs hx hd
    · split at he
      · rename_i ds hx
        obtain ⟨d', hd, he⟩ := Option.map_eq_some_iff.1 he
        cases he
        exact ok_ext ho hs hx hd
      · cases he
  case h_22 c ho =>
    split at hc
    · cases hc; simp [execU] at he
    · cases hc; simp [execU] at he
    · cases hc; simp [execU] at he
    · rename_i hcal
      split at hc
      · rename_i x t hargs ht
        split at hc
        · rename_i e hu
          cases hc
          have h1 := (ok_len ho hcal hargs ht hs).1 ⟨e, hu⟩
          simp only [execU] at he
          split at he
          · rename_i cs n hx; cases he; exact h1.1 cs n hx
          · rename_i id off n es' hx; cases he; exact h1.2.1 id off n es' hx
          · rename_i n c' hx; cases he; exact h1.2.2 n c' hx
          · cases he
        · rename_i hu
          cases hc
          simp only [execU] at he
          split at he
          · rename_i b hx; cases he; exact (ok_len ho hcal hargs ht hs).2 hu b hx
          · cases he
        · rename_i kt et hu
          cases hc
          have h1 := ok_lnm ho hcal hargs ht hu hs
          simp only [execU] at he
          split at he
          · rename_i hx; cases he; exact h1.1 hx
          · rename_i id hx
            split at he
            · rename_i ck es hid; cases he; exact h1.2 id ck es hx hid
            · cases he
          · cases he
        · cases hc
      · cases hc
    · rename_i hcal
      split at hc
      · rename_i x y t t' hargs hty
        split at hc
        · rename_i htt
          subst htt
          split at hc
          · rename_i e ht
            obtain ⟨z, hz, hc⟩ := Option.bind_eq_some_iff.1 hc
            split at hc
            · rename_i hzl
              cases hc
              simp only [execU] at he
              split at he
              · rename_i old cs n news m hd hsr
                split at he
                · rename_i h
                  cases he
                  exact ok_app hzl.1 ho hcal hargs hty ht hz hzl.2 rfl rfl hs hn hd hsr h.1 h.2.1 h.2.2.1 h.2.2.2
                · cases he
              · cases he
            · cases hc
          · cases hc
        · cases hc
      · cases hc
    · rename_i hcal
      split at hc
      · rename_i x y t hargs hty
        split at hc
        · rename_i e ht
          split at hc
          · rename_i hce
            cases hc
            simp only [execU] at he
            split at he
            · rename_i id off n es' news m hx hy
              split at he
              · rename_i T cs hid
                split at he
                · rename_i h
                  obtain ⟨rfl, h⟩ := h
                  cases he
                  exact ok_cpy ho hcal hargs hty ht rfl hce hs hx hid hy h.1 h.2.1 h.2.2
                · cases he
              · cases he
            · cases he
          · cases hc
        · cases hc
      · cases hc
    · rename_i hcal
      split at hc
      · rename_i x y hargs
        cases hc
        simp only [execU] at he
        split at he
        · rename_i k p k' q hx hy; cases he; exact ok_mm (mx := false) ho hcal hargs hs hx hy
        · cases he
      · cases hc
    · rename_i hcal
      split at hc
      · rename_i x y hargs
        cases hc
        simp only [execU] at he
        split at he
        · rename_i k p k' q hx hy; cases he; exact ok_mm (mx := true) ho hcal hargs hs hx hy
        · cases he
      · cases hc
    · cases hc
  case h_23 t r ho =>
    split at hc
    · cases hc
      simp [execU] at he
      obtain ⟨rfl, rfl⟩ := he
      exact ok_mkm ho hs hn
    · cases hc
  case h_24 t x k ok ho =>
    split at hc
    · rename_i kt et ht
      split at hc
      · rename_i kd z hkd hz
        cases hc
        simp only [execU] at he
        split at he
        · rename_i kv hk
          split at he
          · rename_i hkey
            have h1 := ok_lkp ho ht hkd hz hs hk hkey
            split at he
            · rename_i hx; cases he; exact h1.1 hx
            · rename_i id hx
              split at he
              · rename_i ck es hid
                split at he
                · rename_i p hf; cases he; exact h1.2 id ck es _ hx hid hf
                · rename_i hf; cases he; exact h1.2 id ck es _ hx hid hf
                · cases he
              · cases he
            · cases he
          · cases he
        · cases he
      · cases hc
    · cases hc
  case h_25 t x k ho =>
    split at hc
    · rename_i kt et ht
      split at hc
      · rename_i kd z hkd hz
        cases hc
        simp only [execU] at he
        split at he
        · rename_i kv hk
          split at he
          · rename_i hkey
            split at he
            · rename_i id hx
              split at he
              · rename_i ck es hid
                split at he
                · rename_i p hf; cases he; exact (ok_men ho ht hkd hz hs hk hkey hx hid hf).1 p rfl
                · rename_i hf; cases he; exact (ok_men ho ht hkd hz hs hk hkey hx hid hf).2 rfl
                · cases he
              · cases he
            · cases he
          · cases he
        · cases he
      · cases hc
    · cases hc
  case h_26 t x st y ho =>
    cases hc
    simp only [execU] at he
    split at he
    · rename_i id n hx hst
      split at he
      · rename_i ck es hid
        split at he
        · rename_i i hf; cases he; exact ok_mes ho hs hx hst hid hf
        · cases he
      · cases he
    · cases he
  case h_27 t x ho =>
    split at hc
    · rename_i kt et ht
      cases hc
      simp only [execU] at he
      split at he
      · rename_i hx; cases he; exact (ok_rgm ho ht hs hn).1 hx
      · rename_i id hx
        split at he
        · rename_i ck es hid; cases he; exact (ok_rgm ho ht hs hn).2 id ck es hx hid
        · cases he
      · cases he
    · rename_i ht
      cases hc
      simp only [execU] at he
      split at he
      · rename_i b hx; cases he; exact ok_rgs ho ht hs hn hx
      · cases he
    · cases hc
  case h_28 x isS ho =>
    split at hc
    · cases hc; simp [execU] at he
    · rename_i hS
      have hS' : isS = true := by simpa using hS
      subst hS'
      cases hc
      simp only [execU] at he
      split at he
      · rename_i id hx
        split at he
        · rename_i t pos hid
          split at he
          · rename_i hp; cases he; exact (ok_nxs (nid := nid) ho hs hx hid).1 hp
          · rename_i hp; cases he; exact (ok_nxs (nid := nid) ho hs hx hid).2 hp
        · cases he
      · cases he
  case h_29 x ho => cases hc; simp [execU] at he
  case h_30 t x ho =>
    split at hc
    · cases hc
    · rename_i td hni ht
      cases hc
      simp [execU] at he; obtain ⟨rfl, rfl⟩ := he
      exact ok_mki ho ht (fun ms e => hni ms e) hs
    · cases hc
  case h_31 x xt t ok ho =>
    split at hc
    · cases hc
    · rename_i td hni ht
      split at hc
      · rename_i z hz
        cases hc
        have h1 := ok_tas ho ht (fun ms e => hni ms e) hz hs
        simp only [execU] at he
        split at he
        · rename_i T' d' hx
          split at he
          · rename_i hT; subst hT; cases he; exact h1.1 d' hx
          · rename_i hT
            split at he
            · rename_i hok; cases he; exact (h1.2 hok).1 T' d' hT hx
            · cases he
        · rename_i hx
          split at he
          · rename_i hok; cases he; exact (h1.2 hok).2 hx
          · cases he
        · cases he
      · cases hc
    · cases hc
  case h_32 t x k y ho =>
    obtain ⟨kd, hkd, rfl⟩ := Option.map_eq_some_iff.1 hc
    exact hmup t x k y kd (.inl ho) hkd rfl
  case h_33 t x k y ho =>
    obtain ⟨kd, hkd, rfl⟩ := Option.map_eq_some_iff.1 hc
    exact hmup t x k y kd (.inr ho) hkd rfl
  case h_34 => cases hc


end Go.DD

/- What a function's body starts from, and what holds at its end. -/
namespace Go.DD
open Go.RowKit (Below)

/-- A post over deep states, over the model's. -/
def liftQ (C : Ctx) (Q : Exit → DS → Prop) : Exit → Act → World → Prop := fun e a w => ∃ s, Q e s ∧ Holds C s a w

/-- Wherever it is: in a round of a range over a function, or not. -/
def Ctx.F (C : Ctx) : Fence := { Fence.wide with round := C.rd }
theorem Ctx.F_fn (C : Ctx) (f : FuncId) : C.F.fn f := trivial
theorem calls_in {C : Ctx} {f : FuncId} {args : Array Value} {w : World} {R : Ending → World → Prop} (h : Calls C.P f args w R) : CallsIn C.F 0 C.P f args w R := by
  have h1 : CallsIn Fence.wide 0 C.P f args w R := callsIn_wide.2 h
  cases hr : C.rd with
  | none =>
    have : C.F = Fence.wide := by unfold Ctx.F; rw [hr]; rfl
    rw [this]; exact h1
  | some l =>
    have : C.F = Fence.wide.inRound l := by unfold Ctx.F; rw [hr]; rfl
    rw [this]; exact CallsIn.inRound l h1
/-- A piece of code, from a deep state. -/
def DW (C : Ctx) (c : DC) (Q : Exit → DS → Prop) (s : DS) : Prop :=
  ∀ code, compC C.P C.nt code = some c → ∀ a w, Holds C s a w → code.wpIn C.F 0 C.P (liftQ C Q) a w

structure DF where
  code : DC
  res : List (Nat × Option (Option Nat))
  nt : Nat
  deriving Inhabited

def compRes (P : Program) : ResultVar → Option (Nat × Option (Option Nat))
  | .tmp t => some (t, none)
  | .cell a T => (tkind P T).map fun k => (a, some k)

def compFn (P : Program) (fn : Func) : Option DF :=
  match fn.body with
  | some b => match compC P fn.ntmps b, fn.results.toList.mapM (compRes P) with
    | some c, some r => some { code := c, res := r, nt := fn.ntmps }
    | _, _ => none
  | none => none

def resD (s : DS) : Nat × Option (Option Nat) → Option DV
  | (t, none) => some (s.ev (.tmp t))
  | (t, some k) => match s.ev (.tmp t) with
    | .pt id off => match s.ho id with
      | some (.row _ cs) => partD k (cs.drop off)
      | _ => none
    | _ => none
def resV (s : DS) (rs : List (Nat × Option (Option Nat))) : Option DV :=
  match rs.mapM (resD s) with
  | some [d] => some d
  | some ds => some (.tup ds)
  | none => none
/-- The slots of a function that is entered. -/
def argF (ds : List DV) (t : Nat) : DV := (ds[t]?).getD .any

theorem wv_tup {C : Ctx} {U : Nat → Prop} {V : Nat → Option DObj} {β : Nat → Option Nat} {w : World} {us : List Value} {cs : List DV} (hl : us.length = cs.length)
    (hr : ∀ (j : Nat) (u : Value) (d : DV), us[j]? = some u → cs[j]? = some d → WV C U V β w u d) : WV C U V β w (.tuple us.toArray) (.tup cs) := by
  refine ⟨fun id hi => ?_, fun ha => .tup us cs hl fun j u d hu hd => (hr j u d hu hd).2.1 fun id hi => ha id (by rw [DV.refs]; exact DV.refsL_mem (List.mem_of_getElem? hd) hi), TP.of_wv hl hr⟩
  rw [DV.refs] at hi
  obtain ⟨d, hd, hi⟩ := DV.mem_refsL hi
  obtain ⟨j, hj, rfl⟩ := List.mem_iff_getElem.1 hd
  exact (hr j us[j] _ (List.getElem?_eq_getElem (by omega)) (List.getElem?_eq_getElem hj)).1 id hi

section
variable {C : Ctx} {U : Nat → Prop} {s : DS} {β : Nat → Option Nat} {a : Act} {w : World}

theorem run_resOne (hs : HoldsB C U s β a w) {rv : ResultVar} {q : Nat × Option (Option Nat)} {d : DV} (hq : compRes C.P rv = some q) (hd : resD s q = some d) :
    ∃ x, (match rv with
      | .tmp t => (pure (a.tmps.getD t undef) : Sem Value)
      | .cell p t => do loadVar t (← asAddr (a.tmps.getD p undef))).run C.P w = .ok x w ∧ WV C U (s.vw C) β w x d := by
  cases rv with
  | tmp t =>
    simp [compRes] at hq
    subst hq
    simp only [resD, Option.some.injEq] at hd
    subst hd
    exact ⟨_, rfl, hs.evw (.tmp t)⟩
  | cell p T =>
    obtain ⟨k, hk, rfl⟩ := Option.map_eq_some_iff.1 hq
    simp only [resD] at hd
    split at hd
    · rename_i id off hp
      split at hd
      · rename_i T' cs hrow
        have h1 : Rel C.P w (alw C w β) β (a.tmps.getD p undef) (s.ev (.tmp p)) := hs.ev (.tmp p)
        rw [hp] at h1
        obtain ⟨b, e1, hb⟩ := rel_pt h1
        obtain ⟨c, hw, hl, _, hr⟩ := hs.row hb hrow
        obtain ⟨g1, g2⟩ := run_loadVar_list hk ⟨b, off, none⟩ (c.toList.drop off) (cell_row hw)
        obtain ⟨p1, p2⟩ := part_rel (C := C) (U := U) (V := s.vw C) (w := w) (β := β) (us := c.toList.drop off) (cs := cs.drop off) (by simp; omega)
          (fun j u hu hj => by
            have hj' : off + j < cs.length := by simp at hj; omega
            exact (hr (off + j) u _ (by simpa using hu) (List.getElem?_eq_getElem hj')).2)
          (fun j u d hu hd => (hr (off + j) u d (by simpa using hu) (by simpa using hd)).1) hd
        cases k with
        | none =>
          obtain ⟨u, hu, hrel⟩ := p1 rfl
          exact ⟨u, by simp only [Sem.run_bind, e1, asAddr, Sem.run_pure, Result.andThen_ok]; exact g1 rfl u hu, hrel⟩
        | some n =>
          obtain ⟨hn, hrel⟩ := p2 n rfl
          exact ⟨_, by simp only [Sem.run_bind, e1, asAddr, Sem.run_pure, Result.andThen_ok]; exact g2 n rfl hn, hrel⟩
      · cases hd
    · cases hd

theorem run_resM (hs : HoldsB C U s β a w) : ∀ (rvs : List ResultVar) (qs : List (Nat × Option (Option Nat))) (ds : List DV), rvs.mapM (compRes C.P) = some qs → qs.mapM (resD s) = some ds →
    ∃ vs : List Value, (rvs.mapM fun (rv : ResultVar) => (match rv with
      | .tmp t => (pure (a.tmps.getD t undef) : Sem Value)
      | .cell p t => do loadVar t (← asAddr (a.tmps.getD p undef)))).run C.P w = .ok vs w ∧ vs.length = ds.length ∧ ∀ (j : Nat) (v : Value) (d : DV), vs[j]? = some v → ds[j]? = some d → WV C U (s.vw C) β w v d
  | [], qs, ds, h1, h2 => by
    simp at h1; subst h1; simp at h2; subst h2
    exact ⟨[], by simp, rfl, by simp⟩
  | rv :: rvs, qs, ds, h1, h2 => by
    simp only [List.mapM_cons, Option.bind_eq_bind, Option.bind_eq_some_iff, Option.pure_def] at h1
    obtain ⟨q, hq, qt, hqt, h1⟩ := h1
    cases h1
    simp only [List.mapM_cons, Option.bind_eq_bind, Option.bind_eq_some_iff, Option.pure_def] at h2
    obtain ⟨d, hd, dt, hdt, h2⟩ := h2
    cases h2
    obtain ⟨x, hx, hrel⟩ := run_resOne hs hq hd
    obtain ⟨vs, hvs, hl, hr⟩ := run_resM hs rvs qt dt hqt hdt
    refine ⟨x :: vs, ?_, by simp [hl], fun j v e hv he => ?_⟩
    · simp only [List.mapM_cons, Sem.run_bind, hx, Result.andThen_ok, hvs, Sem.run_pure]
    · cases j with
      | zero => simp at hv he; subst hv he; exact hrel
      | succ j => exact hr j v e (by simpa using hv) (by simpa using he)

theorem run_results (hs : HoldsB C U s β a w) {fn : Func} {qs : List (Nat × Option (Option Nat))} {d : DV} (hq : fn.results.toList.mapM (compRes C.P) = some qs) (hd : resV s qs = some d) :
    ∃ x, (results fn a.tmps).run C.P w = .ok x w ∧ WV C U (s.vw C) β w x d := by
  unfold resV at hd
  cases hm : qs.mapM (resD s) with
  | none => rw [hm] at hd; cases hd
  | some ds =>
    rw [hm] at hd
    obtain ⟨vs, hvs, hl, hr⟩ := run_resM hs fn.results.toList qs ds hq hm
    have hrun : (results fn a.tmps).run C.P w = .ok (if h : vs.toArray.size = 1 then vs.toArray[0] else .tuple vs.toArray) w := by
      unfold results
      rw [Array.mapM_eq_mapM_toList]
      simp only [Sem.run_bind, Sem.run_map]
      erw [hvs]
      simp only [Result.andThen_ok, Sem.run_pure]
    refine ⟨_, hrun, ?_⟩
    clear hm hvs hrun
    match ds, hl, hd, hr with
    | [e], hl, hd, hr =>
      simp at hd
      subst hd
      match vs, hl with
      | [v], _ => exact hr 0 v e rfl rfl
    | [], hl, hd, hr =>
      simp at hd; subst hd
      rw [dif_neg (by simp at hl; simp [hl])]
      exact wv_tup hl hr
    | e :: e' :: es, hl, hd, hr =>
      simp at hd; subst hd
      rw [dif_neg (by simp; simp at hl; omega)]
      exact wv_tup hl hr

/-! A function's end: the marks of its ranges over functions are taken. -/
theorem HoldsB.shut {tmps : Array Value} {d : Deferred} {l : List Deferred} {D : Nat} (hs : HoldsB C U s β ⟨tmps, d :: l⟩ w) (hd : d = { target := .collected D, args := #[] })
    (hD : w.heap[D]? = some (.deferred (some []))) (h0 : C.w0.heap.size ≤ D) (hn : ∀ id, β id ≠ some D) : HoldsB C U s β ⟨tmps, l⟩ (w.putObj D (.deferred none)) := by
  have hDlt : D < w.heap.size := (Array.getElem?_eq_some_iff.1 hD).1
  have hoth : ∀ b, b ≠ D → (w.putObj D (.deferred none)).heap[b]? = w.heap[b]? := fun b hb => World.putObj_heap_other hb
  have hcell : ∀ (b : Nat), (∃ c T r, w.heap[b]? = some (Obj.cells c T r)) → (w.putObj D (.deferred none)).heap[b]? = w.heap[b]? := fun b ⟨c, T, r, hc⟩ => hoth b (fun e => by rw [e, hD] at hc; cases hc)
  have hown : ∀ id b, β id = some b → (w.putObj D (.deferred none)).heap[b]? = w.heap[b]? := fun id b hb => hoth b (fun e => hn id (e ▸ hb))
  have hrel : ∀ x d, WV C U (s.vw C) β w x d → WV C U (s.vw C) β (w.putObj D (.deferred none)) x d := fun x d ⟨g1, g2, g3⟩ =>
    ⟨g1, fun ha => (g2 ha).mono (fun b ⟨h1, h2, h3⟩ => ⟨⟨h1, by simpa using h2, h3⟩, hcell b⟩) fun id _ b hb => ⟨hb, SameShape.of_eq (hown id b hb)⟩, g3⟩
  have hbel := hs.hh.bel
  have hnd : d ∉ l.filter isColl ∧ (l.filter isColl).Nodup := by
    have := hs.df.nodup
    rw [List.filter_cons_of_pos (by rw [hd]; rfl)] at this
    exact List.nodup_cons.1 this
  refine ⟨⟨hs.hh.ok, ⟨hbel.os, hbel.tape, hbel.output, by simpa using hbel.size, fun k hk1 hk2 => (hoth k (by omega)).trans (hbel.block k hk1 hk2)⟩, fun id b hb => ⟨(hs.hh.bge id b hb).1, by simpa using hs.hh.lt hb⟩, hs.hh.inj, hs.hh.fr, fun id o ho => ?_⟩,
    ⟨hnd.2, fun d' hd' => ?_, fun D' hD' => ?_, fun D' hD' => hs.df.apart D' (by simp [hD'])⟩, hs.sz, fun t => hrel _ _ (hs.sl t), fun x d hx => hrel _ _ (hs.gh x d hx), hs.yd⟩
  · exact (hs.hh.hp id o ho).keep rfl (hown id) hrel
  · rcases hs.df.own d' (by simp [hd']) with ⟨D', e, h1, h2, h3⟩ | hq
    · refine .inl ⟨D', e, (hoth D' fun he => ?_).trans h1, h2, h3⟩
      subst he
      exact hnd.1 (List.mem_filter.2 ⟨by rw [hd, ← e]; exact hd', by rw [hd]; rfl⟩)
    · exact .inr hq
  · obtain ⟨D2, e, h1, h2, h3⟩ := hs.df.out D' hD'
    refine ⟨D2, e, (hoth D2 fun he => ?_).trans h1, h2, h3⟩
    subst he
    simp only [Deferred.mk.injEq, Target.collected.injEq, and_true] at e
    subst e
    exact hs.df.apart D' (by rw [hd]; simp) hD'

/-- What holds when a function has come to its end. -/
theorem ends_ok {fn : Func} {qs : List (Nat × Option (Option Nat))} {d : DV} {R : Ending → World → Prop} (hq : fn.results.toList.mapM (compRes C.P) = some qs) (hd : resV s qs = some d) (tmps : Array Value)
    (hR : ∀ v w', HoldsB C U s β ⟨tmps, []⟩ w' → WV C U (s.vw C) β w' v d → R (.returned v) w') : ∀ (l : List Deferred) (w : World), HoldsB C U s β ⟨tmps, l⟩ w → LeavesInM Fence.wide 0 C.P fn tmps R l .returning w
  | [], w, hs => by
    obtain ⟨x, hx, hr⟩ := run_results hs hq hd
    exact ⟨x, hx, hR x w hs hr⟩
  | d' :: l, w, hs => by
    rcases hs.df.own d' (by simp) with ⟨D, e, h1, h2, h3⟩ | ⟨g, caps, hqf, rfl⟩
    · exact ⟨by simp, .inl ⟨D, _, by rw [e], run_takeDeferred h1, ends_ok hq hd tmps hR l _ (hs.shut e h1 h2 h3)⟩⟩
    · obtain ⟨k1, k2⟩ := quiet_ok hqf caps w
      refine ⟨by simp, .inr ⟨fun h => by simp [Fence.wide] at h, .func g, caps, g, caps, rfl, k1, fun _ _ => trivial, k2.mono ?_⟩⟩
      rintro e u' w' ⟨rfl, ⟨v, rfl⟩, rfl⟩
      exact ends_ok hq hd tmps hR l _ ⟨hs.hh, hs.df.tail rfl, hs.sz, hs.sl, hs.gh, hs.yd⟩

/-- A body, as it is entered. -/
theorem enters_ok {ho : Nat → Option DObj} {nx : Nat} {args : List DV} {vs : List Value}
    (hh : HH C U (vwF C.Y ho) β w) (hX : ∀ x d, C.X x d ∨ GLV x d → WV C U (vwF C.Y ho) β w x d) (hy : ∀ id o, C.Y id = some o → ho id = none) (hM : ∀ D, C.M D → Mark C β w { target := .collected D, args := #[] }) (hn : args.length ≤ C.nt) (hl : vs.length = args.length)
    (hrel : ∀ (j : Nat) (v : Value) (d : DV), vs[j]? = some v → args[j]? = some d → WV C U (vwF C.Y ho) β w v d) :
    HoldsB C U ⟨argF args, ho, nx⟩ β { tmps := vs.toArray ++ Array.replicate (C.nt - vs.toArray.size) undef, defers := [] } w := by
  refine ⟨hh, ⟨List.nodup_nil, (fun d hd => by cases hd), hM, (fun D hd => by cases hd)⟩, by simp; omega, fun t => ?_, hX, hy⟩
  simp only [argF]
  cases hd : args[t]? with
  | none => exact WV.any
  | some d =>
    have htl : t < vs.length := by have := (List.getElem?_eq_some_iff.1 hd).1; omega
    have hv : (vs.toArray ++ Array.replicate (C.nt - vs.toArray.size) undef).getD t undef = vs[t] := by
      simp [Array.getElem?_append, htl]
    rw [hv]
    simp only [Option.getD_some]
    exact hrel t vs[t] d (List.getElem?_eq_getElem htl) hd
end

end Go.DD
