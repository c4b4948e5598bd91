/- Regions that draw their order: one run in the text's order serves every order. The operations that write, and the calls, stand in one order by their edges; what is only made lies by itself; all others read the same at every moment at which they may come. -/
import Derived.Test.YtpaggdhijeabnaaGreatDoorHj
namespace Go.DD
open Go.RowKit (Below)

/-- Two states that agree on what an operation looks at. -/
structure Agree (op : DOp) (s s' : DS) : Prop where
  ev : ∀ x ∈ op.opnds, s'.ev x = s.ev x
  rv : ∀ x ∈ op.opnds, s'.rv x = s.rv x
  ho : op.rdC = true → ∀ x ∈ op.opnds, ∀ id ∈ (s.ev x).refs, s'.ho id = s.ho id

theorem bndD_congr {s s' : DS} {dflt : Int} {x : Option Operand} (h : ∀ y ∈ x.toList, s'.ev y = s.ev y) : bndD s' dflt x = bndD s dflt x := by
  cases x with
  | none => rfl
  | some y => simp [bndD, h y (by simp)]

theorem execU_congr {nid : Nat} {s s' : DS} {op : DOp} (h : Agree op s s') : execU nid s' op = execU nid s op := by
  obtain ⟨h1, h1', h2⟩ := h
  cases op with
  | bld z ps =>
    have : ps.map (fun p => (p.1, p.2.1, s'.ev p.2.2)) = ps.map fun p => (p.1, p.2.1, s.ev p.2.2) :=
      List.map_congr_left fun p hp => by rw [h1 p.2.2 (by simp only [DOp.opnds, List.mem_map]; exact ⟨p, hp, rfl⟩)]
    simp only [execU, this]
  | bsl T n es z ps =>
    have : ps.map (fun p => (p.1, p.2.1, s'.ev p.2.2)) = ps.map fun p => (p.1, p.2.1, s.ev p.2.2) :=
      List.map_congr_left fun p hp => by rw [h1 p.2.2 (by simp only [DOp.opnds, List.mem_map]; exact ⟨p, hp, rfl⟩)]
    simp only [execU, this]
  | mkf f fst cap =>
    have e1 : fst.map s'.ev = fst.map s.ev := List.map_congr_left fun x hx => h1 x (by simp [DOp.opnds, hx])
    have e2 : cap.map s'.ev = cap.map s.ev := List.map_congr_left fun x hx => h1 x (by simp [DOp.opnds, hx])
    simp only [execU, e1, e2]
  | sli es x lo hi =>
    have hx := h1 x (by simp [DOp.opnds])
    have hlo : ∀ d, bndD s' d lo = bndD s d lo := fun d => bndD_congr fun y hy => h1 y (by simp [DOp.opnds]; exact .inr (.inl (by simpa using hy)))
    have hhi : ∀ d, bndD s' d hi = bndD s d hi := fun d => bndD_congr fun y hy => h1 y (by simp [DOp.opnds]; exact .inr (.inr (by simpa using hy)))
    simp only [execU, hx, hlo, hhi]
  | sls x lo hi =>
    have hx := h1 x (by simp [DOp.opnds])
    have hlo : ∀ d, bndD s' d lo = bndD s d lo := fun d => bndD_congr fun y hy => h1 y (by simp [DOp.opnds]; exact .inr (.inl (by simpa using hy)))
    have hhi : ∀ d, bndD s' d hi = bndD s d hi := fun d => bndD_congr fun y hy => h1 y (by simp [DOp.opnds]; exact .inr (.inr (by simpa using hy)))
    simp only [execU, hx, hlo, hhi]
  | ld k x =>
    have hx := h1 x (by simp [DOp.opnds])
    have hh := h2 rfl x (by simp [DOp.opnds])
    simp only [execU, hx]
    split
    · rfl
    · rename_i id off e
      rw [hh id (by rw [e]; simp [DV.refs])]
    · rfl
  | st n p x =>
    have hp := h1 p (by simp [DOp.opnds])
    have hx := h1 x (by simp [DOp.opnds])
    have hh := h2 rfl p (by simp [DOp.opnds])
    simp only [execU, hp, hx]
    split
    · rename_i id off e
      rw [hh id (by rw [e]; simp [DV.refs])]
    · rfl
  | app T es bytes d x =>
    have hd := h1 d (by simp [DOp.opnds])
    have hx := h1 x (by simp [DOp.opnds])
    have hhd := h2 rfl d (by simp [DOp.opnds])
    have hhx := h2 rfl x (by simp [DOp.opnds])
    have e1 : dstD s' T es (s.ev d) = dstD s T es (s.ev d) := by
      unfold dstD
      split
      · rfl
      · rename_i id n es' e
        rw [hhd id (by rw [e]; simp [DV.refs])]
      · rfl
    have e2 : srcD s' T es (s.ev x) = srcD s T es (s.ev x) := by
      unfold srcD
      split
      · rfl
      · rfl
      · rename_i id off n es' e
        rw [hhx id (by rw [e]; simp [DV.refs])]
      · rfl
    simp only [execU, hd, hx, e1, e2]
  | mkm => rfl
  | lkp kd z x k ok =>
    have hx := h1 x (by simp [DOp.opnds])
    have hh := h2 rfl x (by simp [DOp.opnds])
    simp only [execU, hx, h1 k (by simp [DOp.opnds])]
    split
    · split
      · split
        · rfl
        · rename_i id e
          rw [hh id (by rw [e]; simp [DV.refs])]
        · rfl
      · rfl
    · rfl
  | men kd z x k =>
    have hx := h1 x (by simp [DOp.opnds])
    have hh := h2 rfl x (by simp [DOp.opnds])
    simp only [execU, hx, h1 k (by simp [DOp.opnds])]
    split
    · split
      · split
        · rename_i id e
          rw [hh id (by rw [e]; simp [DV.refs])]
        · rfl
      · rfl
    · rfl
  | mes x q y =>
    have hx := h1 x (by simp [DOp.opnds])
    have hh := h2 rfl x (by simp [DOp.opnds])
    simp only [execU, hx, h1 q (by simp [DOp.opnds]), h1 y (by simp [DOp.opnds])]
    split
    · rename_i id n e _
      rw [hh id (by rw [e]; simp [DV.refs])]
    · rfl
  | rgm x =>
    have hx := h1 x (by simp [DOp.opnds])
    have hh := h2 rfl x (by simp [DOp.opnds])
    simp only [execU, hx]
    split
    · rfl
    · rename_i id e
      rw [hh id (by rw [e]; simp [DV.refs])]
    · rfl
  | nxm k x => rfl
  | rgs x => simp only [execU, h1 x (by simp [DOp.opnds])]
  | nxs x =>
    have hx := h1 x (by simp [DOp.opnds])
    have hh := h2 rfl x (by simp [DOp.opnds])
    simp only [execU, hx]
    split
    · rename_i id e
      rw [hh id (by rw [e]; simp [DV.refs])]
    · rfl
  | mki T x => simp only [execU, h1 x (by simp [DOp.opnds])]
  | tas T z x ok => simp only [execU, h1 x (by simp [DOp.opnds])]
  | sla T n es x =>
    have hx := h1 x (by simp [DOp.opnds])
    have hh := h2 rfl x (by simp [DOp.opnds])
    simp only [execU, hx]
    split
    · rename_i id e
      rw [hh id (by rw [e]; simp [DV.refs])]
    · rfl
  | cpy es x y =>
    have hx := h1 x (by simp [DOp.opnds])
    have hy := h1 y (by simp [DOp.opnds])
    have hhx := h2 rfl x (by simp [DOp.opnds])
    have hhy := h2 rfl y (by simp [DOp.opnds])
    have e2 : srcC s' es (s.ev y) = srcC s es (s.ev y) := by
      unfold srcC
      split
      · rfl
      · rfl
      · rename_i id off n es' e
        rw [hhy id (by rw [e]; simp [DV.refs])]
      · rfl
    simp only [execU, hx, hy, e2]
    split
    · rename_i id off n es' news m e _
      rw [hhx id (by rw [e]; simp [DV.refs])]
    · rfl
  | mup kd x k y =>
    have hx := h1 x (by simp [DOp.opnds])
    have hh := h2 rfl x (by simp [DOp.opnds])
    simp only [execU, hx, h1 k (by simp [DOp.opnds]), h1 y (by simp [DOp.opnds])]
    split
    · split
      · split
        · rename_i id e
          rw [hh id (by rw [e]; simp [DV.refs])]
        · rfl
      · rfl
    · rfl
  | lnm x =>
    have hx := h1 x (by simp [DOp.opnds])
    have hh := h2 rfl x (by simp [DOp.opnds])
    simp only [execU, hx]
    split
    · rfl
    · rename_i id e
      rw [hh id (by rw [e]; simp [DV.refs])]
    · rfl
  | mv x => simp only [execU, h1' x (by simp [DOp.opnds])]
  | pick c p q => simp only [execU, h1 c (by simp [DOp.opnds]), h1' p (by simp [DOp.opnds]), h1' q (by simp [DOp.opnds])]
  | al T z => rfl
  | bx T x => simp only [execU, h1 x (by simp [DOp.opnds])]
  | nck x => simp only [execU, h1 x (by simp [DOp.opnds])]
  | bin o x y => simp only [execU, h1 x (by simp [DOp.opnds]), h1 y (by simp [DOp.opnds])]
  | bb o x y => simp only [execU, h1 x (by simp [DOp.opnds]), h1 y (by simp [DOp.opnds])]
  | eqs o k x y => simp only [execU, h1 x (by simp [DOp.opnds]), h1 y (by simp [DOp.opnds])]
  | nilq o k x y => simp only [execU, h1 x (by simp [DOp.opnds]), h1 y (by simp [DOp.opnds])]
  | un o x => simp only [execU, h1 x (by simp [DOp.opnds])]
  | cvi o x => simp only [execU, h1 x (by simp [DOp.opnds])]
  | fa o x => simp only [execU, h1 x (by simp [DOp.opnds])]
  | fld o k x => simp only [execU, h1 x (by simp [DOp.opnds])]
  | ia es x i => simp only [execU, h1 x (by simp [DOp.opnds]), h1 i (by simp [DOp.opnds])]
  | ixs x i => simp only [execU, h1 x (by simp [DOp.opnds]), h1 i (by simp [DOp.opnds])]
  | len x => simp only [execU, h1 x (by simp [DOp.opnds])]
  | lns x => simp only [execU, h1 x (by simp [DOp.opnds])]
  | fx n es x i => simp only [execU, h1 x (by simp [DOp.opnds]), h1 i (by simp [DOp.opnds])]
  | s2b x => simp only [execU, h1 x (by simp [DOp.opnds])]
  | b2s x =>
    have hx := h1 x (by simp [DOp.opnds])
    have hhx := h2 rfl x (by simp [DOp.opnds])
    have e2 : srcC s' 1 (s.ev x) = srcC s 1 (s.ev x) := by
      unfold srcC
      split
      · rfl
      · rfl
      · rename_i id off m es' e
        rw [hhx id (by rw [e]; simp [DV.refs])]
      · rfl
    simp only [execU, hx, e2]
  | frz x =>
    have hx := h1 x (by simp [DOp.opnds])
    have hhx := h2 rfl x (by simp [DOp.opnds])
    simp only [execU, hx]
    split
    · rename_i id n e
      rw [hhx id (by rw [e]; simp [DV.refs])]
    · rfl
  | mks T es b z l c => simp only [execU, h1 l (by simp [DOp.opnds]), h1 c (by simp [DOp.opnds])]
  | ext x i => simp only [execU, h1 x (by simp [DOp.opnds]), h1' x (by simp [DOp.opnds])]
  | mm o x y => simp only [execU, h1 x (by simp [DOp.opnds]), h1 y (by simp [DOp.opnds])]
  | call f args => rfl
  | cv tb f args => rfl
  | bad => rfl


theorem ancs_len : ∀ (rs : List DR) (acc : List (List Nat)), (ancs rs acc).length = acc.length + rs.length
  | [], acc => by simp [ancs]
  | r :: rs, acc => by simp [ancs, ancs_len rs]; omega
theorem ancs_keep : ∀ (rs : List DR) (acc : List (List Nat)) (k : Nat), k < acc.length → (ancs rs acc)[k]? = acc[k]?
  | [], acc, k, _ => rfl
  | r :: rs, acc, k, h => by
    simp only [ancs]
    rw [ancs_keep rs _ k (by simp; omega), List.getElem?_append_left h]
theorem ancs_ok : ∀ (rs : List DR) (acc : List (List Nat)) (k : Nat) (r : DR) (l : List Nat), rs[k]? = some r → (∀ (k : Nat) (r : DR), rs[k]? = some r → ∀ j ∈ r.pre, j < acc.length + k) → (ancs rs acc)[acc.length + k]? = some l →
    ∀ x ∈ l, x ∈ r.pre ∨ ∃ j ∈ r.pre, ∃ l', (ancs rs acc)[j]? = some l' ∧ x ∈ l'
  | [], acc, k, r, l, h, _, _ => by simp at h
  | r0 :: rs, acc, 0, r, l, h, hb, hl => by
    simp at h; subst h
    intro x hx
    have hl' : l = (r0.pre ++ r0.pre.flatMap fun j => (acc[j]?).getD []).eraseDups := by
      simp only [ancs] at hl
      rw [ancs_keep rs _ _ (by simp)] at hl
      simpa using hl.symm
    rw [hl', List.mem_eraseDups, List.mem_append] at hx
    rcases hx with hx | hx
    · exact .inl hx
    · obtain ⟨j, hj, hx⟩ := List.mem_flatMap.1 hx
      have hjl : j < acc.length := hb 0 r0 rfl j hj
      refine .inr ⟨j, hj, acc[j], ?_, by simpa [List.getElem?_eq_getElem hjl] using hx⟩
      simp only [ancs]
      rw [ancs_keep rs _ j (by simp; omega), List.getElem?_append_left hjl, List.getElem?_eq_getElem hjl]
  | r0 :: rs, acc, k + 1, r, l, h, hb, hl => by
    have key := ancs_ok rs (acc ++ [(r0.pre ++ r0.pre.flatMap fun j => (acc[j]?).getD []).eraseDups]) k r l (by simpa using h)
      (fun k' r' hr' j hj => by have := hb (k' + 1) r' (by simpa using hr') j hj; simp; omega)
      (by simp only [ancs] at hl; rw [← hl]; congr 1; simp; omega)
    simpa only [ancs] using key

def unl : List Bool → Nat
  | [] => 0
  | b :: bs => (if b then 0 else 1) + unl bs
theorem unl_set : ∀ (l : List Bool) (i : Nat), l[i]? = some false → unl (l.set i true) + 1 = unl l
  | [], i, h => by simp at h
  | b :: bs, 0, h => by simp at h; subst h; simp [unl]; omega
  | b :: bs, i + 1, h => by
    have := unl_set bs i (by simpa using h)
    simp only [List.set_cons_succ, unl]
    omega
theorem unl_zero : ∀ (l : List Bool), unl l = 0 → ∀ b ∈ l, b = true
  | [], _, b, hb => by cases hb
  | c :: bs, h, b, hb => by
    simp only [unl] at h
    rcases List.mem_cons.1 hb with rfl | hb
    · cases b
      · simp at h
      · rfl
    · exact unl_zero bs (by omega) b hb

/-- All that must come before is listed, at any remove. -/
theorem ancs_listed {rs : List DR} {L : List Bool} (hpre : ∀ (k : Nat) (r : DR), rs[k]? = some r → ∀ j ∈ r.pre, j < k) (hcl : ∀ (i : Nat) (r : DR), L[i]? = some true → rs[i]? = some r → ∀ j ∈ r.pre, L[j]? = some true) :
    ∀ (i : Nat) (r : DR) (l : List Nat), rs[i]? = some r → (∀ j ∈ r.pre, L[j]? = some true) → (ancs rs [])[i]? = some l → ∀ x ∈ l, L[x]? = some true := by
  intro i
  induction i using Nat.strongRecOn with
  | _ i ih =>
    intro r l hr hp hl x hx
    rcases ancs_ok rs [] i r l hr (fun k r' hk j hj => by have := hpre k r' hk j hj; simp; omega) (by simpa using hl) x hx with h | ⟨j, hj, l', hl', hx'⟩
    · exact hp x h
    · have hji := hpre i r hr j hj
      have hil : i < rs.length := (List.getElem?_eq_some_iff.1 hr).1
      have hrj : rs[j]? = some rs[j] := List.getElem?_eq_getElem (by omega)
      exact ih j hji rs[j] l' hrj (hcl j rs[j] (hp j hj) hrj) hl' x hx'


/-- What the run in the text's order leaves: the values; what is laid by itself, and written there; the operations that stand in one order, the objects and the next number behind each of them. -/
structure RG where
  d : Nat → DV
  lay : Nat → Option DObj
  tgt : Nat → Option Nat
  ob : Nat → DObj
  main : List Nat
  H : Nat → Nat → Option DObj
  N : Nat → Nat

section
variable (rs : List DR) (s0 : DS) (D : RG)
def anR (i : Nat) : List Nat := ((ancs rs [])[i]?).getD []
def anB (i j : Nat) : Bool := (anR rs i).contains j
/-- Has one of the first 'k' of the ordered operations seen it? -/
def RG.pr (k j : Nat) : Bool := (D.main.take k).any fun q => anB rs q j
/-- A number at which something lies by itself. -/
def RG.unp (k id : Nat) : Option Nat := if s0.nx ≤ id ∧ id < s0.nx + rs.length ∧ (D.lay (id - s0.nx)).isSome = true ∧ D.pr rs k (id - s0.nx) = false then some (id - s0.nx) else none
/-- What lies by itself, as it is behind the operations that are done. -/
def lastW (tgt : Nat → Option Nat) (L : Nat → Bool) (j : Nat) : Nat → Option Nat
  | 0 => none
  | n + 1 => if tgt n = some j ∧ L n = true then some n else lastW tgt L j n
def RG.cur (L : Nat → Bool) (j : Nat) : Option DObj := match lastW D.tgt L j rs.length with
  | some w => some (D.ob w)
  | none => D.lay j
def RG.full (L : Nat → Bool) (k : Nat) : Nat → Option DObj := fun id => match D.unp rs s0 k id with
  | some j => if L j then D.cur rs L j else none
  | none => D.H k id
def RG.sv (L : Nat → Bool) : Nat → DV := fun t => match rs.findIdx? (fun r => r.dst == some t) with
  | some p => if L p then D.d p else s0.sv t
  | none => s0.sv t
def RG.at_ (L : Nat → Bool) (k : Nat) : DS := ⟨D.sv rs s0 L, D.full rs s0 L k, D.N k⟩
/-- The state that an operation is run at. -/
def RG.st (i k : Nat) : DS := D.at_ rs s0 (anB rs i) k

def liveR (s : DS) (r : DR) : Prop := ∀ t, .tmp t ∈ r.op.opnds → s.live (s.sv t) = true
/-- May 'i' come when 'k' of the ordered operations are done? -/
def RG.may (i k : Nat) : Prop := k ≤ D.main.length ∧ (∀ (q j : Nat), q < k → D.main[q]? = some j → anB rs j i = false) ∧ (∀ (q j : Nat), k ≤ q → D.main[q]? = some j → anB rs i j = false)

/-- What is written, or made anew, is there. -/
def DS.hasU (s : DS) : Upd → Bool
  | .wr id _ => (s.ho id).isSome
  | .mv (some id) _ => (s.ho id).isSome
  | _ => true
/-- A call that stands in the order. -/
def callM (P : Program) (f : FuncId) (ds : List DV) (s : DS) (d : DV) (H' : Nat → Option DObj) (n' : Nat) : Prop :=
  callable P f = true ∧ (callI P f ds s (fun s' d' => d' = d ∧ s'.ho = H' ∧ s'.nx = n') ∨ (H' = s.ho ∧ n' = s.nx ∧ (∀ x ∈ ds, x.refs = []) ∧ DCall P f ds fun d' => d' = d))

def RG.ev (P : Program) (i : Nat) (r : DR) : Prop :=
  match (D.st rs s0 i 0).wanted r.g with
  | none => False
  | some false => D.d i = .v undef ∧ D.lay i = none ∧ D.tgt i = none ∧ i ∉ D.main
  | some true => match r.op with
    | .call f args => ∃ k, D.main[k]? = some i ∧ liveR (D.st rs s0 i k) r ∧ callM P f (args.map (D.st rs s0 i k).rv) (D.st rs s0 i k) (D.d i) (D.H (k + 1)) (D.N (k + 1))
    | .cv tb x args => ∃ k f fr cs, D.main[k]? = some i ∧ liveR (D.st rs s0 i k) r ∧ ((D.st rs s0 i k).ev x).tgt tb = some (f, fr, cs) ∧ callM P f (fr ++ args.map (D.st rs s0 i k).rv ++ cs) (D.st rs s0 i k) (D.d i) (D.H (k + 1)) (D.N (k + 1))
    | op => (∃ k u, D.main[k]? = some i ∧ liveR (D.st rs s0 i k) r ∧ (D.st rs s0 i k).hasU u = true ∧ execU (D.N k) (D.st rs s0 i k) op = some (D.d i, u) ∧ D.H (k + 1) = u.app (D.N k) (D.st rs s0 i k).ho ∧ D.N (k + 1) = if u.new then D.N k + 1 else D.N k) ∨
        (i ∉ D.main ∧ ∀ k, D.may rs i k → liveR (D.st rs s0 i k) r ∧ ∃ u, execU (s0.nx + i) (D.st rs s0 i k) op = some (D.d i, u) ∧ match u with
          | .keep => D.lay i = none ∧ D.tgt i = none
          | .lay o => D.lay i = some o ∧ D.tgt i = none
          | .wr id o => ∃ j, D.unp rs s0 k id = some j ∧ anB rs i j = true ∧ D.tgt i = some j ∧ D.ob i = o ∧ D.lay i = none
          | _ => False)

/-- What the text says. -/
structure RG.OKs : Prop where
  pre : ∀ (k : Nat) (r : DR), rs[k]? = some r → ∀ j ∈ r.pre, j < k
  dst : ∀ (i j : Nat) (r r' : DR) (t : Nat), rs[i]? = some r → rs[j]? = some r' → r.dst = some t → r'.dst = some t → i = j
  rd : ∀ (i : Nat) (r : DR) (t p : Nat), rs[i]? = some r → t ∈ r.tmps → rs.findIdx? (fun r => r.dst == some t) = some p → anB rs i p = true ∨ anB rs p i = true ∨ p = i
  chain : ∀ (a b i j : Nat), D.main[a]? = some i → D.main[b]? = some j → a < b → anB rs j i = true
  mlt : ∀ (a i : Nat), D.main[a]? = some i → i < rs.length ∧ D.lay i = none ∧ D.tgt i = none
  wr1 : ∀ (w j : Nat), D.tgt w = some j → anB rs w j = true
  wr2 : ∀ (i j w : Nat), i < rs.length → w < rs.length → anB rs i j = true → D.tgt w = some j → anB rs i w = true ∨ anB rs w i = true ∨ w = i
  h0 : D.H 0 = s0.ho
  n0 : D.N 0 = s0.nx + rs.length
  mono : ∀ k, D.N k ≤ D.N (k + 1)
structure RG.OK (P : Program) : Prop extends RG.OKs rs s0 D where
  ev : ∀ (i : Nat) (r : DR), rs[i]? = some r → D.ev rs s0 P i r
end
end Go.DD
