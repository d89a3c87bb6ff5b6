/-
  The engine: symbolic states for walks. A state is a list of known slots (L) and a list of own blocks (H); frame and world stay hidden.
  No program is named here. It rests on the kit's 'Code.wp', 'wpList', 'wpAny', 'Calls', 'Below' alone.
-/
import Derived.WalkKit
import Derived.WalkSpells
import Derived.WalkLawsBesides
import Derived.Orders
import Derived.Below
import Derived.Deep.LoopGhost
namespace Go.Eng
open Go.RowKit

/-! ### states -/
def look : List (Nat × Value) → Nat → Option Value
  | [], _ => none
  | (k, v) :: r, n => match Nat.beq k n with
    | true => some v
    | false => look r n

def ev (L : List (Nat × Value)) : Operand → Option Value
  | .tmp t => look L t
  | .const v => some v
  | .global g => some (.pointer (some ⟨g, 0, none⟩))
  | .func f => some (.func (.func f) #[] #[])

def evs (L : List (Nat × Value)) : List Operand → Option (List Value)
  | [] => some []
  | x :: r => match ev L x with
    | none => none
    | some v => match evs L r with
      | none => none
      | some vs => some (v :: vs)

def evp (L : List (Nat × Value)) : List (Nat × Operand) → Option (List (Nat × Value))
  | [] => some []
  | (i, x) :: r => match ev L x with
    | none => none
    | some v => match evp L r with
      | none => none
      | some vs => some ((i, v) :: vs)

def ins (d : Option Nat) (v : Value) (L : List (Nat × Value)) : List (Nat × Value) :=
  match d with
  | some d => (d, v) :: L
  | none => L

/-- how many slots a frame has, and its marks -/
structure Sz where
  n : Nat
  ds : List Deferred := []
instance (k : Nat) : OfNat Sz k := ⟨⟨k, []⟩⟩

def dOK (N : Sz) : Option Nat → Bool
  | some d => Nat.blt d N.n
  | none => true

structure Fit (N : Sz) (a : Act) (L : List (Nat × Value)) : Prop where
  defers : a.defers = N.ds
  size : a.tmps.size = N.n
  at_ : ∀ s v, look L s = some v → a.tmps[s]? = some v

theorem Fit.eval {N : Sz} {a : Act} {L : List (Nat × Value)} (h : Fit N a L) {x : Operand} {v : Value} (hx : ev L x = some v) : a.eval x = v := by
  cases x with
  | tmp t =>
    have := h.at_ t v hx
    simp [Act.eval, this]
  | const c => simpa [ev, Act.eval] using hx
  | global g => simpa [ev, Act.eval] using hx
  | func f => simpa [ev, Act.eval] using hx

theorem Fit.evals {N : Sz} {a : Act} {L : List (Nat × Value)} (h : Fit N a L) : ∀ {xs : List Operand} {vs : List Value}, evs L xs = some vs → xs.map a.eval = vs
  | [], vs, hx => by simp [evs] at hx; simp [hx]
  | x :: r, vs, hx => by
    unfold evs at hx
    cases h1 : ev L x with
    | none => rw [h1] at hx; simp at hx
    | some v =>
      rw [h1] at hx
      cases h2 : evs L r with
      | none => rw [h2] at hx; simp at hx
      | some us =>
        rw [h2] at hx
        simp only [Option.some.injEq] at hx
        rw [List.map_cons, h.eval h1, h.evals h2, hx]

theorem Fit.evalp {N : Sz} {a : Act} {L : List (Nat × Value)} (h : Fit N a L) : ∀ {xs : List (Nat × Operand)} {vs : List (Nat × Value)}, evp L xs = some vs → xs.map (fun p => (p.1, a.eval p.2)) = vs
  | [], vs, hx => by simp [evp] at hx; simp [hx]
  | (i, x) :: r, vs, hx => by
    unfold evp at hx
    cases h1 : ev L x with
    | none => rw [h1] at hx; simp at hx
    | some v =>
      rw [h1] at hx
      cases h2 : evp L r with
      | none => rw [h2] at hx; simp at hx
      | some us =>
        rw [h2] at hx
        simp only [Option.some.injEq] at hx
        rw [List.map_cons, h.eval h1, h.evalp h2, hx]

theorem beq_ne {k n : Nat} (h : Nat.beq k n = false) : k ≠ n := by
  intro e; subst e; simp at h

theorem look_cons_ne {k n : Nat} {v : Value} {L : List (Nat × Value)} (h : k ≠ n) : look ((k, v) :: L) n = look L n := by
  have : Nat.beq k n = false := by
    cases hb : Nat.beq k n with
    | false => rfl
    | true => exact absurd (Nat.eq_of_beq_eq_true hb) h
  simp [look, this]

theorem look_cons_eq {k : Nat} {v : Value} {L : List (Nat × Value)} : look ((k, v) :: L) k = some v := by
  simp [look]

theorem Fit.put {N : Sz} {a : Act} {L : List (Nat × Value)} (h : Fit N a L) {d : Option Nat} (hd : dOK N d = true) (v : Value) : Fit N (a.put d v) (ins d v L) := by
  cases d with
  | none => exact h
  | some d =>
    have hlt : d < N.n := by simpa [dOK, Nat.blt_eq] using hd
    refine ⟨h.defers, by simp [Act.put, h.size], fun s u hs => ?_⟩
    by_cases e : d = s
    · subst e
      simp only [ins] at hs
      rw [look_cons_eq] at hs
      cases hs
      simp [Act.put, h.size, hlt]
    · simp only [ins] at hs
      rw [look_cons_ne e] at hs
      simp [Act.put, Array.getElem?_setIfInBounds_ne e, h.at_ s u hs]

/-- every entry of L' is in L -/
def Has (L : List (Nat × Value)) : List (Nat × Value) → Prop
  | [] => True
  | p :: r => look L p.1 = some p.2 ∧ Has L r

theorem Has.spec {L : List (Nat × Value)} : ∀ {L' : List (Nat × Value)}, Has L L' → ∀ s v, look L' s = some v → look L s = some v
  | [], _, s, v, h => by simp [look] at h
  | (k, u) :: r, hh, s, v, h => by
    by_cases e : k = s
    · subst e
      rw [look_cons_eq] at h
      cases h
      exact hh.1
    · rw [look_cons_ne e] at h
      exact Has.spec hh.2 s v h

theorem Fit.weak {N : Sz} {a : Act} {L L' : List (Nat × Value)} (h : Fit N a L) (hl : Has L L') : Fit N a L' :=
  ⟨h.defers, h.size, fun s v hs => h.at_ s v (hl.spec s v hs)⟩

/-- a block of one's own -/
structure Blk where
  g : Nat
  t : TypeId
  cs : List Value

structure Ow (X : List Nat) (w0 w : World) (H : List Blk) : Prop where
  os : w.os = w0.os
  tape : w.tape = w0.tape
  output : w.output = w0.output
  size : w0.heap.size ≤ w.heap.size
  old : ∀ k, k < w0.heap.size → k ∉ X → w.heap[k]? = w0.heap[k]?
  own : ∀ b ∈ H, w.heap[b.g]? = some (.cells b.cs.toArray b.t (0, 0)) ∧ (w0.heap.size ≤ b.g ∨ b.g ∈ X)
  dist : (H.map Blk.g).Nodup

/-- everything that was there is as it was -/
def Ext (w w' : World) : Prop := Below w.heap.size w w'

theorem Ext.refl (w : World) : Ext w w := Below.refl _ _
theorem Ext.trans {a b c : World} (h : Ext a b) (k : Ext b c) : Ext a c := Below.trans h (Below.mono k h.size)

theorem lt_of_block {w : World} {g : Nat} {o : Obj} (h : w.heap[g]? = some o) : g < w.heap.size := (Array.getElem?_eq_some_iff.1 h).1

theorem Ow.ext {X : List Nat} {w0 w w' : World} {H : List Blk} (h : Ow X w0 w H) (e : Ext w w') : Ow X w0 w' H :=
  ⟨e.os.trans h.os, e.tape.trans h.tape, e.output.trans h.output, Nat.le_trans h.size e.size,
   fun k hk hx => (e.block k (Nat.lt_of_lt_of_le hk h.size)).trans (h.old k hk hx),
   fun b hb => ⟨(e.block b.g (lt_of_block (h.own b hb).1)).trans (h.own b hb).1, (h.own b hb).2⟩, h.dist⟩

theorem Ow.drew {X : List Nat} {w0 w : World} {H : List Blk} (h : Ow X w0 w H) : Ow X w0 w.drew H :=
  h.ext ((Below.refl _ _).drew)

theorem Ow.start (w : World) : Ow [] w w [] := ⟨rfl, rfl, rfl, Nat.le_refl _, fun _ _ _ => rfl, by simp, by simp⟩

theorem Ow.toExt {w0 w : World} {H : List Blk} (h : Ow [] w0 w H) : Ext w0 w :=
  ⟨h.os, h.tape, h.output, h.size, fun k hk => h.old k hk (by simp)⟩

/-- fewer blocks -/
theorem Ow.sub {X : List Nat} {w0 w : World} {H H' : List Blk} (h : Ow X w0 w H) (hs : H'.Sublist H) : Ow X w0 w H' :=
  ⟨h.os, h.tape, h.output, h.size, h.old, fun b hb => h.own b (hs.subset hb), h.dist.sublist (hs.map _)⟩

theorem Ow.perm {X : List Nat} {w0 w : World} {H H' : List Blk} (h : Ow X w0 w H) (hs : H.Perm H') : Ow X w0 w H' :=
  ⟨h.os, h.tape, h.output, h.size, h.old, fun b hb => h.own b (hs.mem_iff.2 hb), (hs.map _).nodup_iff.1 h.dist⟩

theorem heap_alloc_new' (w : World) (o : Obj) : (w.alloc o).heap[w.heap.size]? = some o := heap_alloc_new w o

theorem Ow.alloc {X : List Nat} {w0 w : World} {H : List Blk} (h : Ow X w0 w H) (t : TypeId) (cs : List Value) :
    Ow X w0 (w.alloc (.cells cs.toArray t)) (⟨w.heap.size, t, cs⟩ :: H) := by
  have e : Ext w (w.alloc (.cells cs.toArray t)) := (Below.refl _ _).alloc (Nat.le_refl _) _
  have h' := h.ext e
  refine ⟨h'.os, h'.tape, h'.output, h'.size, h'.old, fun b hb => ?_, ?_⟩
  · rcases List.mem_cons.1 hb with rfl | hb
    · exact ⟨heap_alloc_new _ _, .inl h.size⟩
    · exact h'.own b hb
  · rw [List.map_cons, List.nodup_cons]
    refine ⟨fun hm => ?_, h.dist⟩
    obtain ⟨b, hb, hg⟩ := List.mem_map.1 hm
    have := lt_of_block (h.own b hb).1
    rw [hg] at this
    exact absurd this (Nat.lt_irrefl _)

/-- block number i of the list -/
theorem Ow.at_ {X : List Nat} {w0 w : World} {H : List Blk} (h : Ow X w0 w H) {i : Nat} {b : Blk} (hi : H[i]? = some b) :
    w.heap[b.g]? = some (.cells b.cs.toArray b.t (0, 0)) := (h.own b (List.mem_of_getElem? hi)).1

theorem Ow.cell {X : List Nat} {w0 w : World} {H : List Blk} (h : Ow X w0 w H) {i : Nat} {b : Blk} (hi : H[i]? = some b) (k : Nat) :
    w.cell? ⟨b.g, k, none⟩ = b.cs[k]? := by
  rw [cell_of_row w b.g k b.cs.toArray b.t (0, 0) (h.at_ hi)]; simp

theorem Ow.free {X : List Nat} {w0 w : World} {H : List Blk} (h : Ow X w0 w H) {i : Nat} {b : Blk} (hi : H[i]? = some b) (k : Nat) :
    w.frozen? ⟨b.g, k, none⟩ = false := frozen_of_row w b.g k b.cs.toArray b.t (h.at_ hi)

/-- a world in which one own block was written -/
theorem Ow.write {X : List Nat} {w0 w w' : World} {H : List Blk} (h : Ow X w0 w H) {i : Nat} {b : Blk} (hi : H[i]? = some b) (cs : List Value)
    (hos : w'.os = w.os) (htape : w'.tape = w.tape) (hout : w'.output = w.output) (hsize : w.heap.size ≤ w'.heap.size)
    (hb : w'.heap[b.g]? = some (.cells cs.toArray b.t (0, 0))) (ho : ∀ k, k < w.heap.size → k ≠ b.g → w'.heap[k]? = w.heap[k]?) :
    Ow X w0 w' (H.set i ⟨b.g, b.t, cs⟩) := by
  have hmem := List.mem_of_getElem? hi
  have hilt : i < H.length := (List.getElem?_eq_some_iff.1 hi).1
  have hmap : (H.set i ⟨b.g, b.t, cs⟩).map Blk.g = H.map Blk.g := by
    rw [List.map_set]
    have : (H.map Blk.g)[i]? = some b.g := by simp [hi]
    have hl : i < (H.map Blk.g).length := by simpa using hilt
    rw [List.getElem?_eq_getElem hl] at this
    injection this with this
    show (H.map Blk.g).set i b.g = H.map Blk.g
    rw [← this]; exact List.set_getElem_self hl
  refine ⟨hos.trans h.os, htape.trans h.tape, hout.trans h.output, Nat.le_trans h.size hsize, fun k hk hx => ?_, fun c hc => ?_, by rw [hmap]; exact h.dist⟩
  · have hne : k ≠ b.g := by
      intro e
      rcases (h.own b hmem).2 with hge | hin
      · omega
      · exact hx (e ▸ hin)
    exact (ho k (Nat.lt_of_lt_of_le hk h.size) hne).trans (h.old k hk hx)
  · rcases List.mem_or_eq_of_mem_set hc with hc' | rfl
    · -- another block, or the same entry
      by_cases e : c.g = b.g
      · -- the same id: then c is entry i itself, which was replaced; distinctness forbids another one
        obtain ⟨j, hj⟩ := List.getElem?_of_mem hc
        have hjl := (List.getElem?_eq_some_iff.1 hj).1
        by_cases hij : i = j
        · subst hij
          rw [List.getElem?_set_self (by simpa using hilt)] at hj
          injection hj with hj
          subst hj
          exact ⟨hb, (h.own b hmem).2⟩
        · rw [List.getElem?_set_ne hij] at hj
          exfalso
          have h1 : (H.map Blk.g)[j]? = some c.g := by simp [hj]
          have h2 : (H.map Blk.g)[i]? = some b.g := by simp [hi]
          rw [e] at h1
          exact hij ((List.getElem?_inj (by simpa using hilt) h.dist).1 (h2.trans h1.symm))
      · exact ⟨(ho c.g (lt_of_block (h.own c hc').1) e).trans (h.own c hc').1, (h.own c hc').2⟩
    · exact ⟨hb, (h.own b hmem).2⟩

theorem Ow.setCell {X : List Nat} {w0 w : World} {H : List Blk} (h : Ow X w0 w H) {i : Nat} {b : Blk} (hi : H[i]? = some b) (k : Nat) (v : Value) :
    Ow X w0 (w.setCell ⟨b.g, k, none⟩ v) (H.set i ⟨b.g, b.t, b.cs.set k v⟩) := by
  refine h.write hi _ rfl rfl rfl (by simp [World.setCell]) ?_ (fun j _ hne => Below.heap_setCell _ _ _ _ hne)
  rw [heap_setCell_same w b.g k _ _ v (h.at_ hi)]
  simp

theorem Ow.setRow {X : List Nat} {w0 w : World} {H : List Blk} (h : Ow X w0 w H) {i : Nat} {b : Blk} (hi : H[i]? = some b) (cs : List Value) :
    Ow X w0 (w.setRow b.g cs.toArray) (H.set i ⟨b.g, b.t, cs⟩) := by
  refine h.write hi _ rfl rfl rfl (by simp) ?_ (fun j _ hne => ?_)
  · have := h.at_ hi
    simp [World.setRow, Array.getElem?_modify, this]
  · simp [World.setRow, Array.getElem?_modify, Ne.symm hne]

/-! ### operations -/
section ops
variable {P : Program} {N : Sz} {X : List Nat} {w0 : World} {ops : Array Oper} {Q : Exit → Act → World → Prop}

/-- what a reading operation leaves: the value v in the world that it got; a call: v and an extension -/
def eUpon (P : Program) (w : World) (v : Value) : Result Next → Prop
  | .ok (.value u) w' => w' = w ∧ u = v
  | .ok (.enter f args) w' => w' = w ∧ Calls P f args w (fun e w'' => e = .returned v ∧ Ext w w'')
  | _ => False
def eAt (P : Program) (o : Oper) (a : Act) (w : World) (v : Value) : Prop := eUpon P w v ((execOp a.eval o).run P w)

theorem wp_of_eAt {o : Oper} {a : Act} {w : World} {v : Value} {K : Act → World → Prop} (h : eAt P o a w v) (hK : ∀ w', Ext w w' → K (a.put o.dst v) w') : o.wp P a w K Q := by
  unfold eAt at h
  unfold Oper.wp
  generalize (execOp a.eval o).run P w = r at *
  cases r with
  | ok n w' =>
    cases n <;> simp only [eUpon] at h <;> simp only [Oper.upon]
    case value u =>
      obtain ⟨e1, e2⟩ := h
      rw [e1, e2]
      exact hK _ (Ext.refl _)
    case enter f args =>
      obtain ⟨e1, hc⟩ := h
      rw [e1]
      exact hc.mono fun e w'' ⟨he, hw''⟩ => by subst he; exact hK _ hw''
  | halt x w' => simp only [eUpon] at h

def EO (P : Program) (N : Sz) (X : List Nat) (w0 : World) (o : Oper) (L : List (Nat × Value)) (H : List Blk) (v : Value) : Prop :=
  ∀ a W, Fit N a L → Ow X w0 W H → eAt P o a W v

def EOg (P : Program) (N : Sz) (X : List Nat) (w0 : World) (ops : Array Oper) (o : Oper) (L : List (Nat × Value)) (H : List Blk) (v : Value) : Prop :=
  (o.guard = none ∧ EO P N X w0 o L H v) ∨
  (∃ j want s b u, o.guard = some (j, want) ∧ (ops[j]?).bind (·.dst) = some s ∧ look L s = some (.bool b) ∧ (b = want → EO P N X w0 o L H u) ∧ v = if b = want then u else undef) ∨
  (∃ j want s, o.guard = some (j, want) ∧ (ops[j]?).bind (·.dst) = some s ∧ look L s = some undef ∧ v = undef)

theorem eg {o : Oper} {L : List (Nat × Value)} {H : List Blk} {v : Value} (hg : o.guard = none) (h : EO P N X w0 o L H v) : EOg P N X w0 ops o L H v := .inl ⟨hg, h⟩
theorem egg {o : Oper} {L : List (Nat × Value)} {H : List Blk} {u : Value} {j : Nat} {want b : Bool} {s : Nat} (hg : o.guard = some (j, want)) (hs : (ops[j]?).bind (·.dst) = some s)
    (hb : look L s = some (.bool b)) (h : b = want → EO P N X w0 o L H u) : EOg P N X w0 ops o L H (if b = want then u else undef) :=
  .inr (.inl ⟨j, want, s, b, u, hg, hs, hb, h, rfl⟩)

theorem yielded_fit {a : Act} {L : List (Nat × Value)} (hF : Fit N a L) {j s : Nat} {b : Bool} (hs : (ops[j]?).bind (·.dst) = some s) (hb : look L s = some (.bool b)) :
    yielded ops a.tmps j = some b := by
  simp [yielded, hs, hF.at_ s _ hb]

/-- the value stands fast in every state that fits: what the drawing of an order needs -/
theorem EOg.cases {o : Oper} {L : List (Nat × Value)} {H : List Blk} {v : Value} (h : EOg P N X w0 ops o L H v) {a : Act} (hF : Fit N a L) :
    (Region.wanted o (yielded ops a.tmps) = true ∧ ∀ W, Ow X w0 W H → eAt P o a W v) ∨ (Region.wanted o (yielded ops a.tmps) = false ∧ v = undef) := by
  rcases h with ⟨hg, he⟩ | ⟨j, want, s, b, u, hg, hs, hb, he, rfl⟩ | ⟨j, want, s, hg, hs, hb, rfl⟩
  · exact .inl ⟨by simp [Region.wanted, hg], fun W hW => he a W hF hW⟩
  · have hy := yielded_fit hF hs hb
    by_cases hbw : b = want
    · refine .inl ⟨by simp [Region.wanted, hg, hy, hbw], fun W hW => ?_⟩
      rw [if_pos hbw]
      exact he hbw a W hF hW
    · exact .inr ⟨by simp [Region.wanted, hg, hy, hbw], by rw [if_neg hbw]⟩
  · have hy : yielded ops a.tmps j = none := by
      have := hF.at_ s _ hb
      simp [yielded, hs, this, undef]
    exact .inr ⟨by simp [Region.wanted, hg, hy], rfl⟩

/-- what an operation leaves alone: blocks outside of H; its blocks are H's or new -/
structure Fr (H : List Blk) (W : World) (H' : List Blk) (W' : World) : Prop where
  size : W.heap.size ≤ W'.heap.size
  keep : ∀ k, k < W.heap.size → k ∉ H.map Blk.g → W'.heap[k]? = W.heap[k]?
  ids : ∀ b ∈ H', b.g ∈ H.map Blk.g ∨ W.heap.size ≤ b.g
theorem Fr.ext {H : List Blk} {W W' : World} (h : Ext W W') : Fr H W H W' := ⟨h.size, fun k hk _ => h.block k hk, fun b hb => .inl (List.mem_map.2 ⟨b, hb, rfl⟩)⟩
theorem Fr.new {H : List Blk} {W : World} {t : TypeId} {cs : List Value} (o : Obj) : Fr H W (⟨W.heap.size, t, cs⟩ :: H) (W.alloc o) :=
  ⟨by simp, fun k hk _ => Below.heap_alloc _ _ _ hk, fun b hb => by
    rcases List.mem_cons.1 hb with rfl | hb
    · exact .inr (Nat.le_refl _)
    · exact .inl (List.mem_map.2 ⟨b, hb, rfl⟩)⟩
theorem Fr.write {H : List Blk} {W W' : World} {i : Nat} {b : Blk} (hi : H[i]? = some b) (cs : List Value) (hs : W.heap.size ≤ W'.heap.size) (ho : ∀ k, k < W.heap.size → k ≠ b.g → W'.heap[k]? = W.heap[k]?) : Fr H W (H.set i ⟨b.g, b.t, cs⟩) W' :=
  ⟨hs, fun k hk hn => ho k hk (fun e => hn (e ▸ List.mem_map.2 ⟨b, List.mem_of_getElem? hi, rfl⟩)), fun c hc => .inl (by
    rcases List.mem_or_eq_of_mem_set hc with hc | rfl
    · exact List.mem_map.2 ⟨c, hc, rfl⟩
    · exact List.mem_map.2 ⟨b, List.mem_of_getElem? hi, rfl⟩)⟩
theorem Fr.setCell {H : List Blk} {W : World} {i : Nat} {b : Blk} (hi : H[i]? = some b) (k : Nat) (v : Value) (cs : List Value) : Fr H W (H.set i ⟨b.g, b.t, cs⟩) (W.setCell ⟨b.g, k, none⟩ v) :=
  Fr.write hi cs (by simp [World.setCell]) (fun j _ hne => Below.heap_setCell _ _ _ _ hne)
theorem Fr.setRow {H : List Blk} {W : World} {i : Nat} {b : Blk} (hi : H[i]? = some b) (cs : List Value) (ar : Array Value) : Fr H W (H.set i ⟨b.g, b.t, cs⟩) (W.setRow b.g ar) :=
  Fr.write hi cs (by simp) (fun j _ hne => by simp [World.setRow, Array.getElem?_modify, Ne.symm hne])
/-- a block besides stays one's own -/
theorem Ow.beside {X : List Nat} {w0 W W' : World} {H H' : List Blk} {b : Blk} (h : Ow X w0 W (b :: H)) (h' : Ow X w0 W' H') (f : Fr H W H' W') : Ow X w0 W' (b :: H') := by
  have hb := h.own b (by simp)
  have hd := h.dist
  rw [List.map_cons, List.nodup_cons] at hd
  have hlt := lt_of_block hb.1
  refine ⟨h'.os, h'.tape, h'.output, h'.size, h'.old, fun c hc => ?_, ?_⟩
  · rcases List.mem_cons.1 hc with rfl | hc
    · exact ⟨(f.keep c.g hlt hd.1).trans hb.1, hb.2⟩
    · exact h'.own c hc
  · rw [List.map_cons, List.nodup_cons]
    refine ⟨fun hm => ?_, h'.dist⟩
    obtain ⟨c, hc, hg⟩ := List.mem_map.1 hm
    rcases f.ids c hc with h1 | h1
    · rw [hg] at h1; exact hd.1 h1
    · omega

/-- an operation with an effect: its possible values and heaps -/
def XO (P : Program) (N : Sz) (X : List Nat) (w0 : World) (o : Oper) (L : List (Nat × Value)) (H : List Blk) (R : Value → List Blk → Prop) : Prop :=
  ∀ a W, Fit N a L → Ow X w0 W H → ∀ (K : Act → World → Prop) (Q : Exit → Act → World → Prop), (∀ v H' W', R v H' → Ow X w0 W' H' → Fr H W H' W' → K (a.put o.dst v) W') → o.wp P a W K Q

def GO (P : Program) (N : Sz) (X : List Nat) (w0 : World) (ops : Array Oper) (Q : Exit → Act → World → Prop) (rest : List Oper) (L : List (Nat × Value)) (H : List Blk) : Prop :=
  ∀ a W, Fit N a L → Ow X w0 W H → wpList P ops Q rest a W

/-- what is asked at an exit -/
def GQ (N : Sz) (X : List Nat) (w0 : World) (Q : Exit → Act → World → Prop) (e : Exit) (L : List (Nat × Value)) (H : List Blk) : Prop :=
  ∀ a W, Fit N a L → Ow X w0 W H → Q e a W

def GC (P : Program) (N : Sz) (X : List Nat) (w0 : World) (Q : Exit → Act → World → Prop) (c : Code) (L : List (Nat × Value)) (H : List Blk) : Prop :=
  ∀ a W, Fit N a L → Ow X w0 W H → c.wp P Q a W

variable {L : List (Nat × Value)} {H : List Blk} {rest : List Oper} {o : Oper}

theorem go_nil (h : GQ N X w0 Q .normal L H) : GO P N X w0 ops Q [] L H := fun a W hF hO => wpList_nil (h a W hF hO)

theorem go_e {v : Value} (he : EOg P N X w0 ops o L H v) (hd : dOK N o.dst = true) (h : GO P N X w0 ops Q rest (ins o.dst v L) H) : GO P N X w0 ops Q (o :: rest) L H := by
  intro a W hF hO
  unfold wpList
  rcases he.cases hF with ⟨hw, hv⟩ | ⟨hw, rfl⟩
  · rw [if_pos hw]
    exact .inl (wp_of_eAt (hv W hO) fun w' e => h _ _ (hF.put hd v) (hO.ext e))
  · rw [if_neg (by simp [hw])]
    exact h _ _ (hF.put hd _) hO

theorem go_x {R : Value → List Blk → Prop} (hx : XO P N X w0 o L H R) (hg : o.guard = none) (hd : dOK N o.dst = true)
    (h : ∀ v H', R v H' → GO P N X w0 ops Q rest (ins o.dst v L) H') : GO P N X w0 ops Q (o :: rest) L H := by
  intro a W hF hO
  refine wpList_plain hg fun K hK => ?_
  exact hx a W hF hO K Q fun v H' W' hR hO' _ => hK _ _ (h v H' hR _ _ (hF.put hd v) hO')

/-- .. under a guard that is known to hold -/
theorem go_xg {R : Value → List Blk → Prop} {j s : Nat} {want : Bool} (hx : XO P N X w0 o L H R) (hg : o.guard = some (j, want)) (hs : (ops[j]?).bind (·.dst) = some s) (hb : look L s = some (.bool want)) (hd : dOK N o.dst = true)
    (h : ∀ v H', R v H' → GO P N X w0 ops Q rest (ins o.dst v L) H') : GO P N X w0 ops Q (o :: rest) L H := by
  intro a W hF hO
  refine wpList_step fun K hK => ?_
  rw [if_pos (by simp [Region.wanted, hg, yielded_fit hF hs hb])]
  exact hx a W hF hO K Q fun v H' W' hR hO' _ => hK _ _ (h v H' hR _ _ (hF.put hd v) hO')

/-- .. under a guard that is known not to hold -/
theorem go_skip {j s : Nat} {want b : Bool} (hg : o.guard = some (j, want)) (hs : (ops[j]?).bind (·.dst) = some s) (hb : look L s = some (.bool b)) (hne : b ≠ want) (hd : dOK N o.dst = true)
    (h : GO P N X w0 ops Q rest (ins o.dst undef L) H) : GO P N X w0 ops Q (o :: rest) L H := by
  intro a W hF hO
  refine wpList_step fun K hK => ?_
  rw [if_neg (by simp [Region.wanted, hg, yielded_fit hF hs hb, hne])]
  exact hK _ _ (h _ _ (hF.put hd _) hO)

/-- a state is weakened -/
theorem go_weak {L' : List (Nat × Value)} {H' : List Blk} (hL : Has L L') (hH : H'.Sublist H) (h : GO P N X w0 ops Q rest L' H') : GO P N X w0 ops Q rest L H :=
  fun a W hF hO => h a W (hF.weak hL) (hO.sub hH)
theorem gq_weak {e : Exit} {L' : List (Nat × Value)} {H' : List Blk} (hL : Has L L') (hH : H'.Sublist H) (h : GQ N X w0 Q e L' H') : GQ N X w0 Q e L H :=
  fun a W hF hO => h a W (hF.weak hL) (hO.sub hH)
theorem gc_weak {c : Code} {L' : List (Nat × Value)} {H' : List Blk} (hL : Has L L') (hH : H'.Sublist H) (h : GC P N X w0 Q c L' H') : GC P N X w0 Q c L H :=
  fun a W hF hO => h a W (hF.weak hL) (hO.sub hH)

/-! ### code -/
theorem gc_region {id : Nat} {l : List Oper} (h : GO P N X w0 l.toArray Q l L H) : GC P N X w0 Q (.region id l.toArray false) L H :=
  fun a W hF hO => wp_region_lit (h a W hF hO)
theorem gc_seq {x y : Code} (h : GC P N X w0 (Exit.then (y.wp P Q) Q) x L H) : GC P N X w0 Q (.seq x y) L H :=
  fun a W hF hO => wp_seq (h a W hF hO)
theorem gq_next {y : Code} (h : GC P N X w0 Q y L H) : GQ N X w0 (Exit.then (y.wp P Q) Q) .normal L H := h
theorem gq_then_exit {K : Act → World → Prop} {id : Nat} (h : GQ N X w0 Q (.exit id) L H) : GQ N X w0 (Exit.then K Q) (.exit id) L H := h
theorem gq_then_ret {K : Act → World → Prop} (h : GQ N X w0 Q .ret L H) : GQ N X w0 (Exit.then K Q) .ret L H := h
theorem gq_block_ret {id : Nat} (h : GQ N X w0 Q .ret L H) : GQ N X w0 (Exit.inBlock id Q) .ret L H := h
theorem gq_block_end {id : Nat} (h : GQ N X w0 Q .normal L H) : GQ N X w0 (Exit.inBlock id Q) .normal L H := h
theorem gq_block_hit {id : Nat} (h : GQ N X w0 Q .normal L H) : GQ N X w0 (Exit.inBlock id Q) (.exit id) L H := fun a W hF hO => by
  simp only [Exit.inBlock, if_true]; exact h a W hF hO
theorem gq_block_miss {id id' : Nat} (hne : id' ≠ id) (h : GQ N X w0 Q (.exit id') L H) : GQ N X w0 (Exit.inBlock id Q) (.exit id') L H := fun a W hF hO => by
  simp only [Exit.inBlock, if_neg hne]; exact h a W hF hO
theorem gc_skip (h : GQ N X w0 Q .normal L H) : GC P N X w0 Q .skip L H := fun a W hF hO => wp_skip (h a W hF hO)
theorem gc_ret (h : GQ N X w0 Q .ret L H) : GC P N X w0 Q .ret L H := fun a W hF hO => wp_ret (h a W hF hO)
theorem gc_exit {id : Nat} (h : GQ N X w0 Q (.exit id) L H) : GC P N X w0 Q (.exit id) L H := fun a W hF hO => wp_exit (h a W hF hO)
theorem gc_block {id : Nat} {c : Code} (h : GC P N X w0 (Exit.inBlock id Q) c L H) : GC P N X w0 Q (.block id c) L H := fun a W hF hO => wp_block (h a W hF hO)
theorem gc_cond {c : Operand} {x y : Code} {b : Bool} (hc : ev L c = some (.bool b)) (ht : b = true → GC P N X w0 Q x L H) (hf : b = false → GC P N X w0 Q y L H) :
    GC P N X w0 Q (.cond c x y) L H :=
  fun a W hF hO => wp_cond_split (hF.eval hc) (fun h => ht h a W hF hO) (fun h => hf h a W hF hO)

/-- the state at a round's head -/
def RoundAt {α : Type} (N : Sz) (X : List Nat) (w0 : World) (I : α → Prop) (μ : α → Nat) (Lx : α → List (Nat × Value)) (Hx : α → List Blk) (n : Nat) (a : Act) (W : World) : Prop :=
  ∃ x, I x ∧ μ x = n ∧ Fit N a (Lx x) ∧ Ow X w0 W (Hx x)

theorem gc_loop {α : Type} {c : Code} (I : α → Prop) (μ : α → Nat) (Lx : α → List (Nat × Value)) (Hx : α → List Blk) (x0 : α) (h0 : I x0) (hL : Has L (Lx x0)) (hH : (Hx x0).Sublist H)
    (round : ∀ x, I x → GC P N X w0 (Exit.then (fun a W => ∃ n, n < μ x ∧ RoundAt N X w0 I μ Lx Hx n a W) Q) c (Lx x) (Hx x)) : GC P N X w0 Q (.loop c) L H := by
  intro _ _ hF hO
  refine wp_loop_ghost (RoundAt N X w0 I μ Lx Hx) (μ x0) ⟨x0, h0, rfl, hF.weak hL, hO.sub hH⟩ ?_
  rintro n a W ⟨x, hI, rfl, hF, hO⟩
  exact round x hI a W hF hO

theorem gq_round {α : Type} {I : α → Prop} {μ : α → Nat} {Lx : α → List (Nat × Value)} {Hx : α → List Blk} {n : Nat} (x : α) (hI : I x) (hμ : μ x < n) (hL : Has L (Lx x)) (hH : (Hx x).Sublist H) :
    GQ N X w0 (Exit.then (fun a W => ∃ m, m < n ∧ RoundAt N X w0 I μ Lx Hx m a W) Q) .normal L H :=
  fun _ _ hF hO => ⟨μ x, hμ, x, hI, rfl, hF.weak hL, hO.sub hH⟩

/-! ### entering and leaving a function -/
def argsL : Nat → List Value → List (Nat × Value)
  | _, [] => []
  | k, v :: r => (k, v) :: argsL (k + 1) r

theorem look_argsL : ∀ (vs : List Value) (k s : Nat) (v : Value), look (argsL k vs) s = some v → ∃ j, s = k + j ∧ vs[j]? = some v
  | [], _, _, _, h => by simp [argsL, look] at h
  | u :: r, k, s, v, h => by
    by_cases e : k = s
    · subst e
      rw [argsL, look_cons_eq] at h
      exact ⟨0, rfl, by simpa using h⟩
    · rw [argsL, look_cons_ne e] at h
      obtain ⟨j, hj, hv⟩ := look_argsL r (k + 1) s v h
      exact ⟨j + 1, by omega, by simpa using hv⟩

theorem calls_enter {f : FuncId} {fn : Func} {c : Code} {vs : List Value} {w : World} {R : Ending → World → Prop} (X : List Nat) (H : List Blk)
    (hf : P.funcs[f]? = some fn) (hb : fn.body = some c) (hn : fn.ntmps = N.n) (hle : Nat.ble vs.length N.n = true) (hO : Ow X w w H)
    (h : GC P N X w (bodyPost P fn R) c (argsL 0 vs) H) (hds : N.ds = [] := by rfl) : Calls P f vs.toArray w R := by
  refine calls_of_wp hf hb (h _ w ⟨hds.symm, ?_, ?_⟩ hO)
  · have := Nat.le_of_ble_eq_true hle
    simp [hn]; omega
  · intro s v hs
    obtain ⟨j, rfl, hv⟩ := look_argsL vs 0 s v hs
    have hlt := (List.getElem?_eq_some_iff.1 hv).1
    simp only [Nat.zero_add]
    rw [Array.getElem?_append_left (by simpa using hlt)]
    simpa using hv

theorem gq_results {fn : Func} {R : Ending → World → Prop} {v : Value} (hres : ∀ a W, Fit N a L → Ow X w0 W H → (results fn a.tmps).run P W = .ok v W)
    (hR : ∀ W, Ow X w0 W H → R (.returned v) W) (hds : N.ds = [] := by rfl) : GQ N X w0 (bodyPost P fn R) .ret L H :=
  fun a W hF hO => ⟨hF.defers.trans hds, v, hres a W hF hO, hR W hO⟩
theorem gq_results_end {fn : Func} {R : Ending → World → Prop} {v : Value} (hres : ∀ a W, Fit N a L → Ow X w0 W H → (results fn a.tmps).run P W = .ok v W)
    (hR : ∀ W, Ow X w0 W H → R (.returned v) W) (hds : N.ds = [] := by rfl) : GQ N X w0 (bodyPost P fn R) .normal L H :=
  fun a W hF hO => ⟨hF.defers.trans hds, v, hres a W hF hO, hR W hO⟩

/-- how one result variable is read -/
def resV (L : List (Nat × Value)) (H : List Blk) (i : Nat) (n : Nat) : ResultVar → Option Value
  | .tmp t => look L t
  | .cell t _ => match look L t with
    | some (.pointer (some ⟨g, 0, none⟩)) => match H[i]? with
      | some b => if b.g = g ∧ b.cs.length = n then some (.agg b.cs.toArray) else none
      | none => none
    | _ => none
end ops
end Go.Eng
