/-
  The engine: a range over a function. The rounds' bodies are walked as all code is; the base of the memory is moved to the round's start.
  No program is named here.
-/
import Derived.Test.YtnmiljloifbjeaaRgn
namespace Go.Eng
open Go.RowKit

section
variable {P : Program} {ro : Option Nat} {n : Nat} {N : Sz} {X : List Nat} {w0 : World} {Q : Exit → Act → World → Prop} {L : List (Nat × Value)} {H : List Blk}

/-! ### the base is moved -/
theorem Ow.rebase {W : World} (h : Ow X w0 W H) : Ow (H.map Blk.g) W W H :=
  ⟨rfl, rfl, rfl, Nat.le_refl _, fun _ _ _ => rfl, fun b hb => ⟨(h.own b hb).1, .inr (List.mem_map.2 ⟨b, hb, rfl⟩)⟩, h.dist⟩
theorem Ow.back {Y : List Nat} {W W' : World} {H' : List Blk} (h : Ow X w0 W H) (k : Ow Y W W' H') (hY : ∀ y ∈ Y, w0.heap.size ≤ y ∨ y ∈ X) : Ow X w0 W' H' :=
  ⟨k.os.trans h.os, k.tape.trans h.tape, k.output.trans h.output, Nat.le_trans h.size k.size,
   fun j hj hx => (k.old j (Nat.lt_of_lt_of_le hj h.size) (fun hy => by rcases hY j hy with h1 | h1; omega; exact hx h1)).trans (h.old j hj hx),
   fun b hb => ⟨(k.own b hb).1, by
    rcases (k.own b hb).2 with h1 | h1
    · exact .inl (Nat.le_trans h.size h1)
    · exact hY _ h1⟩, k.dist⟩
theorem Ow.ids {W : World} (h : Ow X w0 W H) : ∀ y ∈ H.map Blk.g, w0.heap.size ≤ y ∨ y ∈ X := fun y hy => by
  obtain ⟨b, hb, rfl⟩ := List.mem_map.1 hy
  exact (h.own b hb).2
/-- a block that holds no cells is turned -/
theorem Ow.turn {W W' : World} {row : Option Nat} (h : Ow X w0 W H) (hg : W.grownBy W' row) (hr : ∀ r, row = some r → w0.heap.size ≤ r ∧ ∃ o : Obj, W.heap[r]? = some o ∧ o.isCells = false) : Ow X w0 W' H :=
  ⟨hg.os.trans h.os, hg.tape.trans h.tape, hg.output.trans h.output, Nat.le_trans h.size hg.size,
   fun k hk hx => (hg.block k (Nat.lt_of_lt_of_le hk h.size) (fun e => by have := (hr k e.symm).1; omega)).trans (h.old k hk hx),
   fun b hb => ⟨(hg.block b.g (lt_of_block (h.own b hb).1) (fun e => by
    obtain ⟨_, o, ho, hc⟩ := hr b.g e.symm
    rw [(h.own b hb).1] at ho; cases ho; cases hc)).trans (h.own b hb).1, (h.own b hb).2⟩, h.dist⟩
theorem Ow.put {W : World} {D : Nat} {o o' : Obj} (h : Ow X w0 W H) (hD : W.heap[D]? = some o) (ho : o.isCells = false) : Ow (D :: X) w0 (W.putObj D o') H :=
  ⟨h.os, h.tape, h.output, by simpa using h.size,
   fun k hk hx => by
    have h1 : k ≠ D := fun e => hx (by simp [e])
    exact (World.putObj_heap_other h1).trans (h.old k hk (fun e => hx (by simp [e]))),
   fun b hb => by
    have h1 : b.g ≠ D := fun e => by rw [← e, (h.own b hb).1] at hD; cases hD; cases ho
    refine ⟨(World.putObj_heap_other h1).trans (h.own b hb).1, ?_⟩
    rcases (h.own b hb).2 with h2 | h2
    · exact .inl h2
    · exact .inr (by simp [h2]), h.dist⟩

/-! ### a round's code -/
def GR (l n : Nat) (P : Program) (N : Sz) (X : List Nat) (w0 : World) (Q : Exit → Act → World → Prop) (c : Code) (L : List (Nat × Value)) (H : List Blk) : Prop :=
  ∀ a W, Fit N a L → Ow X w0 W H → c.wpIn (Fw (some l)) n P Q a W
def nodefB (l : List Oper) : Bool := l.all fun o => match o.op with | .defer _ => false | _ => true
theorem nodef_spec {l : List Oper} (h : nodefB l = true) {o : Oper} (ho : o ∈ l) : ND ro o := .inr fun c hc => by
  have := List.all_eq_true.1 h o ho
  simp [hc] at this
theorem wpListIn_of {ops : Array Oper} (hQ : ¬ LetsOut Q) : ∀ (l : List Oper) (a : Act) (w : World), (∀ o ∈ l, ND ro o) → wpList P ops Q l a w → wpListIn (Fw ro) n P ops Q l a w
  | [], _, _, _, h => h
  | o :: r, a, w, hn, h => by
    unfold wpList at h
    unfold wpListIn
    split at h
    · rename_i hw
      rw [if_pos hw]
      rcases h with h | ⟨_, h⟩
      · exact Oper.wpIn_mono (fun a' w' h' => wpListIn_of hQ r a' w' (fun o ho => hn o (List.mem_cons_of_mem _ ho)) h') (wpIn_of_wp (hn o (by simp)) h)
      · exact absurd h hQ
    · rename_i hw
      rw [if_neg hw]
      exact ⟨fun _ _ => trivial, wpListIn_of hQ r _ w (fun o ho => hn o (List.mem_cons_of_mem _ ho)) h⟩
theorem gr_region {l m id : Nat} {ops : List Oper} (hn : nodefB ops = true) (hQ : ¬ LetsOut Q) (h : GO P N X w0 ops.toArray Q ops L H) : GR l m P N X w0 Q (.region id ops.toArray false) L H :=
  fun a W hF hO => wpIn_region_lit (wpListIn_of hQ _ _ _ (fun _ ho => nodef_spec hn ho) (h a W hF hO))
theorem gr_draw {l m id : Nat} {ops : List Oper} (hn : nodefB ops = true) (ps es as ts : List Nat) (hm : P.follows .mixedOrders = true) (hB : mixB ops ps es as ts = true)
    (h : GPs P N ops ps L fun L1 => GEs P N X w0 ops H es L1 fun L2 => GAs P N X w0 ops H as L2 H fun L3 H3 => GI (some l) m P N X w0 ops (NQ Q) ts L3 H3) : GR l m P N X w0 Q (.region id ops.toArray true) L H :=
  gc_draw_in (fun j o ho => nodef_spec hn (List.mem_of_getElem? (by simpa using ho))) ps es as ts hm hB h
theorem gr_draw2 {l m id : Nat} {ops : List Oper} (hn : nodefB ops = true) (es1 es2 : List Nat) (x : Nat) (ts : List Nat) (H0 : List Blk) (hm : P.follows .mixedOrders = true) (hB : mix2B ops es1 es2 x ts = true) (hH : H0.Sublist H)
    (h : GEs P N X w0 ops H0 es1 L fun L1 => GEs P N X w0 ops H es2 L1 fun L2 => ∃ o R, ops[x]? = some o ∧ o.guard = none ∧ dOK N o.dst = true ∧ XO P N X w0 o L2 H R ∧ ∀ v H', R v H' → H0.Sublist H' ∧ GI (some l) m P N X w0 ops (NQ Q) ts (ins o.dst v L2) H') : GR l m P N X w0 Q (.region id ops.toArray true) L H :=
  gc_draw2_in (fun j o ho => nodef_spec hn (List.mem_of_getElem? (by simpa using ho))) es1 es2 x ts H0 hm hB hH h
theorem gr_seq {l m : Nat} {x y : Code} (h : GR l m P N X w0 (Exit.then (y.wpIn (Fw (some l)) m P Q) Q) x L H) : GR l m P N X w0 Q (.seq x y) L H := fun a W hF hO => wpIn_seq (h a W hF hO)
theorem gqr_next {l m : Nat} {y : Code} (h : GR l m P N X w0 Q y L H) : GQ N X w0 (Exit.then (y.wpIn (Fw (some l)) m P Q) Q) .normal L H := h
theorem gr_skip {l m : Nat} (h : GQ N X w0 Q .normal L H) : GR l m P N X w0 Q .skip L H := fun a W hF hO => wpIn_skip (h a W hF hO)
theorem gr_ret {l m : Nat} (h : GQ N X w0 Q .ret L H) : GR l m P N X w0 Q .ret L H := fun a W hF hO => wpIn_ret (h a W hF hO)
theorem gr_exit {l m id : Nat} (h : GQ N X w0 Q (.exit id) L H) : GR l m P N X w0 Q (.exit id) L H := fun a W hF hO => wpIn_exit (h a W hF hO)
theorem gr_block {l m id : Nat} {c : Code} (h : GR l m P N X w0 (Exit.inBlock id Q) c L H) : GR l m P N X w0 Q (.block id c) L H := fun a W hF hO => wpIn_block (h a W hF hO)
theorem gr_cond {l m : Nat} {c : Operand} {x y : Code} {b : Bool} (hc : ev L c = some (.bool b)) (ht : b = true → GR l m P N X w0 Q x L H) (hf : b = false → GR l m P N X w0 Q y L H) : GR l m P N X w0 Q (.cond c x y) L H :=
  fun a W hF hO => wpIn_cond_split (hF.eval hc) (fun h => ht h a W hF hO) (fun h => hf h a W hF hO)
theorem gr_weak {l m : Nat} {c : Code} {L' : List (Nat × Value)} {H' : List Blk} (hL : Has L L') (hH : H'.Sublist H) (h : GR l m P N X w0 Q c L' H') : GR l m P N X w0 Q c L H :=
  fun a W hF hO => h a W (hF.weak hL) (hO.sub hH)

/-! ### what a round keeps for its iterator -/
structure KX (X : List Nat) (M : Nat) (W W' : World) : Prop where
  os : W'.os = W.os
  tape : W'.tape = W.tape
  output : W'.output = W.output
  size : W.heap.size ≤ W'.heap.size
  old : ∀ k, k < M → k ∉ X → W'.heap[k]? = W.heap[k]?
theorem KX.trans {M : Nat} {A B C : World} (h : KX X M A B) (k : KX X M B C) : KX X M A C :=
  ⟨k.os.trans h.os, k.tape.trans h.tape, k.output.trans h.output, Nat.le_trans h.size k.size, fun j hj hx => (k.old j hj hx).trans (h.old j hj hx)⟩
theorem KX.refl (X : List Nat) (M : Nat) (W : World) : KX X M W W := ⟨rfl, rfl, rfl, Nat.le_refl _, fun _ _ _ => rfl⟩
theorem KX.of_ext {M : Nat} {W W' : World} (h : Ext W W') (hM : M ≤ W.heap.size) : KX X M W W' := ⟨h.os, h.tape, h.output, h.size, fun k hk _ => h.block k (by omega)⟩
theorem KX.putObj {M : Nat} (W : World) (l : Nat) (o' : Obj) (hl : M ≤ l) : KX X M W (W.putObj l o') := ⟨rfl, rfl, rfl, by simp, fun k hk _ => World.putObj_heap_other (by omega)⟩
theorem KX.block {M g : Nat} {W W' : World} {o : Obj} (h : KX X M W W') (hg : W.heap[g]? = some o) (hM : g < M) (hX : g ∉ X) : W'.heap[g]? = some o := (h.old g hM hX).trans hg
theorem KX.rd {M : Nat} {W W' : World} {A : Option Addr} {xs : List Value} (h : KX X M W W') (hr : Rd W A xs) (hM : W.heap.size ≤ M) (hX : 0 < xs.length → bl A ∉ X) : Rd W' A xs := by
  intro k hk
  have hc := (hr k hk).2
  rw [List.getElem?_eq_getElem hk] at hc
  have := h.old (bl A) (Nat.lt_of_lt_of_le (World.block_lt_of_cell? _ _ hc) hM) (hX (by omega))
  exact ⟨(hr k hk).1, (World.cell?_of_block this).trans (hr k hk).2⟩

/-! ### the frame of a round -/
theorem Fit.param {a : Act} (h : Fit N a L) {p : Nat} (hp : Nat.blt p N.n = true) (v : Value) :
    Fit ⟨N.n, []⟩ { tmps := ((#[p] : Array Tmp).zip (#[v] : Array Value)).foldl (fun t (p, v) => t.setIfInBounds p v) a.tmps, defers := [] } ((p, v) :: L) := by
  have h1 := h.put (d := some p) (by simpa [dOK] using hp) v
  refine ⟨rfl, ?_, fun s u hs => ?_⟩
  · have := h1.size; simpa [Act.put] using this
  · have := h1.at_ s u hs
    simpa [Act.put, ins] using this

def mark (D : Nat) : Deferred := { target := .collected D, args := #[] }

/-- what a body leaves -/
def rPost {α : Type} (Y : List Nat) (W : World) (G : List α → Prop) (Hx : List α → List Blk) (R : Code → List α → List Blk → Prop) (xs : List α) : Exit → Act → World → Prop
  | .normal, _, W' => G xs ∧ Ow Y W W' (Hx xs)
  | .ret, _, W' => ∃ H', R .ret xs H' ∧ Ow Y W W' H'
  | .exit id, _, W' => ∃ H', R (.exit id) xs H' ∧ Ow Y W W' H'
  | _, _, _ => False

/-- **A range over a function, its one variable in a box.** -/
theorem gc_range {α : Type} {g : Operand} {p : Nat} {assign body : Code} {gf : Nat} {lb : Array Value} {enc : α → Value} {S Sp : List α → Prop} {Nn : Nat}
    (G : List α → Prop) (Hx : List α → List Blk) (R : Code → List α → List Blk → Prop) (La : α → Nat → List (Nat × Value)) (ta : TypeId) (ca : α → List Value)
    (hg : ev L g = some (.func (.func gf) #[] lb)) (he : Ent P gf) (hp : Nat.blt p N.n = true)
    (hH : (Hx []).Sublist H) (hid : ∀ xs, (Hx xs).map Blk.g = (Hx []).map Blk.g) (hG : G []) (hR : ∀ c xs H', R c xs H' → H'.map Blk.g = (Hx []).map Blk.g)
    (hseq : ∀ W, Ow X w0 W H → SeqStopsK Fence.wide 2 P gf lb (fun x => #[enc x]) (KX ((Hx []).map Blk.g) W.heap.size) S Sp Nn W)
    (hassign : ∀ (l : Nat) (pre : List α) (x : α) (W : World), G pre → GR l 1 P ⟨N.n, []⟩ ((Hx []).map Blk.g) W (Exit.then (fun a' W' => ∃ Bx, Fit ⟨N.n, []⟩ a' (La x Bx) ∧ Ow ((Hx []).map Blk.g) W W' (⟨Bx, ta, ca x⟩ :: Hx pre)) (fun _ _ _ => False)) assign ((p, enc x) :: L) (Hx pre))
    (hbody : ∀ (l : Nat) (pre : List α) (x : α) (Bx : Nat) (W : World), G pre → pre.length < Nn → GR l 1 P ⟨N.n, []⟩ (Bx :: (Hx []).map Blk.g) W (rPost (Bx :: (Hx []).map Blk.g) W G Hx R (pre ++ [x])) body (La x Bx) (⟨Bx, ta, ca x⟩ :: Hx pre))
    (hdone : ∀ (D : Nat) (xs : List α) (W : World), S xs → G xs → Ow X w0 W (Hx xs) → w0.heap.size ≤ D → W.heap[D]? = some (.deferred (some [])) → GQ ⟨N.n, mark D :: N.ds⟩ ((Hx []).map Blk.g) W Q .normal L (Hx xs))
    (hstop : ∀ (D : Nat) (c : Code) (xs : List α) (H' : List Blk) (W : World), Sp xs → R c xs H' → Ow X w0 W H' → w0.heap.size ≤ D → W.heap[D]? = some (.deferred (some [])) → GC P ⟨N.n, mark D :: N.ds⟩ ((Hx []).map Blk.g) W Q c L H') :
    GC P N X w0 Q (.rangeFunc g #[p] assign body) L H := by
  intro a w hF hO
  have hO' : Ow X w0 w (Hx []) := hO.sub hH
  have hlt : ∀ y ∈ (Hx []).map Blk.g, y < w.heap.size := fun y hy => by
    obtain ⟨b, hb, rfl⟩ := List.mem_map.1 hy
    exact lt_of_block (hO'.own b hb).1
  refine (wpIn_wide (n := 3)).1 (wpIn_rangeFunc_ownH (F := Fence.wide) (n := 3) (α := α) rfl (by omega) (hF.eval hg) trivial he (hseq w hO) (fun h k => h.trans k)
    (fun W l o o' hl _ _ _ => KX.putObj W l o' hl) (Below.refl _ _) (fun _ => rfl)
    (fun pre W => G pre ∧ Ow X w0 W (Hx pre) ∧ w.heap.size ≤ W.heap.size) (fun c pre W => ∃ H', R c pre H' ∧ Ow X w0 W H') ?_ ?_ ⟨hG, hO', Nat.le_refl _⟩
    (fun x a' W => ∃ Bx, w.heap.size ≤ Bx ∧ Fit ⟨N.n, []⟩ a' (La x Bx) ∧ W.heap[Bx]? = some (.cells (ca x).toArray ta (0, 0))) ?_ ?_ ?_ ?_ ?_)
  · intro s W W' row ⟨h1, h2, h4⟩ hg hr
    exact ⟨h1, h2.turn hg fun r e => ⟨Nat.le_trans hO.size (hr r e).1, (hr r e).2⟩, Nat.le_trans h4 hg.size⟩
  · intro c s W W' row ⟨H', h1, h2⟩ hg hr
    exact ⟨H', h1, h2.turn hg fun r e => ⟨Nat.le_trans hO.size (hr r e).1, (hr r e).2⟩⟩
  · intro x a' _ W W' row ⟨Bx, h1, h2, h3⟩ hg hr
    refine ⟨Bx, h1, h2, (hg.block Bx (lt_of_block h3) (fun e => ?_)).trans h3⟩
    obtain ⟨_, o, ho, hc⟩ := hr Bx e.symm
    rw [h3] at ho; cases ho; cases hc
  · intro l pre x W K ⟨h1, h2, h4⟩ hK
    have hb : Ow ((Hx []).map Blk.g) W W (Hx pre) := by have := h2.rebase; rwa [hid] at this
    refine Code.wpIn_mono ?_ (hassign l pre x W h1 _ W (hF.param hp (enc x)) hb)
    intro e a' W' hq
    cases e with
    | normal =>
      obtain ⟨Bx, hf', ho'⟩ := hq
      have hBx : W.heap.size ≤ Bx := by
        rcases (ho'.own ⟨Bx, ta, ca x⟩ (by simp)).2 with h | h
        · exact h
        · have hd := ho'.dist
          rw [List.map_cons, List.nodup_cons, hid pre] at hd
          exact absurd h hd.1
      have hbk := h2.back (ho'.sub (List.sublist_cons_self _ _)) (by rw [← hid pre]; exact h2.ids)
      refine hK a' W' ⟨ho'.size, fun k o hk hko hno => ?_⟩ ⟨ho'.os, ho'.tape, ho'.output, ho'.size, fun k hk hx => ho'.old k (by omega) hx⟩ ⟨h1, hbk, Nat.le_trans h4 ho'.size⟩ ⟨Bx, Nat.le_trans h4 hBx, hf', (ho'.own ⟨Bx, ta, ca x⟩ (by simp)).1⟩
      exact (ho'.old k (lt_of_block hko) (fun hy => by have := hlt k hy; omega)).trans hko
    | _ => exact hq
  · intro l pre x a' W hl _ ⟨h1, h2, h4⟩ ⟨Bx, hBx, hf', hbx⟩ hlen
    have hb0 : Ow X w0 W (⟨Bx, ta, ca x⟩ :: Hx pre) := by
      refine ⟨h2.os, h2.tape, h2.output, h2.size, h2.old, fun b hb => ?_, ?_⟩
      · rcases List.mem_cons.1 hb with rfl | hb
        · exact ⟨hbx, .inl (Nat.le_trans hO.size hBx)⟩
        · exact h2.own b hb
      · rw [List.map_cons, List.nodup_cons]
        refine ⟨fun hm => ?_, h2.dist⟩
        rw [hid pre] at hm
        have := hlt _ hm
        simp only at this
        omega
    have hb : Ow (Bx :: (Hx []).map Blk.g) W W (⟨Bx, ta, ca x⟩ :: Hx pre) := by have := hb0.rebase; rw [List.map_cons, hid] at this; exact this
    have hcell : ∀ k o, W.heap[k]? = some o → o.isCells = false → k ∉ (Bx :: (Hx []).map Blk.g) := by
      intro k o hk ho hm
      have hm' : k ∈ (⟨Bx, ta, ca x⟩ :: Hx pre : List Blk).map Blk.g := by rw [List.map_cons, hid]; exact hm
      obtain ⟨b, hb', rfl⟩ := List.mem_map.1 hm'
      rw [(hb0.own b hb').1] at hk
      cases hk
      cases ho
    have hY : ∀ y ∈ Bx :: (Hx []).map Blk.g, w0.heap.size ≤ y ∨ y ∈ X := fun y hy => by
      refine hb0.ids y ?_
      rw [List.map_cons, hid]; exact hy
    refine Code.wpIn_mono ?_ (hbody l pre x Bx W h1 hlen a' W hf' hb)
    have kf : ∀ {W' : World} {H' : List Blk}, Ow (Bx :: (Hx []).map Blk.g) W W' H' → KeepsFrom w.heap.size W W' := fun ho' =>
      ⟨ho'.size, fun k o _ hko hno => (ho'.old k (lt_of_block hko) (hcell k o hko hno)).trans hko⟩
    intro e a3 W' hq
    cases e with
    | normal =>
      obtain ⟨hg', ho'⟩ := hq
      refine ⟨kf ho', ⟨ho'.os, ho'.tape, ho'.output, ho'.size, fun k hk hx => ho'.old k (by omega) (fun hm => ?_)⟩, hg', h2.back ho' hY, Nat.le_trans h4 ho'.size⟩
      rcases List.mem_cons.1 hm with rfl | hm
      · omega
      · exact hx hm
    | ret => obtain ⟨H', hr, ho'⟩ := hq; exact ⟨kf ho', H', hr, h2.back ho' hY⟩
    | exit id => obtain ⟨H', hr, ho'⟩ := hq; exact ⟨kf ho', H', hr, h2.back ho' hY⟩
    | _ => exact hq.elim
  · intro D xs W hD hS ⟨h1, h2, h4⟩ hK
    have hb : Ow ((Hx []).map Blk.g) W W (Hx xs) := by have := h2.rebase; rwa [hid] at this
    refine hdone D xs W hS h1 h2 (Nat.le_trans hO.size hD) hK _ W ⟨?_, hF.size, hF.at_⟩ hb
    show _ :: a.defers = _
    rw [hF.defers]; rfl
  · intro D c pre W hD hS ⟨H', h1, h2⟩ hK
    have hb : Ow ((Hx []).map Blk.g) W W H' := by have := h2.rebase; rwa [hR _ _ _ h1] at this
    refine wpIn_wide.2 (hstop D c pre H' W hS h1 h2 (Nat.le_trans hO.size hD) hK _ W ⟨?_, hF.size, hF.at_⟩ hb)
    show _ :: a.defers = _
    rw [hF.defers]; rfl

/-! ### entering and leaving such a function -/
theorem calls_marks {f : FuncId} {fn : Func} {c : Code} {vs : List Value} {w : World} {R : Ending → World → Prop} (X : List Nat) (H : List Blk)
    (hf : P.funcs[f]? = some fn) (hb : fn.body = some c) (hn : fn.ntmps = N.n) (hle : Nat.ble vs.length N.n = true) (hO : Ow X w w H)
    (h : GC P N X w (bodyPostM Fence.wide 3 P fn R) c (argsL 0 vs) H) (hds : N.ds = [] := by rfl) : Calls P f vs.toArray w R := by
  refine callsIn_wide.1 (callsIn_of_wp_marks (F := Fence.wide) (n := 3) hf hb trivial (wpIn_wide.2 (h _ w ⟨hds.symm, ?_, ?_⟩ hO)))
  · have := Nat.le_of_ble_eq_true hle
    simp [hn]; omega
  · intro s v hs
    obtain ⟨j, rfl, hv⟩ := look_argsL vs 0 s v hs
    have hlt := (List.getElem?_eq_some_iff.1 hv).1
    simp only [Nat.zero_add]
    rw [Array.getElem?_append_left (by simpa using hlt)]
    simpa using hv
theorem gq_plain {fn : Func} {R : Ending → World → Prop} {v : Value} (hres : ∀ a W, Fit N a L → Ow X w0 W H → (results fn a.tmps).run P W = .ok v W)
    (hR : ∀ W, Ow X w0 W H → R (.returned v) W) (hds : N.ds = [] := by rfl) : GQ N X w0 (bodyPostM Fence.wide 3 P fn R) .ret L H := fun a W hF hO => by
  show LeavesInM _ _ _ _ _ _ a.defers _ _
  rw [hF.defers, hds]
  exact ⟨v, hres a W hF hO, hR W hO⟩
theorem gq_marks {fn : Func} {R : Ending → World → Prop} {v : Value} {m D : Nat} (hD : w0.heap[D]? = some (.deferred (some []))) (hx : D ∉ X)
    (hres : ∀ a W, Fit ⟨m, [mark D]⟩ a L → Ow (D :: X) w0 W H → (results fn a.tmps).run P W = .ok v W)
    (hR : ∀ W, Ow (D :: X) w0 W H → R (.returned v) W) : GQ ⟨m, [mark D]⟩ X w0 (bodyPostM Fence.wide 3 P fn R) .ret L H := fun a W hF hO => by
  show LeavesInM _ _ _ _ _ _ a.defers _ _
  rw [hF.defers]
  have hK : W.heap[D]? = some (.deferred (some [])) := (hO.old D (lt_of_block hD) hx).trans hD
  have hO' : Ow (D :: X) w0 (W.putObj D (.deferred none)) H := hO.put hK rfl
  exact ⟨by simp, .inl ⟨D, _, rfl, run_takeDeferred hK, v, hres a _ hF hO', hR _ hO'⟩⟩

/-! ### guards that are known -/
theorem dgt {l : List Oper} {i : Nat} {is : List Nat} {K : List (Nat × Value) → Prop} {j s d : Nat} {want : Bool} {op : Op} {ty : TypeId} {pos : String} {af : Array Edge} {v : Value} (ho : l[i]? = some ⟨some d, op, ty, pos, af, some (j, want)⟩) (hs : (l[j]?).bind (·.dst) = some s) (hb : look L s = some (.bool want)) (he : EO P N X w0 ⟨some d, op, ty, pos, af, some (j, want)⟩ L H v) (hd : Nat.blt d N.n = true)
    (h : GEs P N X w0 l H is ((d, v) :: L) K) : GEs P N X w0 l H (i :: is) L K :=
  ⟨_, v, ho, hd, .inr (.inl ⟨j, want, s, want, v, rfl, by simpa using hs, hb, fun _ => he, by rw [if_pos rfl]⟩), h⟩
theorem dgs {l : List Oper} {i : Nat} {is : List Nat} {K : List (Nat × Value) → Prop} {j s d : Nat} {want b : Bool} {op : Op} {ty : TypeId} {pos : String} {af : Array Edge} (ho : l[i]? = some ⟨some d, op, ty, pos, af, some (j, want)⟩) (hs : (l[j]?).bind (·.dst) = some s) (hb : look L s = some (.bool b)) (hne : b ≠ want) (hd : Nat.blt d N.n = true)
    (h : GEs P N X w0 l H is ((d, undef) :: L) K) : GEs P N X w0 l H (i :: is) L K :=
  ⟨_, undef, ho, hd, .inr (.inl ⟨j, want, s, b, undef, rfl, by simpa using hs, hb, fun e => absurd e hne, by rw [if_neg hne]⟩), h⟩
theorem igt {l : List Oper} {i : Nat} {is : List Nat} {j s d : Nat} {want : Bool} {op : Op} {ty : TypeId} {pos : String} {af : Array Edge} {v : Value} (ho : l[i]? = some ⟨some d, op, ty, pos, af, some (j, want)⟩) (hs : (l[j]?).bind (·.dst) = some s) (hb : look L s = some (.bool want)) (he : EO P N X w0 ⟨some d, op, ty, pos, af, some (j, want)⟩ L H v) (hd : Nat.blt d N.n = true)
    (h : GI ro n P N X w0 l Q is ((d, v) :: L) H) : GI ro n P N X w0 l Q (i :: is) L H :=
  gi_e ho (.inr (.inl ⟨j, want, s, want, v, rfl, by simpa using hs, hb, fun _ => he, by rw [if_pos rfl]⟩)) hd h
theorem igs {l : List Oper} {i : Nat} {is : List Nat} {j s d : Nat} {want b : Bool} {op : Op} {ty : TypeId} {pos : String} {af : Array Edge} (ho : l[i]? = some ⟨some d, op, ty, pos, af, some (j, want)⟩) (hs : (l[j]?).bind (·.dst) = some s) (hb : look L s = some (.bool b)) (hne : b ≠ want) (hd : Nat.blt d N.n = true)
    (h : GI ro n P N X w0 l Q is ((d, undef) :: L) H) : GI ro n P N X w0 l Q (i :: is) L H :=
  gi_e ho (.inr (.inl ⟨j, want, s, b, undef, rfl, by simpa using hs, hb, fun e => absurd e hne, by rw [if_neg hne]⟩)) hd h
/-- the ground of an old block that is known -/
theorem ow_one {W : World} {g : Nat} {t : TypeId} {cs : List Value} (h : W.heap[g]? = some (.cells cs.toArray t (0, 0))) : Ow [g] W W [⟨g, t, cs⟩] :=
  ⟨rfl, rfl, rfl, Nat.le_refl _, fun _ _ _ => rfl, fun b hb => by rw [List.mem_singleton] at hb; subst hb; exact ⟨h, .inr (by simp)⟩, by simp⟩
theorem Ow.ext_of {W W' : World} {H H' : List Blk} (h : Ow X W W' H) (hx : ∀ g ∈ X, W'.heap[g]? = W.heap[g]?) (_ : H' = H) : Ext W W' :=
  ⟨h.os, h.tape, h.output, h.size, fun k hk => by
    by_cases e : k ∈ X
    · exact hx k e
    · exact h.old k hk e⟩

/-! ### an iterator calls yield -/
theorem gi_yield {i : Nat} {is : List Nat} {o : Oper} {l : List Oper} {c : Call} {s d lp : Nat} {args : List Value} {xs : List Operand} {j : Nat} {b : Bool}
    (ho : l[i]? = some o) (hop : o.op = .call c) (hc : c.callee = .value (.tmp s)) (hxs : c.args = xs.toArray) (hs : look L s = some (.func (.yield lp) #[] #[])) (hv : evs L xs = some args)
    (hd : o.dst = some d) (hdN : Nat.blt d N.n = true) (hgd : o.guard = none ∨ ∃ s', o.guard = some (j, b) ∧ (l[j]?).bind (·.dst) = some s' ∧ look L s' = some (.bool b))
    (hy : ∀ W, Ow X w0 W H → ∃ K, YieldAt Fence.wide 1 P lp args.toArray W K ∧
      ∀ e W', K e W' → ∃ r, e = .returned r ∧ ∀ a, Fit N a ((d, r) :: L) → wpOpsIn (Fw none) 0 P l.toArray Q is a W') : GI none 0 P N X w0 l Q (i :: is) L H := by
  intro _ a W hF hO
  obtain ⟨K, ⟨fn, tmps, assign, body, hrun, hround⟩, hK⟩ := hy W hO
  rw [wpOpsIn_cons]
  have ho' : l.toArray[i]? = some o := by simpa using ho
  unfold wpOpIn
  simp only [ho']
  have hw : Region.wanted o (yielded l.toArray a.tmps) = true := by
    rcases hgd with h | ⟨s', h, h1, h2⟩
    · simp [Region.wanted, h]
    · have := yielded_fit (ops := l.toArray) hF (by simpa using h1) h2
      simp [Region.wanted, h, this]
  rw [if_pos hw]
  refine ⟨fun _ _ => trivial, ?_⟩
  have hev : (a.eval (.tmp s)) = .func (.yield lp) #[] #[] := hF.eval hs
  have hargs : c.args.map a.eval = args.toArray := by rw [hxs]; simp [← hF.evals hv]
  have hex : (execOp a.eval o).run P W = .ok (.round lp fn tmps assign body) W := by
    unfold execOp
    rw [hop]
    have hev' : a.tmps[s]?.getD undef = .func (.yield lp) #[] #[] := by simpa [Act.eval] using hev
    simp [go_sem, resolve, hc, hev', hargs, invoke, hrun]
  show o.uponIn _ _ _ _ _ _ ((execOp a.eval o).run P W)
  rw [hex]
  refine ⟨fun h => by simp [Fw, Fence.wide] at h, ?_⟩
  have hround0 : RoundIn (Fw none) (0 - 1) P lp fn tmps assign body W K := ⟨trivial, fun c cs _ => hround.2 c cs (room_wide _)⟩
  refine RoundIn.mono hround0 fun e W' he => ?_
  obtain ⟨r, rfl, hr⟩ := hK e W' he
  refine hr _ ?_
  have := hF.put (d := o.dst) (by rw [hd]; exact hdN) r
  rw [hd] at this ⊢
  exact this
end
end Go.Eng
