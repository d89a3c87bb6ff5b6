/-
  Ranges over strings: the iterator is a block of the world that holds no cells; where it is turned, the ground is laid anew.
  No program is named here.
-/
import Derived.Test.YtnmiljloifbjeaaRgm
import Derived.Laws.RangeAny
import Derived.Laws.Strings
namespace Go.Bs
open Go.RowKit Go.Eng

theorem Rd.pre {w : World} {A : Option Addr} {n k : Nat} {F : Nat → Value} (h : Rd w A (tab n F)) (hk : k ≤ n) : Rd w A (tab k F) := by
  intro i hi
  have hi' : i < k := by simpa using hi
  obtain ⟨h1, h2⟩ := h i (by simp; omega)
  exact ⟨h1, by rw [tab_get hi']; rw [tab_get (show i < n by omega)] at h2; exact h2⟩
/-! ### dirt twice -/
/-- the rune at a place of a string, and its width -/
def rnI (s : ByteArray) (p : Nat) : Int := ((Utf8.decode s p).1 : Int)
def rnW (s : ByteArray) (p : Nat) : Nat := (Utf8.decode s p).2
theorem byI_at {s : ByteArray} {p : Nat} (h : p < s.size) : byI s p = ((s[p]'h).toNat : Int) := by
  unfold byI
  rw [show s.get! p = s[p]'h from get_at s p h]
theorem rn_low {s : ByteArray} {p : Nat} (h : p < s.size) (hb : byI s p < 128) : rnI s p = byI s p ∧ rnW s p = 1 := by
  rw [byI_at h] at hb ⊢
  unfold rnI rnW
  rw [decode_ascii s p h (by omega)]
  exact ⟨rfl, rfl⟩
theorem rn_high {s : ByteArray} {p : Nat} (h : p < s.size) (hb : ¬ byI s p < 128) : 128 ≤ rnI s p := by
  rw [byI_at h] at hb
  have := (decode_high s p h (by omega)).1
  unfold rnI
  omega
theorem rn_bd {s : ByteArray} {p : Nat} : 0 ≤ rnI s p ∧ rnI s p ≤ 2147483647 := by
  have := decode_le s p
  unfold rnI
  omega
section
variable {P : Program} {N : Sz} {X : List Nat} {w0 : World} {ops : Array Oper} {Q : Exit → Act → World → Prop} {L : List (Nat × Value)} {H : List Blk} {rest : List Oper} {ty : TypeId} {pos : String} {af : Array Edge}
theorem Ow.more {X' : List Nat} {W : World} (h : Ow X w0 W H) (hX : ∀ x ∈ X, x ∈ X') : Ow X' w0 W H :=
  ⟨h.os, h.tape, h.output, h.size, fun k hk hx => h.old k hk (fun e => hx (hX k e)), fun b hb => ⟨(h.own b hb).1, (h.own b hb).2.imp id (hX _)⟩, h.dist⟩
theorem Ow.more1 {it : Nat} {W : World} (h : Ow X w0 W H) : Ow (it :: X) w0 W H := Ow.more h fun x hx => List.mem_cons_of_mem _ hx
/-- a range over a string begins -/
theorem go_rangeS {d : Nat} {s : ByteArray} {t : TypeId} {x : Operand} (hx : ev L x = some (.string s)) (ht : P.underlying t = some .string) (hd : Nat.blt d N.n = true)
    (h : ∀ (it : Nat) (W1 : World), W1.heap[it]? = some (.stringIter s 0) → it ∉ H.map Blk.g → (∀ (W' : World) (H' : List Blk), Ow (it :: H.map Blk.g) W1 W' H' → Ow X w0 W' H') →
      GO P N (H.map Blk.g) W1 ops Q rest ((d, .pointer (some ⟨it, 0, none⟩)) :: L) H) : GO P N X w0 ops Q (⟨some d, .range t x, ty, pos, af, none⟩ :: rest) L H := by
  intro a W hF hO
  refine wpList_plain rfl fun K hK => ?_
  unfold Oper.wp
  have hr : (execOp a.eval ⟨some d, .range t x, ty, pos, af, none⟩).run P W = .ok (.value (.pointer (some ⟨W.heap.size, 0, none⟩))) (W.alloc (.stringIter s 0)) := by
    have := run_range_string (P := P) W t s ht
    simp only [execOp, hF.eval hx, Sem.run_bind, this, Result.andThen_ok, Sem.run_pure]
    rfl
  rw [hr]
  have e : Ext W (W.alloc (.stringIter s 0)) := (Below.refl _ _).alloc (Nat.le_refl _) _
  have hO1 := hO.ext e
  have hni : W.heap.size ∉ H.map Blk.g := fun hm => by
    obtain ⟨b, hb, hg⟩ := List.mem_map.1 hm
    have := lt_of_block (hO.own b hb).1
    rw [hg] at this
    exact absurd this (Nat.lt_irrefl _)
  refine hK _ _ (h W.heap.size (W.alloc (.stringIter s 0)) (heap_alloc_new _ _) hni (fun W' H' k => hO1.back k fun y hy => ?_) _ _ (hF.put (d := some d) (by simpa [dOK] using hd) _) hO1.rebase)
  rcases List.mem_cons.1 hy with rfl | hy
  · exact .inl hO.size
  · exact hO1.ids y hy
theorem run_next_at {W : World} {it p : Nat} {s : ByteArray} {ty : TypeId} (hi : W.heap[it]? = some (.stringIter s p)) (hp : p < s.size) :
    (Instr.next (.pointer (some ⟨it, 0, none⟩)) true ty).run P W = .ok (.tuple #[.bool true, .int .i64 p, .int .i32 (rnI s p)]) (W.putObj it (.stringIter s (p + rnW s p))) := by
  simp only [Instr.next, getObj, setObj, Sem.run_bind, Sem.run, hi, Result.andThen, hp, if_true]
  rfl
theorem run_next_no {W : World} {it p : Nat} {s : ByteArray} {ty : TypeId} (hi : W.heap[it]? = some (.stringIter s p)) (hp : ¬ p < s.size) :
    (Instr.next (.pointer (some ⟨it, 0, none⟩)) true ty).run P W = .ok (.tuple #[.bool false]) W := by
  simp [Instr.next, getObj, Sem.run, hi, hp]
/-- the next rune -/
theorem go_nextS {d it p : Nat} {s : ByteArray} {x : Operand} (hit : w0.heap[it]? = some (.stringIter s p)) (hiX : it ∉ X) (hx : ev L x = some (.pointer (some ⟨it, 0, none⟩))) (hp : p < s.size) (hd : Nat.blt d N.n = true)
    (h : ∀ (W3 : World), W3.heap[it]? = some (.stringIter s (p + rnW s p)) → (∀ (W' : World) (H' : List Blk), Ow (it :: H.map Blk.g) W3 W' H' → Ow (it :: X) w0 W' H') → it ∉ H.map Blk.g →
      GO P N (H.map Blk.g) W3 ops Q rest ((d, .tuple #[.bool true, .int .i64 p, .int .i32 (rnI s p)]) :: L) H) : GO P N X w0 ops Q (⟨some d, .next x true, ty, pos, af, none⟩ :: rest) L H := by
  intro a W hF hO
  have hiW : W.heap[it]? = some (.stringIter s p) := (hO.old it (lt_of_block hit) hiX).trans hit
  refine wpList_plain rfl fun K hK => ?_
  unfold Oper.wp
  have hr : (execOp a.eval ⟨some d, .next x true, ty, pos, af, none⟩).run P W = .ok (.value (.tuple #[.bool true, .int .i64 p, .int .i32 (rnI s p)])) (W.putObj it (.stringIter s (p + rnW s p))) := by
    have := run_next_at (P := P) (ty := ty) hiW hp
    simp only [execOp, hF.eval hx, Sem.run_bind, this, Result.andThen_ok, Sem.run_pure]
  rw [hr]
  have hO1 := hO.put (o' := .stringIter s (p + rnW s p)) hiW rfl
  have hni : it ∉ H.map Blk.g := fun hm => by
    obtain ⟨b, hb, hg⟩ := List.mem_map.1 hm
    have := (hO.own b hb).1
    rw [hg, hiW] at this
    cases this
  refine hK _ _ (h (W.putObj it (.stringIter s (p + rnW s p))) ?_ (fun W' H' k => hO1.back k fun y hy => ?_) hni _ _ (hF.put (d := some d) (by simpa [dOK] using hd) _) hO1.rebase)
  · simp [World.putObj, lt_of_block hiW]
  · rcases List.mem_cons.1 hy with rfl | hy
    · exact .inr (by simp)
    · exact hO1.ids y hy
theorem go_nextE {d it p : Nat} {s : ByteArray} {x : Operand} (hit : w0.heap[it]? = some (.stringIter s p)) (hiX : it ∉ X) (hx : ev L x = some (.pointer (some ⟨it, 0, none⟩))) (hp : ¬ p < s.size) (hd : Nat.blt d N.n = true)
    (h : GO P N X w0 ops Q rest ((d, .tuple #[.bool false]) :: L) H) : GO P N X w0 ops Q (⟨some d, .next x true, ty, pos, af, none⟩ :: rest) L H := by
  intro a W hF hO
  have hiW : W.heap[it]? = some (.stringIter s p) := (hO.old it (lt_of_block hit) hiX).trans hit
  refine wpList_plain rfl fun K hK => ?_
  unfold Oper.wp
  have hr : (execOp a.eval ⟨some d, .next x true, ty, pos, af, none⟩).run P W = .ok (.value (.tuple #[.bool false])) W := by
    have := run_next_no (P := P) (ty := ty) hiW hp
    simp only [execOp, hF.eval hx, Sem.run_bind, this, Result.andThen_ok, Sem.run_pure]
  rw [hr]
  exact hK _ _ (h _ _ (hF.put (d := some d) (by simpa [dOK] using hd) _) hO)
/-- what holds at the head of a loop over a string -/
def RoundS {α : Type} (N : Sz) (X : List Nat) (w0 : World) (it : Nat) (s : ByteArray) (I : α → Prop) (ps : α → Nat) (Lx : α → List (Nat × Value)) (Hx : α → List Blk) (n : Nat) (a : Act) (W : World) : Prop :=
  ∃ m, m < n ∧ ∃ x, I x ∧ s.size + 1 - ps x = m ∧ Fit N a (Lx x) ∧ Ow (it :: X) w0 W (Hx x) ∧ W.heap[it]? = some (.stringIter s (ps x))
theorem loopS {α : Type} {it : Nat} {s : ByteArray} {c : Code} (I : α → Prop) (ps : α → Nat) (Lx : α → List (Nat × Value)) (Hx : α → List Blk) (x : α) (hit : w0.heap[it]? = some (.stringIter s (ps x))) (hiX : it ∉ X) (h0 : I x) (hL : Has L (Lx x)) (hH : (Hx x).Sublist H)
    (round : ∀ x, I x → ∀ (W2 : World), W2.heap[it]? = some (.stringIter s (ps x)) → it ∉ (Hx x).map Blk.g → (∀ (W' : World) (H' : List Blk), Ow (it :: (Hx x).map Blk.g) W2 W' H' → Ow (it :: X) w0 W' H') →
      GC P N ((Hx x).map Blk.g) W2 (Exit.then (RoundS N X w0 it s I ps Lx Hx (s.size + 1 - ps x)) Q) c (Lx x) (Hx x)) : GC P N X w0 Q (.loop c) L H := by
  intro _ _ hF hO
  refine wp_loop_ghost (fun n a W => ∃ x, I x ∧ s.size + 1 - ps x = n ∧ Fit N a (Lx x) ∧ Ow (it :: X) w0 W (Hx x) ∧ W.heap[it]? = some (.stringIter s (ps x))) (s.size + 1 - ps x)
    ⟨x, h0, rfl, hF.weak hL, (Ow.more1 hO).sub hH, (hO.old it (lt_of_block hit) hiX).trans hit⟩ ?_
  rintro n a W ⟨x, hI, rfl, hF, hO, hiW⟩
  refine round x hI W hiW (fun hm => ?_) (fun W' H' k => hO.back k fun y hy => ?_) a W hF hO.rebase
  · obtain ⟨b, hb, hg⟩ := List.mem_map.1 hm
    have := (hO.own b hb).1
    rw [hg, hiW] at this
    cases this
  · rcases List.mem_cons.1 hy with rfl | hy
    · exact .inr (by simp)
    · exact hO.ids y hy
theorem roundS {α : Type} {it n p : Nat} {s : ByteArray} {I : α → Prop} {ps : α → Nat} {Lx : α → List (Nat × Value)} {Hx : α → List Blk} {X3 : List Nat} {W3 : World} (hit : W3.heap[it]? = some (.stringIter s p)) (hi3 : it ∉ X3)
    (hB : ∀ (W' : World) (H' : List Blk), Ow (it :: X3) W3 W' H' → Ow (it :: X) w0 W' H') (x : α) (hp : ps x = p) (hI : I x) (hμ : s.size + 1 - ps x < n) (hL : Has L (Lx x)) (hH : (Hx x).Sublist H) :
    GQ N X3 W3 (Exit.then (RoundS N X w0 it s I ps Lx Hx n) Q) .normal L H := fun a W hF hO =>
  ⟨_, hμ, x, hI, rfl, hF.weak hL, (hB W H (Ow.more1 hO)).sub hH, by rw [hp]; exact (hO.old it (lt_of_block hit) hi3).trans hit⟩
theorem loopS1 {α : Type} {it : Nat} {s : ByteArray} {c : Code} (I : α → Prop) (ps : α → Nat) (Lx : α → List (Nat × Value)) (Hx : α → List Blk) (x : α) (hit : w0.heap[it]? = some (.stringIter s (ps x))) (hiX : it ∉ X) (h0 : I x) (hL : Has L (Lx x)) (hH : (Hx x).Sublist H)
    (round : ∀ x, I x → ∀ (W2 : World), W2.heap[it]? = some (.stringIter s (ps x)) → it ∉ (Hx x).map Blk.g → (∀ (W' : World) (H' : List Blk), Ow (it :: (Hx x).map Blk.g) W2 W' H' → Ow (it :: X) w0 W' H') →
      GC P N ((Hx x).map Blk.g) W2 (Exit.then (RoundS N X w0 it s I ps Lx Hx (s.size + 1 - ps x)) Q) c (Lx x) (Hx x)) : GC P N X w0 Q (.loop c) L H := loopS I ps Lx Hx x hit hiX h0 hL hH round
theorem roundS1 {α : Type} {it n p : Nat} {s : ByteArray} {I : α → Prop} {ps : α → Nat} {Lx : α → List (Nat × Value)} {Hx : α → List Blk} {X3 : List Nat} {W3 : World} (hit : W3.heap[it]? = some (.stringIter s p)) (hi3 : it ∉ X3)
    (hB : ∀ (W' : World) (H' : List Blk), Ow (it :: X3) W3 W' H' → Ow (it :: X) w0 W' H') (x : α) (hp : ps x = p) (hI : I x) (hμ : s.size + 1 - ps x < n) (hL : Has L (Lx x)) (hH : (Hx x).Sublist H) :
    GQ N X3 W3 (Exit.then (RoundS N X w0 it s I ps Lx Hx n) Q) .normal L H := roundS hit hi3 hB x hp hI hμ hL hH
def RoundS2 {α β : Type} (N : Sz) (X : List Nat) (w0 : World) (it : Nat) (s : ByteArray) (I : α → β → Prop) (ps : α → β → Nat) (Lx : α → β → List (Nat × Value)) (Hx : α → β → List Blk) (n : Nat) : Act → World → Prop :=
  RoundS N X w0 it s (fun z : α × β => I z.1 z.2) (fun z => ps z.1 z.2) (fun z => Lx z.1 z.2) (fun z => Hx z.1 z.2) n
def RoundS3 {α β γ : Type} (N : Sz) (X : List Nat) (w0 : World) (it : Nat) (s : ByteArray) (I : α → β → γ → Prop) (ps : α → β → γ → Nat) (Lx : α → β → γ → List (Nat × Value)) (Hx : α → β → γ → List Blk) (n : Nat) : Act → World → Prop :=
  RoundS N X w0 it s (fun z : α × β × γ => I z.1 z.2.1 z.2.2) (fun z => ps z.1 z.2.1 z.2.2) (fun z => Lx z.1 z.2.1 z.2.2) (fun z => Hx z.1 z.2.1 z.2.2) n
theorem loopS2 {α β : Type} {it : Nat} {s : ByteArray} {c : Code} (I : α → β → Prop) (ps : α → β → Nat) (Lx : α → β → List (Nat × Value)) (Hx : α → β → List Blk) (x : α) (y : β) (hit : w0.heap[it]? = some (.stringIter s (ps x y))) (hiX : it ∉ X) (h0 : I x y) (hL : Has L (Lx x y)) (hH : (Hx x y).Sublist H)
    (round : ∀ x y, I x y → ∀ (W2 : World), W2.heap[it]? = some (.stringIter s (ps x y)) → it ∉ (Hx x y).map Blk.g → (∀ (W' : World) (H' : List Blk), Ow (it :: (Hx x y).map Blk.g) W2 W' H' → Ow (it :: X) w0 W' H') →
      GC P N ((Hx x y).map Blk.g) W2 (Exit.then (RoundS2 N X w0 it s I ps Lx Hx (s.size + 1 - ps x y)) Q) c (Lx x y) (Hx x y)) : GC P N X w0 Q (.loop c) L H :=
  loopS (fun z : α × β => I z.1 z.2) (fun z => ps z.1 z.2) (fun z => Lx z.1 z.2) (fun z => Hx z.1 z.2) (x, y) hit hiX h0 hL hH fun z => round z.1 z.2
theorem roundS2 {α β : Type} {it n p : Nat} {s : ByteArray} {I : α → β → Prop} {ps : α → β → Nat} {Lx : α → β → List (Nat × Value)} {Hx : α → β → List Blk} {X3 : List Nat} {W3 : World} (hit : W3.heap[it]? = some (.stringIter s p)) (hi3 : it ∉ X3)
    (hB : ∀ (W' : World) (H' : List Blk), Ow (it :: X3) W3 W' H' → Ow (it :: X) w0 W' H') (x : α) (y : β) (hp : ps x y = p) (hI : I x y) (hμ : s.size + 1 - ps x y < n) (hL : Has L (Lx x y)) (hH : (Hx x y).Sublist H) :
    GQ N X3 W3 (Exit.then (RoundS2 N X w0 it s I ps Lx Hx n) Q) .normal L H := roundS (I := fun z : α × β => I z.1 z.2) (ps := fun z => ps z.1 z.2) (Lx := fun z => Lx z.1 z.2) (Hx := fun z => Hx z.1 z.2) hit hi3 hB (x, y) hp hI hμ hL hH
theorem loopS3 {α β γ : Type} {it : Nat} {s : ByteArray} {c : Code} (I : α → β → γ → Prop) (ps : α → β → γ → Nat) (Lx : α → β → γ → List (Nat × Value)) (Hx : α → β → γ → List Blk) (x : α) (y : β) (u : γ) (hit : w0.heap[it]? = some (.stringIter s (ps x y u))) (hiX : it ∉ X) (h0 : I x y u) (hL : Has L (Lx x y u)) (hH : (Hx x y u).Sublist H)
    (round : ∀ x y u, I x y u → ∀ (W2 : World), W2.heap[it]? = some (.stringIter s (ps x y u)) → it ∉ (Hx x y u).map Blk.g → (∀ (W' : World) (H' : List Blk), Ow (it :: (Hx x y u).map Blk.g) W2 W' H' → Ow (it :: X) w0 W' H') →
      GC P N ((Hx x y u).map Blk.g) W2 (Exit.then (RoundS3 N X w0 it s I ps Lx Hx (s.size + 1 - ps x y u)) Q) c (Lx x y u) (Hx x y u)) : GC P N X w0 Q (.loop c) L H :=
  loopS (fun z : α × β × γ => I z.1 z.2.1 z.2.2) (fun z => ps z.1 z.2.1 z.2.2) (fun z => Lx z.1 z.2.1 z.2.2) (fun z => Hx z.1 z.2.1 z.2.2) (x, y, u) hit hiX h0 hL hH fun z => round z.1 z.2.1 z.2.2
theorem roundS3 {α β γ : Type} {it n p : Nat} {s : ByteArray} {I : α → β → γ → Prop} {ps : α → β → γ → Nat} {Lx : α → β → γ → List (Nat × Value)} {Hx : α → β → γ → List Blk} {X3 : List Nat} {W3 : World} (hit : W3.heap[it]? = some (.stringIter s p)) (hi3 : it ∉ X3)
    (hB : ∀ (W' : World) (H' : List Blk), Ow (it :: X3) W3 W' H' → Ow (it :: X) w0 W' H') (x : α) (y : β) (u : γ) (hp : ps x y u = p) (hI : I x y u) (hμ : s.size + 1 - ps x y u < n) (hL : Has L (Lx x y u)) (hH : (Hx x y u).Sublist H) :
    GQ N X3 W3 (Exit.then (RoundS3 N X w0 it s I ps Lx Hx n) Q) .normal L H := roundS (I := fun z : α × β × γ => I z.1 z.2.1 z.2.2) (ps := fun z => ps z.1 z.2.1 z.2.2) (Lx := fun z => Lx z.1 z.2.1 z.2.2) (Hx := fun z => Hx z.1 z.2.1 z.2.2) hit hi3 hB (x, y, u) hp hI hμ hL hH
theorem eo_indexArr {t e : TypeId} {len sz : Nat} {k : IntKind} {x y : Operand} {g off : Nat} {i : Int} {o : Oper} (ho : o.op = .indexAddr t x y) (ht : P.underlying t = some (.array len e)) (hz : (P.info? e).map (·.size) = some sz) (hx : ev L x = some (.pointer (some ⟨g, off, none⟩))) (hy : ev L y = some (.int k i)) (h0 : 0 ≤ i) (h1 : i < len) :
    EO P N X w0 o L H (.pointer (some ⟨g, off + i.toNat * sz, none⟩)) :=
  eo_val fun a W hF _ => by
    have hz' := Go.Eng.run_sizeOf (P := P) hz W
    simp [execOp, ho, hF.eval hx, hF.eval hy, Instr.indexAt, run_underlying ht, asIntOf, h0, h1, hz', Addr.add_lit, Instr.sureAddr]
theorem eo_seql {t t2 : TypeId} {x y : Operand} {a b : ByteArray} {o : Oper} (ho : o.op = .binOp .eql t x y t2) (hx : ev L x = some (.string a)) (hy : ev L y = some (.string b)) : EO P N X w0 o L H (.bool (a.toList == b.toList)) :=
  eo_val fun c W hF _ => by
    simp only [execOp, ho, hF.eval hx, hF.eval hy, eqGuard_at_string, binOp_string_eql, Sem.run_bind, Sem.run_pure, Result.andThen_ok]
theorem eo_sneq {t t2 : TypeId} {x y : Operand} {a b : ByteArray} {o : Oper} (ho : o.op = .binOp .neq t x y t2) (hx : ev L x = some (.string a)) (hy : ev L y = some (.string b)) : EO P N X w0 o L H (.bool (!(a.toList == b.toList))) :=
  eo_val fun c W hF _ => by
    simp only [execOp, ho, hF.eval hx, hF.eval hy, eqGuard_at_string, binOp_string_neq, Sem.run_bind, Sem.run_pure, Result.andThen_ok]
end
end Go.Bs
