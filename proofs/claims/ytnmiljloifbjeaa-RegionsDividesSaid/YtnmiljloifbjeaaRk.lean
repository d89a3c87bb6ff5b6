/-
  Regions in mixed orders in which blocks are read that the region does not change. No program is named here.
-/
import Derived.Test.YtnmiljloifbjeaaRgm
namespace Go.Eng
open Go.RowKit
section mixed
variable {P : Program} {N : Sz} {X : List Nat} {w0 : World} {l : List Oper} {Q : Exit → Act → World → Prop} {L : List (Nat × Value)} {H H0 : List Blk}
/-- readings of the blocks H0, which the region does not change -/
theorem gc_drawK {id : Nat} (ms : List (Nat × Bool)) (hs : H0.Sublist H) (hm : P.follows .mixedOrders = true) (hB : (Region.noSelect l.toArray && (ms.length == l.length) && mixM l ms (Array.replicate l.length false)) = true)
    (h : GMs P N X w0 l H0 ms L H fun L' H' => GQ N X w0 (NQ Q) .normal L' H') : GC P N X w0 Q (.region id l.toArray true) L H := by
  simp only [Bool.and_eq_true, beq_iff_eq] at hB
  obtain ⟨⟨hsel, hlen⟩, hb⟩ := hB
  refine fun a W hF hO => wpIn_wide.1 (Code.wpIn_mono (F := Fw none) (n := 0) NQ.out (wpIn_region_any hm ?_))
  rw [show l.toArray.size = l.length by simp]
  refine wpAny_of_wpR (ro := none) (n := 0) (Z := wpAnyIn (Fw none) 0 P .any l.toArray (NQ Q)) (S := fun W => Ow X w0 W H0) (xs := fun _ => false) (fun _ _ _ _ h => h) _ _ _ _ (hO.drew.sub hs) ?_
  rw [← hlen]
  rw [← hlen] at hb
  exact r_mix hsel (fun _ _ _ h => h) ms _ L H (closed_none _) hb h a _ hF hO.drew
theorem mu {op : Op} {ty : TypeId} {pos : String} {af : Array Edge} {R : Value → List Blk → Prop} {i : Nat} {ms : List (Nat × Bool)} {K : List (Nat × Value) → List Blk → Prop} (ho : l[i]? = some ⟨none, op, ty, pos, af, none⟩) (hx : XO P N X w0 ⟨none, op, ty, pos, af, none⟩ L H R)
    (h : ∀ v H', R v H' → H0.Sublist H' ∧ GMs P N X w0 l H0 ms L H' K) : GMs P N X w0 l H0 ((i, false) :: ms) L H K := ⟨_, R, ho, fun _ _ => by simp [Region.wanted], rfl, hx, h⟩
/-! reads, new blocks, then plain steps in any order, then the rest by turns -/
def mixPB (l : List Oper) (es as ps ts : List Nat) : Bool :=
  Region.noSelect l.toArray && phaseB l es (Array.replicate l.length false) && forcedB l as (listAll (Array.replicate l.length false) es) &&
  phaseB l ps (listAll (listAll (Array.replicate l.length false) es) as) && forcedB l ts (listAll (listAll (listAll (Array.replicate l.length false) es) as) ps) &&
  (Region.ready .any l.toArray (listAll (listAll (listAll (listAll (Array.replicate l.length false) es) as) ps) ts)).isEmpty &&
  (es.length + (as.length + (ps.length + ts.length)) == l.length) && (Region.ready .any l.toArray (listAll (listAll (Array.replicate l.length false) es) as)).all (ps ++ ts).contains &&
  (ps ++ ts).all (fun j => chainB l [j] && sinkB l (es ++ as) (some j)) && as.all (fun i => !((ps ++ ts).contains i)) && Nat.blt 0 (ps.length + ts.length)
theorem r_open {ro : Option Nat} {n : Nat} {us : List Nat} {f : Nat} {listed : Array Bool} (hf : 0 < f) (hall : (Region.ready .any l.toArray listed).all us.contains = true)
    (h : ∀ a W, Fit N a L → Ow X w0 W H → wpAnyIn (Fw ro) n P .any l.toArray Q f listed a W) :
    ∀ a W, Fit N a L → Ow X w0 W H → wpR ro n P l.toArray Q (wpAnyIn (Fw ro) n P .any l.toArray Q) (fun W => Ow X w0 W H0) us.contains f listed a W := fun a W hF hO => by
  obtain ⟨f, rfl⟩ : ∃ k, f = k + 1 := ⟨f - 1, by omega⟩
  intro w1 e _
  obtain ⟨h1, h2⟩ := h a w1 hF (hO.ext e)
  refine ⟨h1, fun j hj => wpOpIn_mono (fun a' w' h' => ?_) (h2 j hj)⟩
  rw [if_pos (List.all_eq_true.1 hall j hj)]
  exact h'
theorem gc_drawP {id : Nat} (es as ps ts : List Nat) (hm : P.follows .mixedOrders = true) (hB : mixPB l es as ps ts = true)
    (h : GEs P N X w0 l H es L fun L2 => GAs P N X w0 l H as L2 H fun L3 H3 => GPs P N l ps L3 fun L4 => GI none 0 P N X w0 l (NQ Q) ts L4 H3) :
    GC P N X w0 Q (.region id l.toArray true) L H := by
  simp only [mixPB, Bool.and_eq_true, beq_iff_eq, List.isEmpty_iff] at hB
  obtain ⟨⟨⟨⟨⟨⟨⟨⟨⟨⟨hsel, hes⟩, has⟩, hps⟩, hts⟩, hend⟩, hlen⟩, hall⟩, hch⟩, hXa⟩, hpos⟩ := hB
  have hpos : 0 < ps.length + ts.length := Nat.lt_of_lt_of_eq (Nat.le_of_ble_eq_true hpos) rfl
  have hQ : ∀ c a w, ¬ NQ Q (.panic c) a w := fun _ _ _ h => h
  have c0 := closed_none (ops := l.toArray) l.length
  have hXd : ∀ i ∈ es ++ as, ∀ listed, Closed l.toArray listed → listed.getD i true = false → ∀ j ∈ Region.ready .any l.toArray listed, (ps ++ ts).contains j = false := fun i hi listed hcl hun j hj => by
    cases hb : (ps ++ ts).contains j with
    | false => rfl
    | true =>
      have hc := List.all_eq_true.1 hch j (by simpa using hb)
      simp only [Bool.and_eq_true] at hc
      have := no_write_before hc.1 (ts := [j]) hc.2 hi listed hcl hun j hj
      simp at this
  refine fun a W hF hO => wpIn_wide.1 (Code.wpIn_mono (F := Fw none) (n := 0) NQ.out (wpIn_region_any hm ?_))
  have hsz : l.toArray.size = es.length + (as.length + (ps.length + ts.length)) := by simp; omega
  rw [hsz]
  have hrep : Array.replicate (es.length + (as.length + (ps.length + ts.length))) false = Array.replicate l.length false := by congr 1
  rw [hrep]
  refine wpAny_of_wpR (Z := wpAnyIn (Fw none) 0 P .any l.toArray (NQ Q)) (S := fun W => Ow X w0 W H) (xs := (ps ++ ts).contains) (fun _ _ _ _ h => h) _ _ _ _ hO.drew ?_
  refine r_reads (T := fun W => Ow X w0 W H) nd_none hsel hQ es _ L c0 hes (fun i hi => hXd i (List.mem_append_left _ hi)) h ?_ a _ hF hO.drew
  intro L2 h2 a W hF hO
  refine r_news nd_none as _ L2 H has (fun i hi => by simpa using List.all_eq_true.1 hXa i hi) h2 ?_ a W hF hO
  intro L3 H3 h3 a W hF hO
  refine r_open hpos hall (fun a W hF hO => ?_) a W hF hO
  refine any_pure nd_none hsel hQ ps _ L3 hps h3 ?_ a W hF hO
  intro L4 h4 a W hF hO
  exact any_of_ops ts _ a W hts hend (h4 nd_none a W hF hO)
theorem po_extract {o : Oper} {x : Operand} {k : Nat} {vs : List Value} {v : Value} (ho : o.op = .extract x k) (hx : ev L x = some (.tuple vs.toArray)) (hk : vs[k]? = some v) : ∀ a W, Fit N a L → (execOp a.eval o).run P W = .ok (.value v) W :=
  fun a W hF => by simp [execOp, ho, hF.eval hx, Instr.extract, hk]
end mixed
end Go.Eng
