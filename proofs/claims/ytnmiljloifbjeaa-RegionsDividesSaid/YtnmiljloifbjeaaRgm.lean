/-
  Regions that draw their order: reads and new blocks by turns.
-/
import Derived.Test.YtnmiljloifbjeaaPl
namespace Go.Eng
open Go.RowKit
section mixed
variable {P : Program} {Z : Nat → Array Bool → Act → World → Prop} {N : Sz} {X : List Nat} {w0 : World} {l : List Oper} {Q : Exit → Act → World → Prop} {L : List (Nat × Value)} {H : List Blk}

/-- true: a reading of the blocks H0 that may come at any time; false: an operation whose turn is forced -/
def GMs (P : Program) (N : Sz) (X : List Nat) (w0 : World) (l : List Oper) (H0 : List Blk) : List (Nat × Bool) → List (Nat × Value) → List Blk → (List (Nat × Value) → List Blk → Prop) → Prop
  | [], L, H, K => K L H
  | (i, true) :: is, L, H, K => ∃ o v, l[i]? = some o ∧ dOK N o.dst = true ∧ EOg P N X w0 l.toArray o L H0 v ∧ GMs P N X w0 l H0 is (ins o.dst v L) H K
  | (i, false) :: is, L, H, K => ∃ o R, l[i]? = some o ∧ (∀ a, Fit N a L → Region.wanted o (yielded l.toArray a.tmps) = true) ∧ dOK N o.dst = true ∧ XO P N X w0 o L H R ∧ ∀ v H', R v H' → H0.Sublist H' ∧ GMs P N X w0 l H0 is (ins o.dst v L) H' K
def mixM (l : List Oper) : List (Nat × Bool) → Array Bool → Bool
  | [], listed => (Region.ready .any l.toArray listed).isEmpty
  | (i, true) :: r, listed => (Region.ready .any l.toArray listed).contains i && Region.free .any l.toArray listed i && mixM l r (listed.setIfInBounds i true)
  | (i, false) :: r, listed => (Region.ready .any l.toArray listed == [i]) && mixM l r (listed.setIfInBounds i true)
theorem r_mix {H0 : List Blk} (hsel : Region.noSelect l.toArray = true) (hQ : ∀ c a w, ¬ Q (.panic c) a w) :
    ∀ (ms : List (Nat × Bool)) (listed : Array Bool) (L : List (Nat × Value)) (H : List Blk), Closed l.toArray listed → mixM l ms listed = true → GMs P N X w0 l H0 ms L H (fun L' H' => GQ N X w0 Q .normal L' H') →
      ∀ a W, Fit N a L → Ow X w0 W H → wpR none 0 P l.toArray Q Z (fun W => Ow X w0 W H0) (fun _ => false) ms.length listed a W
  | [], listed, L, H, _, hb, h, a, W, hF, hO => fun w1 e _ => ⟨by simpa [mixM] using hb, h a w1 hF (hO.ext e)⟩
  | (i, true) :: r, listed, L, H, hcl, hb, h, a, W, hF, hO => by
    simp only [mixM, Bool.and_eq_true] at hb
    obtain ⟨o, v, ho, hd, he, hrest⟩ := h
    have hir : i ∈ Region.ready .any l.toArray listed := by simpa using hb.1.1
    have ih := r_mix hsel hQ r (listed.setIfInBounds i true) (ins o.dst v L) H (hcl.set hir) hb.2 hrest (a.put o.dst v) W (hF.put hd v) hO
    have ho' : l.toArray[i]? = some o := by simpa using ho
    exact wpR_first nd_none ho' (Region.noSelect_spec hsel) hQ (fun w w' h e => h.ext e) (fun _ _ _ _ _ => rfl) r.length listed a W hcl (Region.free_spec ho' hb.1.2) hir (he.cases hF) ih
  | (i, false) :: r, listed, L, H, hcl, hb, h, a, W, hF, hO => by
    simp only [mixM, Bool.and_eq_true, beq_iff_eq] at hb
    obtain ⟨o, R, ho, hw, hd, hx, hrest⟩ := h
    intro w1 he _
    refine ⟨fun h0 => (by rw [hb.1] at h0; cases h0), fun j hj => ?_⟩
    have hcl' := hcl.set hj
    rw [hb.1, List.mem_singleton] at hj
    subst hj
    have ho' : l.toArray[j]? = some o := by simpa using ho
    unfold wpOpIn
    simp only [ho']
    rw [if_pos (hw a hF)]
    refine wpIn_of_wp (nd_none _ _ ho') (hx a w1 hF (hO.ext he) _ Q fun v H' W' hR hO' _ => ?_)
    rw [if_neg (by simp)]
    obtain ⟨hs, hr⟩ := hrest v H' hR
    exact ⟨hO'.sub hs, r_mix hsel hQ r _ _ H' hcl' hb.2 hr _ _ (hF.put hd v) hO'⟩
theorem gc_drawM {id : Nat} (ms : List (Nat × Bool)) (hm : P.follows .mixedOrders = true) (hB : (Region.noSelect l.toArray && (ms.length == l.length) && mixM l ms (Array.replicate l.length false)) = true)
    (h : GMs P N X w0 l H ms L H fun L' H' => GQ N X w0 (NQ Q) .normal L' H') : GC P N X w0 Q (.region id l.toArray true) L H := by
  simp only [Bool.and_eq_true, beq_iff_eq] at hB
  obtain ⟨⟨hsel, hlen⟩, hb⟩ := hB
  refine fun a W hF hO => wpIn_wide.1 (Code.wpIn_mono (F := Fw none) (n := 0) NQ.out (wpIn_region_any hm ?_))
  rw [show l.toArray.size = l.length by simp]
  refine wpAny_of_wpR (ro := none) (n := 0) (Z := wpAnyIn (Fw none) 0 P .any l.toArray (NQ Q)) (S := fun W => Ow X w0 W H) (xs := fun _ => false) (fun _ _ _ _ h => h) _ _ _ _ hO.drew ?_
  rw [← hlen]
  rw [← hlen] at hb
  exact r_mix hsel (fun _ _ _ h => h) ms _ L H (closed_none _) hb h a _ hF hO.drew
variable {d : Nat} {op : Op} {ty : TypeId} {pos : String} {af : Array Edge} {v : Value} {R : Value → List Blk → Prop} {H0 : List Blk} {i : Nat} {ms : List (Nat × Bool)} {K : List (Nat × Value) → List Blk → Prop}
theorem gm_nil (h : K L H) : GMs P N X w0 l H0 [] L H K := h
theorem me (ho : l[i]? = some ⟨some d, op, ty, pos, af, none⟩) (he : EO P N X w0 ⟨some d, op, ty, pos, af, none⟩ L H0 v) (hd : Nat.blt d N.n = true) (h : GMs P N X w0 l H0 ms ((d, v) :: L) H K) : GMs P N X w0 l H0 ((i, true) :: ms) L H K :=
  ⟨_, v, ho, hd, .inl ⟨rfl, he⟩, h⟩
/-- .. under a guard that is known to hold -/
theorem mg {j s : Nat} {want : Bool} (ho : l[i]? = some ⟨some d, op, ty, pos, af, some (j, want)⟩) (hs : (l[j]?).bind (·.dst) = some s) (hb : look L s = some (.bool want)) (he : EO P N X w0 ⟨some d, op, ty, pos, af, some (j, want)⟩ L H0 v) (hd : Nat.blt d N.n = true) (h : GMs P N X w0 l H0 ms ((d, v) :: L) H K) : GMs P N X w0 l H0 ((i, true) :: ms) L H K :=
  ⟨_, v, ho, hd, .inr (.inl ⟨j, want, s, want, v, rfl, by simpa using hs, hb, fun _ => he, (if_pos rfl).symm⟩), h⟩
theorem ma (ho : l[i]? = some ⟨some d, op, ty, pos, af, none⟩) (hx : XO P N X w0 ⟨some d, op, ty, pos, af, none⟩ L H R) (hd : Nat.blt d N.n = true)
    (h : ∀ v H', R v H' → H0.Sublist H' ∧ GMs P N X w0 l H0 ms ((d, v) :: L) H' K) : GMs P N X w0 l H0 ((i, false) :: ms) L H K := ⟨_, R, ho, fun _ _ => by simp [Region.wanted], hd, hx, h⟩
theorem mag {j s : Nat} {want : Bool} (ho : l[i]? = some ⟨some d, op, ty, pos, af, some (j, want)⟩) (hs : (l[j]?).bind (·.dst) = some s) (hb : look L s = some (.bool want)) (hx : XO P N X w0 ⟨some d, op, ty, pos, af, some (j, want)⟩ L H R) (hd : Nat.blt d N.n = true)
    (h : ∀ v H', R v H' → H0.Sublist H' ∧ GMs P N X w0 l H0 ms ((d, v) :: L) H' K) : GMs P N X w0 l H0 ((i, false) :: ms) L H K :=
  ⟨_, R, ho, fun a hF => by have hs' : (l.toArray[j]?).bind (·.dst) = some s := by simpa using hs
                            simp [Region.wanted, yielded_fit hF hs' hb], hd, hx, h⟩
theorem calls_bool {f : FuncId} {args : Array Value} {w : World} {b b' : Bool} (h : b = b') (hc : Calls P f args w (fun e w' => e = .returned (.bool b) ∧ Ext w w')) : Calls P f args w (fun e w' => e = .returned (.bool b') ∧ Ext w w') := h ▸ hc
theorem calls_int {f : FuncId} {args : Array Value} {w : World} {k : IntKind} {b b' : Int} (h : b = b') (hc : Calls P f args w (fun e w' => e = .returned (.int k b) ∧ Ext w w')) : Calls P f args w (fun e w' => e = .returned (.int k b') ∧ Ext w w') := h ▸ hc
end mixed
section strings
variable {P : Program} {N : Sz} {X : List Nat} {w0 : World} {o : Oper} {L : List (Nat × Value)} {H : List Blk}
/-- a byte of a string -/
def byI (s : ByteArray) (i : Nat) : Int := ((s.get! i).toNat : Int)
theorem byI_bd {s : ByteArray} {i : Nat} : 0 ≤ byI s i ∧ byI s i ≤ 255 := by
  unfold byI
  have := (s.get! i).toNat_lt
  omega
theorem eo_strAt {t : TypeId} {k : IntKind} {x y : Operand} {s : ByteArray} {i : Int} (ho : o.op = .index t x y) (ht : P.underlying t = some .string) (hx : ev L x = some (.string s)) (hy : ev L y = some (.int k i)) (h0 : 0 ≤ i) (h1 : i < s.size) : EO P N X w0 o L H (.int .u8 (byI s i.toNat)) :=
  eo_val fun a W hF _ => by
    have hl : i.toNat < s.size := by omega
    have e : s.get! i.toNat = s[i.toNat] := by
      show s.data[i.toNat]! = s.data[i.toNat]
      exact getElem!_pos s.data i.toNat hl
    simp [execOp, ho, hF.eval hx, hF.eval hy, Instr.index, run_underlying ht, asIntOf, h0, h1, byI, e]
end strings
end Go.Eng
