/-
  Regions that draw their order: reads of new blocks, and new blocks, by turns; bytes as a string. No program is named here.
-/
import Derived.Test.YtcdhbikginpogaaRgm
import Derived.Laws.BytesString
import Derived.Laws.Cells
namespace Go.Eng
open Go.RowKit
section up
variable {P : Program} {ro : Option Nat} {n : Nat} {ops : Array Oper} {Q : Exit → Act → World → Prop} {Z : Nat → Array Bool → Act → World → Prop}
theorem wpR_up {S S' : World → Prop} (h10 : ∀ w, S' w → S w) (hE : ∀ w w', S' w → Ext w w' → S' w') : ∀ (f : Nat) (listed : Array Bool) (a : Act) (w : World), S' w → wpR ro n P ops Q Z S' (fun _ => false) f listed a w → wpR ro n P ops Q Z S (fun _ => false) f listed a w
  | 0, _, _, _, h1, h => fun w1 e _ => h w1 e (hE _ _ h1 e)
  | f + 1, listed, a, w, h1, h => fun w1 e _ => by
    obtain ⟨ha, hb⟩ := h w1 e (hE _ _ h1 e)
    refine ⟨ha, fun j hj => wpOpIn_mono (fun a' w' h' => ?_) (hb j hj)⟩
    rw [if_neg (by simp)] at h' ⊢
    exact ⟨h10 _ h'.1, wpR_up h10 hE f _ a' w' h'.1 h'.2⟩
end up
section mixed
variable {P : Program} {Z : Nat → Array Bool → Act → World → Prop} {N : Sz} {X : List Nat} {w0 : World} {l : List Oper} {Q : Exit → Act → World → Prop} {L : List (Nat × Value)} {H : List Blk}
/-- true: a reading that may come at any time from now on; false: an operation whose turn is forced, and that takes no block away -/
def GUs (P : Program) (N : Sz) (X : List Nat) (w0 : World) (l : List Oper) : List (Nat × Bool) → List (Nat × Value) → List Blk → (List (Nat × Value) → List Blk → Prop) → Prop
  | [], L, H, K => K L H
  | (i, true) :: is, L, H, K => ∃ o v, l[i]? = some o ∧ dOK N o.dst = true ∧ EOg P N X w0 l.toArray o L H v ∧ GUs P N X w0 l is (ins o.dst v L) H K
  | (i, false) :: is, L, H, K => ∃ o R, l[i]? = some o ∧ (∀ a, Fit N a L → Region.wanted o (yielded l.toArray a.tmps) = true) ∧ dOK N o.dst = true ∧ XO P N X w0 o L H R ∧ ∀ v H', R v H' → H.Sublist H' ∧ GUs P N X w0 l is (ins o.dst v L) H' K
theorem r_mixU (hsel : Region.noSelect l.toArray = true) (hQ : ∀ c a w, ¬ Q (.panic c) a w) :
    ∀ (ms : List (Nat × Bool)) (listed : Array Bool) (L : List (Nat × Value)) (H : List Blk), Closed l.toArray listed → mixM l ms listed = true → GUs P N X w0 l ms L H (fun L' H' => GQ N X w0 Q .normal L' H') →
      ∀ a W, Fit N a L → Ow X w0 W H → wpR none 0 P l.toArray Q Z (fun W => Ow X w0 W H) (fun _ => false) ms.length listed a W
  | [], listed, L, H, _, hb, h, a, W, hF, hO => fun w1 e _ => ⟨by simpa [mixM] using hb, h a w1 hF (hO.ext e)⟩
  | (i, true) :: r, listed, L, H, hcl, hb, h, a, W, hF, hO => by
    simp only [mixM, Bool.and_eq_true] at hb
    obtain ⟨o, v, ho, hd, he, hrest⟩ := h
    have hir : i ∈ Region.ready .any l.toArray listed := by simpa using hb.1.1
    have ih := r_mixU hsel hQ r (listed.setIfInBounds i true) (ins o.dst v L) H (hcl.set hir) hb.2 hrest (a.put o.dst v) W (hF.put hd v) hO
    have ho' : l.toArray[i]? = some o := by simpa using ho
    exact wpR_first nd_none ho' (Region.noSelect_spec hsel) hQ (fun w w' h e => h.ext e) (fun _ _ _ _ _ => rfl) r.length listed a W hcl (Region.free_spec ho' hb.1.2) hir (he.cases hF) ih
  | (i, false) :: r, listed, L, H, hcl, hb, h, a, W, hF, hO => by
    simp only [mixM, Bool.and_eq_true, beq_iff_eq] at hb
    obtain ⟨o, R, ho, hw, hd, hx, hrest⟩ := h
    intro w1 he _
    refine ⟨fun h0 => (by rw [hb.1] at h0; cases h0), fun j hj => ?_⟩
    have hcl' := hcl.set hj
    rw [hb.1, List.mem_singleton] at hj
    subst hj
    have ho' : l.toArray[j]? = some o := by simpa using ho
    unfold wpOpIn
    simp only [ho']
    rw [if_pos (hw a hF)]
    refine wpIn_of_wp (nd_none _ _ ho') (hx a w1 hF (hO.ext he) _ Q fun v H' W' hR hO' _ => ?_)
    rw [if_neg (by simp)]
    obtain ⟨hs, hr⟩ := hrest v H' hR
    exact ⟨hO'.sub hs, wpR_up (fun w h => h.sub hs) (fun _ _ h e => h.ext e) _ _ _ _ hO' (r_mixU hsel hQ r _ _ H' hcl' hb.2 hr _ _ (hF.put hd v) hO')⟩
theorem gc_drawU {id : Nat} (ms : List (Nat × Bool)) (hm : P.follows .mixedOrders = true) (hB : (Region.noSelect l.toArray && (ms.length == l.length) && mixM l ms (Array.replicate l.length false)) = true)
    (h : GUs P N X w0 l ms L H fun L' H' => GQ N X w0 (NQ Q) .normal L' H') : GC P N X w0 Q (.region id l.toArray true) L H := by
  simp only [Bool.and_eq_true, beq_iff_eq] at hB
  obtain ⟨⟨hsel, hlen⟩, hb⟩ := hB
  refine fun a W hF hO => wpIn_wide.1 (Code.wpIn_mono (F := Fw none) (n := 0) NQ.out (wpIn_region_any hm ?_))
  rw [show l.toArray.size = l.length by simp]
  refine wpAny_of_wpR (ro := none) (n := 0) (Z := wpAnyIn (Fw none) 0 P .any l.toArray (NQ Q)) (S := fun W => Ow X w0 W H) (xs := fun _ => false) (fun _ _ _ _ h => h) _ _ _ _ hO.drew ?_
  rw [← hlen]
  rw [← hlen] at hb
  exact r_mixU hsel (fun _ _ _ h => h) ms _ L H (closed_none _) hb h a _ hF hO.drew
variable {d : Nat} {op : Op} {ty : TypeId} {pos : String} {af : Array Edge} {v : Value} {R : Value → List Blk → Prop} {i : Nat} {ms : List (Nat × Bool)} {K : List (Nat × Value) → List Blk → Prop}
theorem gu_nil (h : K L H) : GUs P N X w0 l [] L H K := h
theorem ue (ho : l[i]? = some ⟨some d, op, ty, pos, af, none⟩) (he : EO P N X w0 ⟨some d, op, ty, pos, af, none⟩ L H v) (hd : Nat.blt d N.n = true) (h : GUs P N X w0 l ms ((d, v) :: L) H K) : GUs P N X w0 l ((i, true) :: ms) L H K :=
  ⟨_, v, ho, hd, .inl ⟨rfl, he⟩, h⟩
theorem ug {j s : Nat} {want : Bool} (ho : l[i]? = some ⟨some d, op, ty, pos, af, some (j, want)⟩) (hs : (l[j]?).bind (·.dst) = some s) (hb : look L s = some (.bool want)) (he : EO P N X w0 ⟨some d, op, ty, pos, af, some (j, want)⟩ L H v) (hd : Nat.blt d N.n = true) (h : GUs P N X w0 l ms ((d, v) :: L) H K) : GUs P N X w0 l ((i, true) :: ms) L H K :=
  ⟨_, v, ho, hd, .inr (.inl ⟨j, want, s, want, v, rfl, by simpa using hs, hb, fun _ => he, (if_pos rfl).symm⟩), h⟩
theorem ua (ho : l[i]? = some ⟨some d, op, ty, pos, af, none⟩) (hx : XO P N X w0 ⟨some d, op, ty, pos, af, none⟩ L H R) (hd : Nat.blt d N.n = true)
    (h : ∀ v H', R v H' → H.Sublist H' ∧ GUs P N X w0 l ms ((d, v) :: L) H' K) : GUs P N X w0 l ((i, false) :: ms) L H K := ⟨_, R, ho, fun _ _ => by simp [Region.wanted], hd, hx, h⟩
theorem uag {j s : Nat} {want : Bool} (ho : l[i]? = some ⟨some d, op, ty, pos, af, some (j, want)⟩) (hs : (l[j]?).bind (·.dst) = some s) (hb : look L s = some (.bool want)) (hx : XO P N X w0 ⟨some d, op, ty, pos, af, some (j, want)⟩ L H R) (hd : Nat.blt d N.n = true)
    (h : ∀ v H', R v H' → H.Sublist H' ∧ GUs P N X w0 l ms ((d, v) :: L) H' K) : GUs P N X w0 l ((i, false) :: ms) L H K :=
  ⟨_, R, ho, fun a hF => by have hs' : (l.toArray[j]?).bind (·.dst) = some s := by simpa using hs
                            simp [Region.wanted, yielded_fit hF hs' hb], hd, hx, h⟩
end mixed
end Go.Eng
namespace Go.Bs
open Go.RowKit Go.Eng
section
variable {P : Program} {N : Sz} {X : List Nat} {w0 : World} {o : Oper} {L : List (Nat × Value)} {H : List Blk}
/-- bytes as a string -/
def bstr (n : Nat) (F : Nat → Int) : ByteArray := ((List.range n).map F).foldl (fun r m => r.push (UInt8.ofNat m.toNat)) ByteArray.empty
theorem eo_bstr {s d e : TypeId} {x : Operand} {A : Option Addr} {n c : Nat} {F : Nat → Int} (ho : o.op = .convert s d x) (hx : ev L x = some (.slice A n c)) (hs : P.underlying s = some (.slice e)) (he : P.underlying e = some (.int .u8)) (hd : P.underlying d = some .string)
    (hr : ∀ W, Ow X w0 W H → Rd W A (tab n (iv .u8 F))) (hn : 0 < n) : EO P N X w0 o L H (.string (bstr n F)) :=
  eo_val fun a W hF hO => by
    have h := hr W hO
    have hA := (h 0 (by simpa using hn)).1
    have hc : (loadCells ⟨bl A, of A, none⟩ n).run P W = .ok (((List.range n).map F).map (Value.int .u8)).toArray W := by
      have e1 : ((List.range n).map F).map (Value.int .u8) = tab n (iv .u8 F) := by
        rw [List.map_map]; rfl
      rw [e1]
      have := run_loadCells_list (P := P) (w := W) ⟨bl A, of A, none⟩ (tab n (iv .u8 F)) (fun j v hv => by rw [Addr.add_lit]; exact h.cell hv)
      rwa [tab_len] at this
    rw [hA] at hx
    simp only [execOp, ho, hF.eval hx, Sem.run_bind, run_convert_bytes_string W s d e _ _ _ hs he hd, run_bytesToString W _ n _ _ hc, Result.andThen_ok, Sem.run_pure]
    rfl
end
end Go.Bs
