/-
  From a walk to a row: a law that returns true and leaves all that was there as it was. Arguments: numbers, bools, bitmaps, images, boxes.
  No program is named here.
-/
import Derived.Test.YtnmiljloifbjeaaPu
import Derived.Carry
import Derived.ProofKit
import Derived.OpenShut
import Derived.Lib.SmallJoins
import Derived.Deep.Grids
namespace Go.Bs
open Go.RowKit Go.Eng Go.ChangeShapes Go.WideShapes Go.ChangeAt

section
variable {H : Type} {enc : TypeId × Value → H} {P : Program}
theorem trodAll_stays (hl : laidOutB P = true) {W W' : World} {sp : Nat → Bool} (he : Ext W W') : ∀ {ts : List TypeId} {vs : List Value} {ds : List (DataW H)} {ps : List MemPlace},
    (∀ t ∈ ts, P.readableRec t = true ∧ t < P.types.size) → DataW.TrodAll enc P W 0 (fun _ => true) true ts vs ds ps → (∀ x ∈ ps, x.block < W.heap.size) → (∀ p ∈ ps, sp p.block = true) →
    DataW.TrodAll enc P W' 0 sp true ts vs ds ps
  | [], vs, ds, ps, _, h, _, _ => by
    obtain ⟨rfl, rfl, rfl⟩ := trodAll_nil h
    exact trodAll_mk0
  | t :: ts, vs, ds, ps, hts, h, hlt, hsp => by
    obtain ⟨v0, vs0, d0, ds0, p0, q0, rfl, rfl, rfl, h0, r0⟩ := trodAll_cons h
    refine trodAll_cons_mk (WideElems.Trod_stays hl (hts t (by simp)).1 (hts t (by simp)).2 h0 (fun x hx => Below.same he (hlt x (by simp [hx]))) (fun x hx => hsp x (by simp [hx]))) ?_
    exact trodAll_stays hl he (fun t ht => hts t (by simp [ht])) r0 (fun x hx => hlt x (by simp [hx])) (fun x hx => hsp x (by simp [hx]))

theorem law_post {f : Func} {s : ChangeSpec} {W W' : World} {args : Array Value} {ds gs : List (DataW H)} {before : List MemPlace} {tb : TypeId}
    (hl : laidOutB P = true) (hts : ∀ t ∈ f.params.toList, P.readableRec t = true ∧ t < P.types.size) (hrt : f.resultTypes = #[tb]) (htb : P.underlying tb = some .bool) (hvars : s.vars = [])
    (hW : DataW.Whole enc P f.params.toList s.vars false W args.toList ds gs before)
    (hfn : s.fn H ds = { results := [.lit (.bool true)], args := ds }) (he : Ext W W') :
    s.post enc P f false true false false W args (.bool true) W' := by
  have hW' := hW
  obtain ⟨p, q, hA, hV, rfl, _, _⟩ := hW
  rw [hvars] at hV
  obtain ⟨rfl, rfl⟩ := trodVars_none hV
  have hlt : ∀ x ∈ p, x.block < W.heap.size := fun x hx => hW'.lt x (by simp [hx])
  refine ⟨ds, [], p ++ [], [], p, [], hW', ?_, ?_, ?_, World.keptBut_mono (fun x hx => ⟨hx, .inr (.inl (by simpa using hx))⟩) (Below.frame he _), fun h => by cases h⟩
  · rw [hrt, List.append_nil, hfn]
    exact trodAll_cons_mk (shut_bool htb _) trodAll_mk0
  · rw [List.append_nil, hfn]
    exact trodAll_stays hl he hts hA hlt (fun x hx => by simpa using hlt x hx)
  · rw [List.append_nil, hfn, hvars]
    exact (rfl : DataW.TrodVars enc P W' _ [] [] [])

theorem rd_of_add {w : World} {a : Addr} {n : Nat} {F : Nat → Value} (h : ∀ i, i < n → w.cell? (a.add i) = some (F i)) : Rd w (some a) (tab n F) := by
  obtain ⟨b, off, spot⟩ := a
  intro k hk
  have hk' : k < n := by simpa using hk
  have hspot : spot = none := by simpa [Addr.add] using World.cell?_spot (h 0 (by omega))
  subst hspot
  refine ⟨rfl, ?_⟩
  have := h k hk'
  have e : (⟨b, off, none⟩ : Addr).add k = ⟨b, off + k, none⟩ := by
    unfold Addr.add
    split
    · rename_i h0; subst h0; rfl
    · rfl
  rw [e] at this
  rw [show (tab n F)[k]? = some (F k) by simp [tab, hk']]
  exact this
/-- a slice of bools is opened -/
theorem open_bits {t e : TypeId} {w : World} {fuel : Nat} {v : Value} {x : DataW H × List MemPlace} (ht : P.underlying t = some (.slice e)) (he : P.underlying e = some .bool) (hc : P.cellsOf e = 1)
    (h : DataW.trod enc P w 0 (fun _ => true) true fuel t [v] = some x) : ∃ (A : Option Addr) (n c : Nat) (f : Nat → Bool), v = .slice A n c ∧ n ≤ c ∧ c ≤ maxLen ∧ Rd w A (tab n (bv f)) := by
  rcases Go.Deep.open_bools ht he hc h with ⟨e1, _⟩ | ⟨a, len, cap, B, e1, _, hl, hm, _, hcell⟩
  · cases e1
    exact ⟨none, 0, 0, fun _ => false, rfl, Nat.le_refl _, by decide, fun k hk => absurd hk (by simp)⟩
  · cases e1
    exact ⟨some a, len, cap, B, rfl, hl, hm, rd_of_add fun i hi => hcell i (by omega)⟩
/-- a slice of small numbers is opened -/
theorem open_nums {t e : TypeId} {k : IntKind} {w : World} {fuel : Nat} {v : Value} {x : DataW H × List MemPlace} (ht : P.underlying t = some (.slice e)) (he : P.underlying e = some (.int k)) (hc : P.cellsOf e = 1)
    (h : DataW.trod enc P w 0 (fun _ => true) true fuel t [v] = some x) : ∃ (A : Option Addr) (n c : Nat) (f : Nat → Int), v = .slice A n c ∧ n ≤ c ∧ c ≤ maxLen ∧ Rd w A (tab n (iv k f)) ∧ ∀ i, i < n → (Lit.int k (f i)).wf = true := by
  rcases Go.Deep.open_slice1 ht hc h with ⟨e1, _⟩ | ⟨a, len, cap, m, n, V, D, Pl, e1, hb, hl, hm, hmm, _, hx⟩
  · cases e1
    exact ⟨none, 0, 0, fun _ => 0, rfl, Nat.le_refl _, by decide, fun k hk => absurd hk (by simp), fun i hi => absurd hi (by omega)⟩
  · cases e1
    simp only [if_true] at hmm
    subst hmm
    have key : ∀ i, i < m → ∃ z, V i = .int k z ∧ (Lit.int k z).wf = true := fun i hi => by
      obtain ⟨z, e, _, hw⟩ := DataW.trod_int he (hx i hi).2
      exact ⟨z, by simpa using e, hw⟩
    refine ⟨some a, len, m, fun i => match V i with | .int _ z => z | _ => 0, rfl, hl, hm, rd_of_add fun i hi => ?_, fun i hi => ?_⟩
    · obtain ⟨z, e, _⟩ := key i (by omega)
      rw [(hx i (by omega)).1, e]
      simp [iv, e]
    · obtain ⟨z, e, hw⟩ := key i (by omega)
      simp only [e]
      exact hw
theorem open_i64 {t : TypeId} {w : World} {sp : Nat → Bool} {fuel : Nat} {v : Value} {k : IntKind} {x : DataW H × List MemPlace} (ht : P.underlying t = some (.int k)) (h : DataW.trod enc P w 0 sp true fuel t [v] = some x) : ∃ i, v = .int k i ∧ (Lit.int k i).wf = true := by
  obtain ⟨i, e, _, hw⟩ := DataW.trod_int ht h
  cases e
  exact ⟨i, rfl, hw⟩
end
theorem wf_bd {k : IntKind} {z : Int} (h : (Lit.int k z).wf = true) : k.min ≤ z ∧ z ≤ k.max := by simpa [Lit.wf] using h
theorem wf_u8 {z : Int} (h : (Lit.int .u8 z).wf = true) : 0 ≤ z ∧ z ≤ 255 := by
  have h1 := wf_bd h
  rw [show IntKind.u8.min = 0 by decide, show IntKind.u8.max = 255 by decide] at h1
  exact h1
theorem wf_u16 {z : Int} (h : (Lit.int .u16 z).wf = true) : 0 ≤ z ∧ z ≤ 65535 := by
  have h1 := wf_bd h
  rw [show IntKind.u16.min = 0 by decide, show IntKind.u16.max = 65535 by decide] at h1
  exact h1
theorem wf_u32 {z : Int} (h : (Lit.int .u32 z).wf = true) : 0 ≤ z ∧ z ≤ 4294967295 := by
  have h1 := wf_bd h
  rw [show IntKind.u32.min = 0 by decide, show IntKind.u32.max = 4294967295 by decide] at h1
  exact h1
theorem wf_i64 {z : Int} (h : (Lit.int .i64 z).wf = true) : -9223372036854775808 ≤ z ∧ z ≤ 9223372036854775807 := by
  have h1 := wf_bd h
  rw [show IntKind.i64.min = -9223372036854775808 by decide, show IntKind.i64.max = 9223372036854775807 by decide] at h1
  exact h1
theorem wf_i8 {z : Int} (h : (Lit.int .i8 z).wf = true) : -128 ≤ z ∧ z ≤ 127 := by
  have h1 := wf_bd h
  rw [show IntKind.i8.min = -128 by decide, show IntKind.i8.max = 127 by decide] at h1
  exact h1
theorem wf_i16 {z : Int} (h : (Lit.int .i16 z).wf = true) : -32768 ≤ z ∧ z ≤ 32767 := by
  have h1 := wf_bd h
  rw [show IntKind.i16.min = -32768 by decide, show IntKind.i16.max = 32767 by decide] at h1
  exact h1
end Go.Bs
