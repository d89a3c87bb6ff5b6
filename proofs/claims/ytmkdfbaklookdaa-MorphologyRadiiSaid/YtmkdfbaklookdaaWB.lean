/-
  The walks of the functions of package morphology and of the document's answer (part B): what each call returns, at every argument.
-/
import Derived.Test.YtmkdfbaklookdaaWA
namespace Go.Proofs.Ytmkdfbaklookdaa
open Go.RowKit Go.Eng

open Go.Bs
theorem e4 : TyE Try.prog 4 (.bool false) 1 := ⟨rfl, by kernel_rfl⟩
theorem en42 : Ent Try.prog 42 := ent_of Try.func42 (by kernel_rfl) rfl
theorem en39 : Ent Try.prog 39 := ent_of Try.func39 (by kernel_rfl) rfl
theorem z24 : TyZ Try.prog 24 [.int .i64 0, .int .i64 0, .slice none 0 0] := .inl (by kernel_rfl)
theorem b24_012 (x0 : Int) (x1 : Int) (x2A : Option Addr) (x2n x2c : Nat) (W : World) : (Instr.build 24 #[(0, .int .i64 x0), (1, .int .i64 x1), (2, .slice x2A x2n x2c)]).run Try.prog W = .ok (.agg #[.int .i64 x0, .int .i64 x1, .slice x2A x2n x2c]) W := by kernel_rfl

/-- barscan/morphology.spread -/
theorem spread_c (A : Option Addr) (n c : Nat) (f : Nat → Bool) (r : Int) (w : World) (hr : Rd w A (tab n (bv f))) (hr0 : 0 ≤ r) (hr1 : r ≤ 4096) (hn : n ≤ 67108864) :
    Calls Try.prog 39 #[.slice A n c, .int .i64 r] w (fun e w' => ∃ v Hn, e = .returned v ∧ RS 4 ((n : Int) + 2 * r).toNat (bv (spG n r f)) v Hn ∧ Ow [] w w' Hn) := by
  refine calls_enter (N := ⟨45, []⟩) [] ([]) Try.func39 rfl rfl rfl (Ow.start _) ?_
  refine gc_seq ?_
  refine gc_region ?_
  refine ne (eo_as rfl rfl) rfl ?_
  refine go_nil ?_
  refine gq_next ?_
  refine gc_seq ?_
  refine gc_region ?_
  refine ne (eo_mv rfl rfl) rfl ?_
  refine ne (eo_len rfl Try.underlying22 rfl) rfl ?_
  refine ne (eo_mv rfl rfl) rfl ?_
  refine ne (eo_mul rfl rfl rfl (by omega) (by omega)) rfl ?_
  refine ne (eo_add rfl rfl rfl (by omega) (by omega)) rfl ?_
  refine nx (xo_makeb rfl Try.underlying22 e4 rfl rfl (by omega) (by omega) (by omega)) rfl ?_
  rintro _ _ ⟨g13, rfl, rfl⟩
  refine ne (eo_as rfl rfl) rfl ?_
  refine go_nil ?_
  refine gq_next ?_
  refine gc_seq ?_
  refine gc_region ?_
  refine ne (eo_as rfl rfl) rfl ?_
  refine go_nil ?_
  refine gq_next ?_
  refine gc_seq ?_
  refine gc_seq ?_
  refine gc_region ?_
  refine ne (eo_mv rfl rfl) rfl ?_
  refine ne (eo_len rfl Try.underlying22 rfl) rfl ?_
  refine ne (eo_mv rfl rfl) rfl ?_
  refine go_nil ?_
  refine gq_next ?_
  refine gc_block ?_
  refine loop3 (fun (i : Nat) (last : Int) (f1 : Nat → Bool) => (i : Int) ≤ n + 2 * r ∧ last = lastD n f i ∧ ∀ j, j < ((n : Int) + 2 * r).toNat → f1 j = if j < i then spG n r f j else false) (fun (i : Nat) (last : Int) (f1 : Nat → Bool) => (n + 2 * r - i).toNat) (fun (i : Nat) (last : Int) (f1 : Nat → Bool) => [(0, .slice A n c), (1, .int .i64 r), (5, .slice (some ⟨g13, 0, none⟩) (((((n : Nat) : Int) + (2 * r))).toNat) (((((n : Nat) : Int) + (2 * r))).toNat)), (6, .int .i64 last), (15, .int .i64 ((((((n : Nat) : Int) + (2 * r))).toNat : Nat) : Int)), (16, .int .i64 (i : Int))]) (fun (i : Nat) (last : Int) (f1 : Nat → Bool) => [⟨g13, 4, tab (((((n : Nat) : Int) + (2 * r))).toNat) (bv f1) ++ []⟩]) 0 (-1) (fun _ => false) ⟨by omega, rfl, fun j _ => by simp⟩ ⟨rfl, rfl, rfl, rfl, rfl, rfl, trivial⟩ (List.Sublist.refl _) ?_
  rintro i last f1 ⟨hi, hl, hI⟩
  have hlb := lastD_bd n f i
  refine gc_seq ?_
  refine gc_region ?_
  refine ne (eo_lss rfl rfl rfl) rfl ?_
  refine go_nil ?_
  refine gq_next ?_
  refine gc_seq ?_
  refine gc_cond rfl (fun hc0 => ?_) (fun hc0 => ?_)
  ·
    replace hc0 := of_decide_eq_true hc0
    refine gc_skip ?_
    refine gq_next ?_
    refine gc_seq ?_
    refine gc_block ?_
    refine gc_seq ?_
    refine gc_region ?_
    refine ne (eo_mv rfl rfl) rfl ?_
    refine ne (eo_as rfl rfl) rfl ?_
    refine go_nil ?_
    refine gq_next ?_
    refine gc_seq ?_
    refine gc_seq ?_
    refine gc_region ?_
    refine ne (eo_mv rfl rfl) rfl ?_
    refine ne (eo_mv rfl rfl) rfl ?_
    refine ne (eo_len rfl Try.underlying22 rfl) rfl ?_
    refine ne (eo_lss rfl rfl rfl) rfl ?_
    refine ne (eo_mv rfl rfl) rfl ?_
    refine ng rfl rfl (fun h => eo_mv rfl rfl) rfl ?_
    refine ng rfl rfl (fun h => eo_mv rfl rfl) rfl ?_
    refine ng rfl rfl (fun h => eo_indexR rfl sl22 (ev_if h rfl) (ev_if h rfl) hr (by simp) (by have hg0 := of_decide_eq_true h; omega) (by have hg0 := of_decide_eq_true h; omega)) rfl ?_
    refine ng rfl rfl (fun h => eo_load_old rfl s4 (ev_if h rfl) (Rd.tabb hr (by have hg0 := of_decide_eq_true h; omega)) (by simp)) rfl ?_
    refine ne (eo_and rfl rfl (fun hb => ev_if hb rfl)) rfl ?_
    refine go_nil ?_
    refine gq_next ?_
    refine gc_cond rfl (fun hc1 => ?_) (fun hc1 => ?_)
    ·
      have hd1 := (and_t hc1).imp (fun h => of_decide_eq_true h) (fun h => h)
      refine gc_region ?_
      refine ne (eo_mv rfl rfl) rfl ?_
      refine ne (eo_as rfl rfl) rfl ?_
      refine go_nil ?_
      refine gq_next ?_
      refine gc_region ?_
      refine ne (eo_mv rfl rfl) rfl ?_
      refine ne (eo_mv rfl rfl) rfl ?_
      refine ne (eo_mv rfl rfl) rfl ?_
      refine ne (eo_geq rfl rfl rfl) rfl ?_
      refine ne (eo_mv rfl rfl) rfl ?_
      refine ng rfl rfl (fun h => eo_mv rfl rfl) rfl ?_
      refine ng rfl rfl (fun h => eo_mv rfl rfl) rfl ?_
      refine ng rfl rfl (fun h => eo_mv rfl rfl) rfl ?_
      refine ng rfl rfl (fun h => eo_mul rfl rfl (ev_if h rfl) (by have hg0 := of_decide_eq_true h; omega) (by have hg0 := of_decide_eq_true h; omega)) rfl ?_
      refine ng rfl rfl (fun h => eo_sub rfl (ev_if h rfl) (ev_if h rfl) (by have hg0 := of_decide_eq_true h; omega) (by have hg0 := of_decide_eq_true h; omega)) rfl ?_
      refine ng rfl rfl (fun h => eo_geq rfl (ev_if h rfl) (ev_if h rfl)) rfl ?_
      refine ne (eo_and rfl rfl (fun hb => ev_if hb rfl)) rfl ?_
      refine ne (eo_index0 rfl sl22 rfl rfl (by omega) (by omega)) rfl ?_
      refine nu (xo_setb 0 rfl s4 rfl rfl rfl (by omega)) ?_
      rintro _ _ ⟨rfl, rfl⟩
      refine go_nil ?_
      refine gq_block_end ?_
      refine gq_next ?_
      refine gc_region ?_
      refine ne (eo_add rfl rfl rfl (by omega) (by omega)) rfl ?_
      refine ne (eo_mv rfl rfl) rfl ?_
      refine go_nil ?_
      exact round3 (i + 1) (i : Int) (upd f1 (i) (decide (0 ≤ (i : Int)) && decide (((i : Int) - (2 * r)) ≤ (i : Int)))) (by
        have hy := lastD_yes (n := n) (f := f) (i := i) (by omega) hd1.2
        exact ⟨by omega, hy.symm, fill_step hI (by unfold spG; rw [hy])⟩) (by omega) ⟨rfl, rfl, rfl, rfl, rfl, rfl, trivial⟩ (List.Sublist.refl _)
    ·
      have hd1 := (and_f hc1).imp (fun h => of_decide_eq_false h) (fun h => h)
      refine gc_skip ?_
      refine gq_next ?_
      refine gc_region ?_
      refine ne (eo_mv rfl rfl) rfl ?_
      refine ne (eo_mv rfl rfl) rfl ?_
      refine ne (eo_mv rfl rfl) rfl ?_
      refine ne (eo_geq rfl rfl rfl) rfl ?_
      refine ne (eo_mv rfl rfl) rfl ?_
      refine ng rfl rfl (fun h => eo_mv rfl rfl) rfl ?_
      refine ng rfl rfl (fun h => eo_mv rfl rfl) rfl ?_
      refine ng rfl rfl (fun h => eo_mv rfl rfl) rfl ?_
      refine ng rfl rfl (fun h => eo_mul rfl rfl (ev_if h rfl) (by have hg0 := of_decide_eq_true h; omega) (by have hg0 := of_decide_eq_true h; omega)) rfl ?_
      refine ng rfl rfl (fun h => eo_sub rfl (ev_if h rfl) (ev_if h rfl) (by have hg0 := of_decide_eq_true h; omega) (by have hg0 := of_decide_eq_true h; omega)) rfl ?_
      refine ng rfl rfl (fun h => eo_geq rfl (ev_if h rfl) (ev_if h rfl)) rfl ?_
      refine ne (eo_and rfl rfl (fun hb => ev_if hb rfl)) rfl ?_
      refine ne (eo_index0 rfl sl22 rfl rfl (by omega) (by omega)) rfl ?_
      refine nu (xo_setb 0 rfl s4 rfl rfl rfl (by omega)) ?_
      rintro _ _ ⟨rfl, rfl⟩
      refine go_nil ?_
      refine gq_block_end ?_
      refine gq_next ?_
      refine gc_region ?_
      refine ne (eo_add rfl rfl rfl (by omega) (by omega)) rfl ?_
      refine ne (eo_mv rfl rfl) rfl ?_
      refine go_nil ?_
      exact round3 (i + 1) last (upd f1 (i) (decide (0 ≤ last) && decide (((i : Int) - (2 * r)) ≤ last))) (by
        have hno := lastD_no (n := n) (f := f) (i := i) (hd1.imp (fun h => by omega) id)
        exact ⟨by omega, by rw [hno]; exact hl, fill_step hI (by unfold spG; rw [hno, ← hl])⟩) (by omega) ⟨rfl, rfl, rfl, rfl, rfl, rfl, trivial⟩ (List.Sublist.refl _)
  ·
    replace hc0 := of_decide_eq_false hc0
    refine gc_exit ?_
    refine gq_then_exit ?_
    refine gq_then_exit ?_
    refine gq_block_hit ?_
    refine gq_next ?_
    refine gc_seq ?_
    refine gc_region ?_
    refine ne (eo_mv rfl rfl) rfl ?_
    refine ne (eo_as rfl rfl) rfl ?_
    refine go_nil ?_
    refine gq_next ?_
    refine gc_ret ?_
    refine gq_results (res1 rfl rfl) ?_
    rw [show tab (((((n : Nat) : Int) + (2 * r))).toNat) (bv f1) = _ from tabb_ext (fun j hj => by rw [hI j hj, if_pos (by omega)])]
    exact fun W1 hO => ⟨_, _, rfl, ⟨_, _, _, rfl, rfl, by omega⟩, hO.pick 0 rfl⟩

/-- barscan/morphology.shrink -/
theorem shrink_c (A : Option Addr) (n c : Nat) (f : Nat → Bool) (r : Int) (w : World) (hr : Rd w A (tab n (bv f))) (hr0 : 0 ≤ r) (hr1 : r ≤ 4096) (hn : n ≤ 67108864) :
    Calls Try.prog 42 #[.slice A n c, .int .i64 r] w (fun e w' => ∃ v Hn, e = .returned v ∧ RS 4 (max 0 ((n : Int) - 2 * r)).toNat (bv (shG r f)) v Hn ∧ Ow [] w w' Hn) := by
  refine calls_enter (N := ⟨41, []⟩) [] ([]) Try.func42 rfl rfl rfl (Ow.start _) ?_
  refine gc_seq ?_
  refine gc_region ?_
  refine ne (eo_as rfl rfl) rfl ?_
  refine go_nil ?_
  refine gq_next ?_
  refine gc_seq ?_
  refine gc_region ?_
  refine ne (eo_mv rfl rfl) rfl ?_
  refine ne (eo_len rfl Try.underlying22 rfl) rfl ?_
  refine ne (eo_mv rfl rfl) rfl ?_
  refine ne (eo_mul rfl rfl rfl (by omega) (by omega)) rfl ?_
  refine ne (eo_sub rfl rfl rfl (by omega) (by omega)) rfl ?_
  refine ne (eo_max rfl rfl rfl) rfl ?_
  refine nx (xo_makeb rfl Try.underlying22 e4 rfl rfl (by omega) (by omega) (by omega)) rfl ?_
  rintro _ _ ⟨g16, rfl, rfl⟩
  refine ne (eo_as rfl rfl) rfl ?_
  refine go_nil ?_
  refine gq_next ?_
  refine gc_seq ?_
  refine gc_region ?_
  refine ne (eo_as rfl rfl) rfl ?_
  refine go_nil ?_
  refine gq_next ?_
  refine gc_seq ?_
  refine gc_seq ?_
  refine gc_region ?_
  refine ne (eo_mv rfl rfl) rfl ?_
  refine ne (eo_len rfl Try.underlying22 rfl) rfl ?_
  refine ne (eo_mv rfl rfl) rfl ?_
  refine go_nil ?_
  refine gq_next ?_
  refine gc_block ?_
  refine loop3 (fun (i : Nat) (last : Int) (f1 : Nat → Bool) => i ≤ n ∧ last = lastL f i ∧ ∀ j : Nat, j < (max 0 ((n : Int) - 2 * r)).toNat → f1 j = if (j : Int) < i - 2 * r then shG r f j else false) (fun (i : Nat) (last : Int) (f1 : Nat → Bool) => n - i) (fun (i : Nat) (last : Int) (f1 : Nat → Bool) => [(1, .int .i64 r), (5, .slice (some ⟨g16, 0, none⟩) (((max 0 (((n : Nat) : Int) - (2 * r)))).toNat) (((max 0 (((n : Nat) : Int) - (2 * r)))).toNat)), (6, .int .i64 last), (17, .slice A n c), (18, .int .i64 ((n : Nat) : Int)), (19, .int .i64 (i : Int))]) (fun (i : Nat) (last : Int) (f1 : Nat → Bool) => [⟨g16, 4, tab (((max 0 (((n : Nat) : Int) - (2 * r)))).toNat) (bv f1) ++ []⟩]) 0 (-1) (fun _ => false) ⟨by omega, rfl, fun j _ => by rw [if_neg (by omega)]⟩ ⟨rfl, rfl, rfl, rfl, rfl, rfl, trivial⟩ (List.Sublist.refl _) ?_
  rintro i last f1 ⟨hi, hl, hI⟩
  have hlb := lastL_bd f i
  refine gc_seq ?_
  refine gc_region ?_
  refine ne (eo_lss rfl rfl rfl) rfl ?_
  refine go_nil ?_
  refine gq_next ?_
  refine gc_seq ?_
  refine gc_cond rfl (fun hc0 => ?_) (fun hc0 => ?_)
  ·
    replace hc0 := of_decide_eq_true hc0
    refine gc_skip ?_
    refine gq_next ?_
    refine gc_seq ?_
    refine gc_block ?_
    refine gc_seq ?_
    refine gc_region ?_
    refine ne (eo_mv rfl rfl) rfl ?_
    refine ne (eo_indexR rfl sl22 rfl rfl hr (by simp) (by omega) (by omega)) rfl ?_
    refine ne (eo_load_old rfl s4 rfl (Rd.tabb hr (by omega)) (by simp)) rfl ?_
    refine ne (eo_as rfl rfl) rfl ?_
    refine ne (eo_as rfl rfl) rfl ?_
    refine go_nil ?_
    refine gq_next ?_
    refine gc_seq ?_
    refine gc_seq ?_
    refine gc_region ?_
    refine ne (eo_mv rfl rfl) rfl ?_
    refine ne (eo_not rfl rfl) rfl ?_
    refine go_nil ?_
    refine gq_next ?_
    refine gc_cond rfl (fun hc1 => ?_) (fun hc1 => ?_)
    ·
      have hd1 := (not_t hc1)
      refine gc_region ?_
      refine ne (eo_mv rfl rfl) rfl ?_
      refine ne (eo_as rfl rfl) rfl ?_
      refine go_nil ?_
      refine gq_next ?_
      refine gc_seq ?_
      refine gc_region ?_
      refine ne (eo_mv rfl rfl) rfl ?_
      refine ne (eo_mv rfl rfl) rfl ?_
      refine ne (eo_mul rfl rfl rfl (by omega) (by omega)) rfl ?_
      refine ne (eo_sub rfl rfl rfl (by omega) (by omega)) rfl ?_
      refine ne (eo_as rfl rfl) rfl ?_
      refine go_nil ?_
      refine gq_next ?_
      refine gc_seq ?_
      refine gc_region ?_
      refine ne (eo_mv rfl rfl) rfl ?_
      refine ne (eo_geq rfl rfl rfl) rfl ?_
      refine go_nil ?_
      refine gq_next ?_
      refine gc_cond rfl (fun hc2 => ?_) (fun hc2 => ?_)
      ·
        replace hc2 := of_decide_eq_true hc2
        refine gc_region ?_
        refine ne (eo_mv rfl rfl) rfl ?_
        refine ne (eo_mv rfl rfl) rfl ?_
        refine ne (eo_mv rfl rfl) rfl ?_
        refine ne (eo_mv rfl rfl) rfl ?_
        refine ne (eo_lss rfl rfl rfl) rfl ?_
        refine ne (eo_index0 rfl sl22 rfl rfl (by omega) (by omega)) rfl ?_
        refine nu (xo_setb 0 rfl s4 rfl rfl rfl (by omega)) ?_
        rintro _ _ ⟨rfl, rfl⟩
        refine go_nil ?_
        refine gq_block_end ?_
        refine gq_next ?_
        refine gc_region ?_
        refine ne (eo_add rfl rfl rfl (by omega) (by omega)) rfl ?_
        refine ne (eo_mv rfl rfl) rfl ?_
        refine go_nil ?_
        exact round3 (i + 1) (i : Int) (upd f1 ((((i : Int) - (2 * r))).toNat) (decide ((i : Int) < ((i : Int) - (2 * r))))) (by
          have hy := lastL_yes (f := f) (i := i) (not_t hc1)
          exact ⟨by omega, hy.symm, fun j hj => sh_store hr0 (by omega) hI (by rw [hy]) j hj⟩) (by omega) ⟨rfl, rfl, rfl, rfl, rfl, rfl, trivial⟩ (List.Sublist.refl _)
      ·
        replace hc2 := of_decide_eq_false hc2
        refine gc_skip ?_
        refine gq_block_end ?_
        refine gq_next ?_
        refine gc_region ?_
        refine ne (eo_add rfl rfl rfl (by omega) (by omega)) rfl ?_
        refine ne (eo_mv rfl rfl) rfl ?_
        refine go_nil ?_
        exact round3 (i + 1) (i : Int) f1 (by
          have hy := lastL_yes (f := f) (i := i) (not_t hc1)
          exact ⟨by omega, hy.symm, fun j hj => by rw [hI j hj, if_neg (by omega), if_neg (by push_cast; omega)]⟩) (by omega) ⟨rfl, rfl, rfl, rfl, rfl, rfl, trivial⟩ (List.Sublist.refl _)
    ·
      have hd1 := (not_f hc1)
      refine gc_skip ?_
      refine gq_next ?_
      refine gc_seq ?_
      refine gc_region ?_
      refine ne (eo_mv rfl rfl) rfl ?_
      refine ne (eo_mv rfl rfl) rfl ?_
      refine ne (eo_mul rfl rfl rfl (by omega) (by omega)) rfl ?_
      refine ne (eo_sub rfl rfl rfl (by omega) (by omega)) rfl ?_
      refine ne (eo_as rfl rfl) rfl ?_
      refine go_nil ?_
      refine gq_next ?_
      refine gc_seq ?_
      refine gc_region ?_
      refine ne (eo_mv rfl rfl) rfl ?_
      refine ne (eo_geq rfl rfl rfl) rfl ?_
      refine go_nil ?_
      refine gq_next ?_
      refine gc_cond rfl (fun hc2 => ?_) (fun hc2 => ?_)
      ·
        replace hc2 := of_decide_eq_true hc2
        refine gc_region ?_
        refine ne (eo_mv rfl rfl) rfl ?_
        refine ne (eo_mv rfl rfl) rfl ?_
        refine ne (eo_mv rfl rfl) rfl ?_
        refine ne (eo_mv rfl rfl) rfl ?_
        refine ne (eo_lss rfl rfl rfl) rfl ?_
        refine ne (eo_index0 rfl sl22 rfl rfl (by omega) (by omega)) rfl ?_
        refine nu (xo_setb 0 rfl s4 rfl rfl rfl (by omega)) ?_
        rintro _ _ ⟨rfl, rfl⟩
        refine go_nil ?_
        refine gq_block_end ?_
        refine gq_next ?_
        refine gc_region ?_
        refine ne (eo_add rfl rfl rfl (by omega) (by omega)) rfl ?_
        refine ne (eo_mv rfl rfl) rfl ?_
        refine go_nil ?_
        exact round3 (i + 1) last (upd f1 ((((i : Int) - (2 * r))).toNat) (decide (last < ((i : Int) - (2 * r))))) (by
          have hy := lastL_no (f := f) (i := i) (not_f hc1)
          exact ⟨by omega, by rw [hy]; exact hl, fun j hj => sh_store hr0 (by omega) hI (by rw [hy, ← hl]) j hj⟩) (by omega) ⟨rfl, rfl, rfl, rfl, rfl, rfl, trivial⟩ (List.Sublist.refl _)
      ·
        replace hc2 := of_decide_eq_false hc2
        refine gc_skip ?_
        refine gq_block_end ?_
        refine gq_next ?_
        refine gc_region ?_
        refine ne (eo_add rfl rfl rfl (by omega) (by omega)) rfl ?_
        refine ne (eo_mv rfl rfl) rfl ?_
        refine go_nil ?_
        exact round3 (i + 1) last f1 (by
          have hy := lastL_no (f := f) (i := i) (not_f hc1)
          exact ⟨by omega, by rw [hy]; exact hl, fun j hj => by rw [hI j hj, if_neg (by omega), if_neg (by push_cast; omega)]⟩) (by omega) ⟨rfl, rfl, rfl, rfl, rfl, rfl, trivial⟩ (List.Sublist.refl _)
  ·
    replace hc0 := of_decide_eq_false hc0
    refine gc_exit ?_
    refine gq_then_exit ?_
    refine gq_then_exit ?_
    refine gq_block_hit ?_
    refine gq_next ?_
    refine gc_seq ?_
    refine gc_region ?_
    refine ne (eo_mv rfl rfl) rfl ?_
    refine ne (eo_as rfl rfl) rfl ?_
    refine go_nil ?_
    refine gq_next ?_
    refine gc_ret ?_
    refine gq_results (res1 rfl rfl) ?_
    rw [show tab (((max 0 (((n : Nat) : Int) - (2 * r)))).toNat) (bv f1) = _ from tabb_ext (fun j hj => by rw [hI j hj, if_pos (by omega)])]
    exact fun W1 hO => ⟨_, _, rfl, ⟨_, _, _, rfl, rfl, by omega⟩, hO.pick 0 rfl⟩

/-- barscan/morphology.eroding_1 -/
theorem ero_c (A : Option Addr) (n c : Nat) (f : Nat → Bool) (gr : Nat) (r : Int) (w : World) (hr : Rd w A (tab n (bv f))) (hcr : w.cell? ⟨gr, 0, none⟩ = some (.int .i64 r)) (hr0 : 0 ≤ r) (hr1 : r ≤ 4096) (hn : n ≤ 16777216) :
    Calls Try.prog 47 #[.slice A n c, .pointer (some ⟨gr, 0, none⟩)] w (fun e w' => ∃ v Hn, e = .returned v ∧ RL n (erL n r f) v Hn ∧ Ow [] w w' Hn) := by
  refine calls_enter (N := ⟨21, []⟩) [] ([]) Try.func47 rfl rfl rfl (Ow.start _) ?_
  refine gc_seq ?_
  refine gc_region ?_
  refine ne (eo_as rfl rfl) rfl ?_
  refine go_nil ?_
  refine gq_next ?_
  refine gc_seq ?_
  refine gc_region ?_
  refine ne (eo_mv rfl rfl) rfl ?_
  refine ne (eo_len rfl Try.underlying22 rfl) rfl ?_
  refine nx (xo_makeb rfl Try.underlying22 e4 rfl rfl (by omega) (by omega) (by omega)) rfl ?_
  rintro _ _ ⟨g7, rfl, rfl⟩
  refine ne (eo_as rfl rfl) rfl ?_
  refine go_nil ?_
  refine gq_next ?_
  refine gc_seq ?_
  refine gc_seq ?_
  refine gc_region ?_
  refine ne (eo_mv rfl rfl) rfl ?_
  refine ne (eo_len rfl Try.underlying22 rfl) rfl ?_
  refine ne (eo_load_old rfl s3 rfl hcr (by simp)) rfl ?_
  refine ne (eo_mul rfl rfl rfl (by omega) (by omega)) rfl ?_
  refine ne (eo_gtr rfl rfl rfl) rfl ?_
  refine go_nil ?_
  refine gq_next ?_
  refine gc_cond rfl (fun hc0 => ?_) (fun hc0 => ?_)
  ·
    replace hc0 := of_decide_eq_true hc0
    refine gc_draw [] [0, 1, 2, 3, 4] [5] [6] (by kernel_rfl) (by kernel_rfl) ?_
    refine gp_nil ?_
    refine de rfl (eo_mv rfl rfl) rfl ?_
    refine de rfl (eo_load_old rfl s3 rfl hcr (by simp)) rfl ?_
    refine de rfl (eo_slL0 rfl sl22 rfl rfl (by omega) (by omega) (by omega)) rfl ?_
    refine de rfl (eo_mv rfl rfl) rfl ?_
    refine de rfl (eo_load_old rfl s3 rfl hcr (by simp)) rfl ?_
    refine ge_nil ?_
    refine da rfl (xo_fresh rfl en42 rfl (fun W1 hO => shrink_c _ _ _ _ _ W1 (hr.old0 hO) (by omega) (by omega) (by omega))) rfl ?_
    rintro _ _ ⟨_, ⟨ge18, ce18, se18, rfl, rfl, hce18⟩, rfl⟩
    refine ⟨by first | exact (List.Sublist.cons _ (List.Sublist.refl _)) | exact (List.sublist_append_left _ _), ?_⟩
    refine ga_nil ?_
    refine ix rfl (xo_cpyb (q := (shG r f)) 1 rfl sl22 rfl rfl rfl (by omega) (fun W1 hO => (tabs_rd hO 0 rfl)) (by simp) (by omega)) rfl ?_
    rintro _ _ ⟨rfl, rfl⟩
    refine gi_nil ?_
    refine gq_nq ?_
    refine gq_next ?_
    refine gc_seq ?_
    refine gc_region ?_
    refine ne (eo_mv rfl rfl) rfl ?_
    refine ne (eo_as rfl rfl) rfl ?_
    refine go_nil ?_
    refine gq_next ?_
    refine gc_ret ?_
    refine gq_results (res1 rfl rfl) ?_
    exact fun W1 hO => rl_own 1 hO rfl rfl (fun j hj => er_spl hr0 (by omega) hj) (by omega)
  ·
    replace hc0 := of_decide_eq_false hc0
    refine gc_skip ?_
    refine gq_next ?_
    refine gc_seq ?_
    refine gc_region ?_
    refine ne (eo_mv rfl rfl) rfl ?_
    refine ne (eo_as rfl rfl) rfl ?_
    refine go_nil ?_
    refine gq_next ?_
    refine gc_ret ?_
    refine gq_results (res1 rfl rfl) ?_
    exact fun W1 hO => rl_own 0 hO rfl rfl (fun j hj => er_none hr0 (by omega)) (by omega)

/-- barscan/morphology.dilating_1 -/
theorem dil_c (A : Option Addr) (n c : Nat) (f : Nat → Bool) (gr : Nat) (r : Int) (w : World) (hr : Rd w A (tab n (bv f))) (hcr : w.cell? ⟨gr, 0, none⟩ = some (.int .i64 r)) (hr0 : 0 ≤ r) (hr1 : r ≤ 4096) (hn : n ≤ 16777216) (h1 : 1 ≤ n) :
    Calls Try.prog 49 #[.slice A n c, .pointer (some ⟨gr, 0, none⟩)] w (fun e w' => ∃ v Hn, e = .returned v ∧ RL n (diL n r f) v Hn ∧ Ow [] w w' Hn) := by
  refine calls_enter (N := ⟨13, []⟩) [] ([]) Try.func49 rfl rfl rfl (Ow.start _) ?_
  refine gc_seq ?_
  refine gc_region ?_
  refine ne (eo_as rfl rfl) rfl ?_
  refine go_nil ?_
  refine gq_next ?_
  refine gc_seq ?_
  refine gc_draw [] [0, 1, 3, 4, 5, 6, 7] [2, 8, 9] [] (by kernel_rfl) (by kernel_rfl) ?_
  refine gp_nil ?_
  refine de rfl (eo_mv rfl rfl) rfl ?_
  refine de rfl (eo_load_old rfl s3 rfl hcr (by simp)) rfl ?_
  refine de rfl (eo_load_old rfl s3 rfl hcr (by simp)) rfl ?_
  refine de rfl (eo_load_old rfl s3 rfl hcr (by simp)) rfl ?_
  refine de rfl (eo_mv rfl rfl) rfl ?_
  refine de rfl (eo_len rfl Try.underlying22 rfl) rfl ?_
  refine de rfl (eo_add rfl rfl rfl (by omega) (by omega)) rfl ?_
  refine ge_nil ?_
  refine da rfl (xo_fresh rfl en39 rfl (fun W1 hO => spread_c _ _ _ _ _ W1 (hr.old0 hO) (by omega) (by omega) (by omega))) rfl ?_
  rintro _ _ ⟨_, ⟨ge6, ce6, se6, rfl, rfl, hce6⟩, rfl⟩
  refine ⟨by first | exact (List.Sublist.cons _ (List.Sublist.refl _)) | exact (List.sublist_append_left _ _), ?_⟩
  refine da rfl (xo_of_eo (eo_sl0 rfl sl22 rfl rfl rfl (by omega) (by omega) (by omega) (by omega))) rfl ?_
  rintro _ _ ⟨rfl, rfl⟩
  refine ⟨by first | exact (List.Sublist.cons _ (List.Sublist.refl _)) | exact (List.sublist_append_left _ _), ?_⟩
  refine da rfl (xo_of_eo (eo_as rfl rfl)) rfl ?_
  rintro _ _ ⟨rfl, rfl⟩
  refine ⟨by first | exact (List.Sublist.cons _ (List.Sublist.refl _)) | exact (List.sublist_append_left _ _), ?_⟩
  refine ga_nil ?_
  refine gi_nil ?_
  refine gq_nq ?_
  refine gq_next ?_
  refine gc_ret ?_
  refine gq_results (res1 rfl rfl) ?_
  exact fun W1 hO => rl_cut 0 hO rfl (by omega) (by omega) (fun j hj => rfl) (by omega)

/-- barscan/morphology.closing_1 -/
theorem clo_c (A : Option Addr) (n c : Nat) (f : Nat → Bool) (gr : Nat) (r : Int) (w : World) (hr : Rd w A (tab n (bv f))) (hcr : w.cell? ⟨gr, 0, none⟩ = some (.int .i64 r)) (hr0 : 0 ≤ r) (hr1 : r ≤ 4096) (hn : n ≤ 16777216) :
    Calls Try.prog 50 #[.slice A n c, .pointer (some ⟨gr, 0, none⟩)] w (fun e w' => ∃ v Hn, e = .returned v ∧ RL n (clL n r f) v Hn ∧ Ow [] w w' Hn) := by
  refine calls_enter (N := ⟨9, []⟩) [] ([]) Try.func50 rfl rfl rfl (Ow.start _) ?_
  refine gc_seq ?_
  refine gc_region ?_
  refine ne (eo_as rfl rfl) rfl ?_
  refine go_nil ?_
  refine gq_next ?_
  refine gc_seq ?_
  refine gc_draw [] [0, 1, 3] [2, 4, 5] [] (by kernel_rfl) (by kernel_rfl) ?_
  refine gp_nil ?_
  refine de rfl (eo_mv rfl rfl) rfl ?_
  refine de rfl (eo_load_old rfl s3 rfl hcr (by simp)) rfl ?_
  refine de rfl (eo_load_old rfl s3 rfl hcr (by simp)) rfl ?_
  refine ge_nil ?_
  refine da rfl (xo_fresh rfl en39 rfl (fun W1 hO => spread_c _ _ _ _ _ W1 (hr.old0 hO) (by omega) (by omega) (by omega))) rfl ?_
  rintro _ _ ⟨_, ⟨ge6, ce6, se6, rfl, rfl, hce6⟩, rfl⟩
  refine ⟨by first | exact (List.Sublist.cons _ (List.Sublist.refl _)) | exact (List.sublist_append_left _ _), ?_⟩
  refine da rfl (xo_fresh rfl en42 rfl (fun W1 hO => shrink_c _ _ _ _ _ W1 (tabs_rd hO 0 rfl) (by omega) (by omega) (by omega))) rfl ?_
  rintro _ _ ⟨_, ⟨ge8, ce8, se8, rfl, rfl, hce8⟩, rfl⟩
  refine ⟨by first | exact (List.Sublist.cons _ (List.Sublist.cons _ (List.Sublist.refl _))) | exact (List.sublist_append_left _ _), ?_⟩
  refine da rfl (xo_of_eo (eo_as rfl rfl)) rfl ?_
  rintro _ _ ⟨rfl, rfl⟩
  refine ⟨by first | exact (List.Sublist.cons _ (List.Sublist.cons _ (List.Sublist.refl _))) | exact (List.sublist_append_left _ _), ?_⟩
  refine ga_nil ?_
  refine gi_nil ?_
  refine gq_nq ?_
  refine gq_next ?_
  refine gc_ret ?_
  refine gq_results (res1 rfl rfl) ?_
  exact fun W1 hO => rl_own 0 hO rfl (by omega) (fun j hj => rfl) (by omega)

/-- barscan/morphology.Close_1 -/
theorem spr_c (A : Option Addr) (n c : Nat) (f : Nat → Bool) (gr : Nat) (r : Int) (w : World) (hr : Rd w A (tab n (bv f))) (hcr : w.cell? ⟨gr, 0, none⟩ = some (.int .i64 r)) (hr0 : 0 ≤ r) (hr1 : r ≤ 4096) (hn : n ≤ 16777216) :
    Calls Try.prog 38 #[.slice A n c, .pointer (some ⟨gr, 0, none⟩)] w (fun e w' => ∃ v Hn, e = .returned v ∧ RL ((n : Int) + 2 * r).toNat (spG n r f) v Hn ∧ Ow [] w w' Hn) := by
  refine calls_enter (N := ⟨7, []⟩) [] ([]) Try.func38 rfl rfl rfl (Ow.start _) ?_
  refine gc_seq ?_
  refine gc_region ?_
  refine ne (eo_as rfl rfl) rfl ?_
  refine go_nil ?_
  refine gq_next ?_
  refine gc_seq ?_
  refine gc_region ?_
  refine ne (eo_mv rfl rfl) rfl ?_
  refine ne (eo_load_old rfl s3 rfl hcr (by simp)) rfl ?_
  refine nx (xo_fresh rfl en39 rfl (fun W1 hO => spread_c _ _ _ _ _ W1 (hr.old0 hO) (by omega) (by omega) (by omega))) rfl ?_
  rintro _ _ ⟨_, ⟨ge6, ce6, se6, rfl, rfl, hce6⟩, rfl⟩
  refine ne (eo_as rfl rfl) rfl ?_
  refine go_nil ?_
  refine gq_next ?_
  refine gc_ret ?_
  refine gq_results (res1 rfl rfl) ?_
  exact fun W1 hO => rl_own 0 hO rfl rfl (fun j hj => rfl) (by omega)

/-- barscan/morphology.Close_2 -/
theorem shr_c (A : Option Addr) (n c : Nat) (f : Nat → Bool) (gr : Nat) (r : Int) (w : World) (hr : Rd w A (tab n (bv f))) (hcr : w.cell? ⟨gr, 0, none⟩ = some (.int .i64 r)) (hr0 : 0 ≤ r) (hr1 : r ≤ 4096) (hn : n ≤ 16777216) :
    Calls Try.prog 41 #[.slice A n c, .pointer (some ⟨gr, 0, none⟩)] w (fun e w' => ∃ v Hn, e = .returned v ∧ RL (max 0 ((n : Int) - 2 * r)).toNat (shG r f) v Hn ∧ Ow [] w w' Hn) := by
  refine calls_enter (N := ⟨7, []⟩) [] ([]) Try.func41 rfl rfl rfl (Ow.start _) ?_
  refine gc_seq ?_
  refine gc_region ?_
  refine ne (eo_as rfl rfl) rfl ?_
  refine go_nil ?_
  refine gq_next ?_
  refine gc_seq ?_
  refine gc_region ?_
  refine ne (eo_mv rfl rfl) rfl ?_
  refine ne (eo_load_old rfl s3 rfl hcr (by simp)) rfl ?_
  refine nx (xo_fresh rfl en42 rfl (fun W1 hO => shrink_c _ _ _ _ _ W1 (hr.old0 hO) (by omega) (by omega) (by omega))) rfl ?_
  rintro _ _ ⟨_, ⟨ge6, ce6, se6, rfl, rfl, hce6⟩, rfl⟩
  refine ne (eo_as rfl rfl) rfl ?_
  refine go_nil ?_
  refine gq_next ?_
  refine gc_ret ?_
  refine gq_results (res1 rfl rfl) ?_
  exact fun W1 hO => rl_own 0 hO rfl rfl (fun j hj => rfl) (by omega)

/-- barscan/morphology.eroding -/
theorem eroding_f (r : Int) (w : World)   :
    Calls Try.prog 33 #[.int .i64 r] w (fun e w' => ∃ v Hn, e = .returned v ∧ RFn 47 3 r v Hn ∧ Ow [] w w' Hn) := by
  refine calls_enter (N := ⟨4, []⟩) [] ([]) Try.func33 rfl rfl rfl (Ow.start _) ?_
  refine gc_seq ?_
  refine gc_region ?_
  refine nx (xo_box rfl rfl (by first | rfl | exact AS.one)) rfl ?_
  rintro _ _ ⟨g1, rfl, rfl⟩
  refine ne (eo_as rfl rfl) rfl ?_
  refine go_nil ?_
  refine gq_next ?_
  refine gc_seq ?_
  refine gc_region ?_
  refine ne (eo_makeFunc rfl rfl rfl) rfl ?_
  refine ne (eo_as rfl rfl) rfl ?_
  refine go_nil ?_
  refine gq_next ?_
  refine gc_ret ?_
  refine gq_results (res1 rfl rfl) ?_
  exact fun W1 hO => ⟨_, _, rfl, ⟨_, rfl, rfl⟩, hO.pick 0 rfl⟩

/-- barscan/morphology.dilating -/
theorem dilating_f (r : Int) (w : World)   :
    Calls Try.prog 37 #[.int .i64 r] w (fun e w' => ∃ v Hn, e = .returned v ∧ RFn 49 3 r v Hn ∧ Ow [] w w' Hn) := by
  refine calls_enter (N := ⟨4, []⟩) [] ([]) Try.func37 rfl rfl rfl (Ow.start _) ?_
  refine gc_seq ?_
  refine gc_region ?_
  refine nx (xo_box rfl rfl (by first | rfl | exact AS.one)) rfl ?_
  rintro _ _ ⟨g1, rfl, rfl⟩
  refine ne (eo_as rfl rfl) rfl ?_
  refine go_nil ?_
  refine gq_next ?_
  refine gc_seq ?_
  refine gc_region ?_
  refine ne (eo_makeFunc rfl rfl rfl) rfl ?_
  refine ne (eo_as rfl rfl) rfl ?_
  refine go_nil ?_
  refine gq_next ?_
  refine gc_ret ?_
  refine gq_results (res1 rfl rfl) ?_
  exact fun W1 hO => ⟨_, _, rfl, ⟨_, rfl, rfl⟩, hO.pick 0 rfl⟩

/-- barscan/morphology.closing -/
theorem closing_f (r : Int) (w : World)   :
    Calls Try.prog 40 #[.int .i64 r] w (fun e w' => ∃ v Hn, e = .returned v ∧ RFn 50 3 r v Hn ∧ Ow [] w w' Hn) := by
  refine calls_enter (N := ⟨4, []⟩) [] ([]) Try.func40 rfl rfl rfl (Ow.start _) ?_
  refine gc_seq ?_
  refine gc_region ?_
  refine nx (xo_box rfl rfl (by first | rfl | exact AS.one)) rfl ?_
  rintro _ _ ⟨g1, rfl, rfl⟩
  refine ne (eo_as rfl rfl) rfl ?_
  refine go_nil ?_
  refine gq_next ?_
  refine gc_seq ?_
  refine gc_region ?_
  refine ne (eo_makeFunc rfl rfl rfl) rfl ?_
  refine ne (eo_as rfl rfl) rfl ?_
  refine go_nil ?_
  refine gq_next ?_
  refine gc_ret ?_
  refine gq_results (res1 rfl rfl) ?_
  exact fun W1 hO => ⟨_, _, rfl, ⟨_, rfl, rfl⟩, hO.pick 0 rfl⟩

/-- barscan/morphology.check -/
theorem mcheck_c (W H : Int) (A : Option Addr) (n c : Nat) (f : Nat → Bool) (rx : Int) (ry : Int) (w : World) (hr : Rd w A (tab n (bv f)))  :
    Calls Try.prog 30 #[.agg #[.int .i64 W, .int .i64 H, .slice A n c], .int .i64 rx, .int .i64 ry] w (fun e w' => e = .returned (.int .i64 (mchk W H n rx ry)) ∧ Ext w w') := by
  refine calls_enter (N := ⟨27, []⟩) [] ([]) Try.func30 rfl rfl rfl (Ow.start _) ?_
  refine gc_seq ?_
  refine gc_region ?_
  refine nx (xo_boxA rfl rfl) rfl ?_
  rintro _ _ ⟨g3, rfl, rfl⟩
  refine ne (eo_as rfl rfl) rfl ?_
  refine go_nil ?_
  refine gq_next ?_
  refine gc_seq ?_
  refine gc_seq ?_
  refine gc_region ?_
  refine ne (eo_loadA 0 rfl a24 rfl rfl rfl rfl) rfl ?_
  refine ne (eo_call rfl en44 rfl (fun W1 hO => check_c _ _ _ _ _ W1  )) rfl ?_
  refine ne (eo_as rfl rfl) rfl ?_
  refine go_nil ?_
  refine gq_next ?_
  refine gc_seq ?_
  refine gc_region ?_
  refine ne (eo_mv rfl rfl) rfl ?_
  refine ne (eo_neq rfl rfl rfl) rfl ?_
  refine go_nil ?_
  refine gq_next ?_
  refine gc_cond rfl (fun hc0 => ?_) (fun hc0 => ?_)
  ·
    replace hc0 := of_decide_eq_true hc0
    have hv := chk_f hc0
    refine gc_seq ?_
    refine gc_region ?_
    refine ne (eo_mv rfl rfl) rfl ?_
    refine ne (eo_as rfl rfl) rfl ?_
    refine go_nil ?_
    refine gq_next ?_
    refine gc_ret ?_
    refine gq_then_ret ?_
    refine gq_results (res1 rfl rfl) ?_
    exact fun W1 hO => ⟨ret_int (by rw [chk_no hv, mchk_arg hv]), hO.toExt⟩
  ·
    replace hc0 := of_decide_eq_false hc0
    have hv := chk_t hc0
    obtain ⟨v1, v2, v3, v4, v5, v6⟩ := vldB_iff.1 hv
    have v7 := vld_pos hv
    refine gc_skip ?_
    refine gq_next ?_
    refine gc_seq ?_
    refine gc_seq ?_
    refine gc_region ?_
    refine ne (eo_mv rfl rfl) rfl ?_
    refine ne (eo_lss rfl rfl rfl) rfl ?_
    refine ne (eo_mv rfl rfl) rfl ?_
    refine ng rfl rfl (fun h => eo_mv rfl rfl) rfl ?_
    refine ng rfl rfl (fun h => eo_gtr rfl (ev_if h rfl) rfl) rfl ?_
    refine ne (eo_or rfl rfl (fun hb => ev_if hb rfl)) rfl ?_
    refine ne (eo_mv rfl rfl) rfl ?_
    refine ng rfl rfl (fun h => eo_mv rfl rfl) rfl ?_
    refine ng rfl rfl (fun h => eo_lss rfl (ev_if h rfl) rfl) rfl ?_
    refine ne (eo_or rfl rfl (fun hb => ev_if hb rfl)) rfl ?_
    refine ne (eo_mv rfl rfl) rfl ?_
    refine ng rfl rfl (fun h => eo_mv rfl rfl) rfl ?_
    refine ng rfl rfl (fun h => eo_gtr rfl (ev_if h rfl) rfl) rfl ?_
    refine ne (eo_or rfl rfl (fun hb => ev_if hb rfl)) rfl ?_
    refine go_nil ?_
    refine gq_next ?_
    refine gc_cond rfl (fun hc1 => ?_) (fun hc1 => ?_)
    ·
      have hd1 := (or_t hc1).imp (fun h => (or_t h).imp (fun h => (or_t h).imp (fun h => of_decide_eq_true h) (fun h => of_decide_eq_true h)) (fun h => of_decide_eq_true h)) (fun h => of_decide_eq_true h)
      refine gc_seq ?_
      refine gc_region ?_
      refine ne (eo_as rfl rfl) rfl ?_
      refine go_nil ?_
      refine gq_next ?_
      refine gc_ret ?_
      refine gq_then_ret ?_
      refine gq_results (res1 rfl rfl) ?_
      exact fun W1 hO => ⟨ret_int ((mchk_range hv (by omega)).symm), hO.toExt⟩
    ·
      have hd1 := (or_f hc1).imp (fun h => (or_f h).imp (fun h => (or_f h).imp (fun h => of_decide_eq_false h) (fun h => of_decide_eq_false h)) (fun h => of_decide_eq_false h)) (fun h => of_decide_eq_false h)
      refine gc_skip ?_
      refine gq_next ?_
      refine gc_seq ?_
      refine gc_region ?_
      refine ne (eo_as rfl rfl) rfl ?_
      refine go_nil ?_
      refine gq_next ?_
      refine gc_ret ?_
      refine gq_results (res1 rfl rfl) ?_
      exact fun W1 hO => ⟨ret_int ((mchk_ok hv (by omega)).symm), hO.toExt⟩

/-- barscan/morphology.rows -/
theorem rows_c (W H : Int) (A : Option Addr) (n c : Nat) (f : Nat → Bool) (v : Int) (fo gr : Nat) (r : Int) (op : (Nat → Bool) → Nat → Bool) (w : World) (hr : Rd w A (tab n (bv f))) (hcr : w.cell? ⟨gr, 0, none⟩ = some (.int .i64 r)) (hE : Ent Try.prog fo) (hop : ∀ (A : Option Addr) (n1 c : Nat) (f : Nat → Bool) (W1 : World), (n1 : Int) = W → n1 ≤ c → W1.cell? ⟨gr, 0, none⟩ = some (.int .i64 r) → Rd W1 A (tab n1 (bv f)) → Calls Try.prog fo #[.slice A n1 c, .pointer (some ⟨gr, 0, none⟩)] W1 (fun e w1 => ∃ u Hn, e = .returned u ∧ RL v.toNat (op f) u Hn ∧ Ow [] W1 w1 Hn)) (v1 : 1 ≤ W) (v2 : W ≤ 16384) (v3 : 1 ≤ H) (v4 : H ≤ 4096) (v6 : (n : Int) = W * H) (hnc : n ≤ c) (hv1 : 1 ≤ v) (hv2 : v ≤ 16384) :
    Calls Try.prog 32 #[.agg #[.int .i64 W, .int .i64 H, .slice A n c], .int .i64 v, .func (.func fo) #[] #[.pointer (some ⟨gr, 0, none⟩)]] w (fun e w' => ∃ u Hn, e = .returned u ∧ RM 4 v H (v * H).toNat (rowsF W v op f) u Hn ∧ Ow [] w w' Hn) := by
  have v7 := mul_up v1 v2 v3 v4
  have hvH : 0 ≤ v * H ∧ v * H ≤ 67108864 := ⟨Int.mul_nonneg (by omega) (by omega), Int.le_trans (Int.mul_le_mul hv2 v4 (by omega) (by omega)) (by omega)⟩
  refine calls_enter (N := ⟨50, []⟩) [] ([]) Try.func32 rfl rfl rfl (Ow.start _) ?_
  refine gc_seq ?_
  refine gc_region ?_
  refine nx (xo_boxA rfl rfl) rfl ?_
  rintro _ _ ⟨g3, rfl, rfl⟩
  refine nx (xo_alloc rfl z24) rfl ?_
  rintro _ _ ⟨g6, rfl, rfl⟩
  refine go_nil ?_
  refine gq_next ?_
  refine gc_seq ?_
  refine gc_draw_new (i := 9) (d := 7) [] [0, 1, 2, 3, 4, 5, 6] [7, 8] [10] (by kernel_rfl) (by kernel_rfl) rfl z24 rfl ?_
  refine gp_nil ?_
  refine de rfl (eo_mv rfl rfl) rfl ?_
  refine de rfl (eo_field rfl f24_1 rfl) rfl ?_
  refine de rfl (eo_load 1 rfl s3 rfl rfl rfl rfl) rfl ?_
  refine de rfl (eo_mv rfl rfl) rfl ?_
  refine de rfl (eo_field rfl f24_1 rfl) rfl ?_
  refine de rfl (eo_load 1 rfl s3 rfl rfl rfl rfl) rfl ?_
  refine de rfl (eo_mul rfl rfl rfl (by omega) (by omega)) rfl ?_
  refine ge_nil ?_
  refine ⟨rfl, ?_⟩
  refine da rfl (xo_makeb rfl Try.underlying22 e4 rfl rfl (by omega) (by omega) (by omega)) rfl ?_
  rintro _ _ ⟨g16, rfl, rfl⟩
  refine ⟨by first | exact (List.Sublist.cons _ (List.Sublist.refl _)) | exact (List.sublist_append_left _ _), ?_⟩
  refine da rfl (xo_of_eo (eo_build rfl rfl (b24_012 _ _ _ _ _))) rfl ?_
  rintro _ _ ⟨rfl, rfl⟩
  refine ⟨by first | exact (List.Sublist.cons _ (List.Sublist.refl _)) | exact (List.sublist_append_left _ _), ?_⟩
  refine ga_nil ?_
  intro g7
  refine iu rfl (xo_storeA 0 rfl a24 rfl rfl (ones_cons (by first | rfl | exact AS.one) (ones_cons (by first | rfl | exact AS.one) (ones_cons (by first | rfl | exact AS.one) ones_nil))) rfl rfl rfl rfl) ?_
  rintro _ _ ⟨rfl, rfl⟩
  refine gi_nil ?_
  refine gq_nq ?_
  refine gq_next ?_
  refine gc_seq ?_
  refine gc_seq ?_
  refine gc_region ?_
  refine ne (eo_field rfl f24_1 rfl) rfl ?_
  refine ne (eo_load 3 rfl s3 rfl rfl rfl rfl) rfl ?_
  refine ne (eo_mv rfl rfl) rfl ?_
  refine go_nil ?_
  refine gq_next ?_
  refine gc_block ?_
  refine loop2 (fun (y : Nat) (f1 : Nat → Bool) => (y : Int) ≤ H ∧ ∀ j, j < (v * H).toNat → f1 j = if (j : Int) < y * v then rowsF W v op f j else false) (fun (y : Nat) (f1 : Nat → Bool) => (H - y).toNat) (fun (y : Nat) (f1 : Nat → Bool) => [(1, .int .i64 v), (2, .func (.func fo) #[] #[.pointer (some ⟨gr, 0, none⟩)]), (3, .pointer (some ⟨g3, 0, none⟩)), (6, .pointer (some ⟨g6, 0, none⟩)), (7, .pointer (some ⟨g7, 0, none⟩)), (19, .int .i64 H), (20, .int .i64 (y : Int))]) (fun (y : Nat) (f1 : Nat → Bool) => [⟨g7, 24, [.int .i64 v, .int .i64 H, .slice (some ⟨g16, 0, none⟩) (((v * H)).toNat) (((v * H)).toNat)]⟩, ⟨g16, 4, tab (((v * H)).toNat) (bv f1) ++ []⟩, ⟨g6, 24, [.int .i64 0, .int .i64 0, .slice none 0 0]⟩, ⟨g3, 24, [.int .i64 W, .int .i64 H, .slice A n c]⟩]) 0 (fun _ => false) ⟨by omega, fill_new (by simp)⟩ ⟨rfl, rfl, rfl, rfl, rfl, rfl, rfl, trivial⟩ (List.Sublist.refl _) ?_
  rintro y f1 ⟨hy, hI⟩
  refine gc_seq ?_
  refine gc_region ?_
  refine ne (eo_lss rfl rfl rfl) rfl ?_
  refine go_nil ?_
  refine gq_next ?_
  refine gc_seq ?_
  refine gc_cond rfl (fun hc0 => ?_) (fun hc0 => ?_)
  ·
    replace hc0 := of_decide_eq_true hc0
    have hb := idx_bd (W := v) (H := H) (x := 0) (y := y) (by omega) (by omega) (by omega) (by omega)
    have ha : ((y : Int) + 1) * v = y * v + v := add1_mul
    have hb2 := idx_bd (W := W) (H := H) (x := 0) (y := y) (by omega) (by omega) (by omega) (by omega)
    have ha2 : ((y : Int) + 1) * W = y * W + W := add1_mul
    refine gc_skip ?_
    refine gq_next ?_
    refine gc_seq ?_
    refine gc_block ?_
    refine gc_seq ?_
    refine gc_region ?_
    refine ne (eo_mv rfl rfl) rfl ?_
    refine ne (eo_as rfl rfl) rfl ?_
    refine go_nil ?_
    refine gq_next ?_
    refine gc_draw [] [0, 1, 2, 3, 4, 5, 6, 7, 8, 9, 10, 11, 12, 13, 14, 15, 16, 17, 18, 19, 20, 21, 22] [23] [24] (by kernel_rfl) (by kernel_rfl) ?_
    refine gp_nil ?_
    refine de rfl (eo_field rfl f24_2 rfl) rfl ?_
    refine de rfl (eo_load 0 rfl s22 rfl rfl rfl rfl) rfl ?_
    refine de rfl (eo_mv rfl rfl) rfl ?_
    refine de rfl (eo_mv rfl rfl) rfl ?_
    refine de rfl (eo_mul rfl rfl rfl (by omega) (by omega)) rfl ?_
    refine de rfl (eo_mv rfl rfl) rfl ?_
    refine de rfl (eo_add rfl rfl rfl (by omega) (by omega)) rfl ?_
    refine de rfl (eo_mv rfl rfl) rfl ?_
    refine de rfl (eo_mul rfl rfl rfl (by omega) (by omega)) rfl ?_
    refine de rfl (eo_sl0 rfl sl22 rfl rfl rfl (by omega) (by omega) (by omega) (by omega)) rfl ?_
    refine de rfl (eo_mv rfl rfl) rfl ?_
    refine de rfl (eo_field rfl f24_2 rfl) rfl ?_
    refine de rfl (eo_load 3 rfl s22 rfl rfl rfl rfl) rfl ?_
    refine de rfl (eo_mv rfl rfl) rfl ?_
    refine de rfl (eo_field rfl f24_0 rfl) rfl ?_
    refine de rfl (eo_load 3 rfl s3 rfl rfl rfl rfl) rfl ?_
    refine de rfl (eo_mul rfl rfl rfl (by omega) (by omega)) rfl ?_
    refine de rfl (eo_mv rfl rfl) rfl ?_
    refine de rfl (eo_add rfl rfl rfl (by omega) (by omega)) rfl ?_
    refine de rfl (eo_field rfl f24_0 rfl) rfl ?_
    refine de rfl (eo_load 3 rfl s3 rfl rfl rfl rfl) rfl ?_
    refine de rfl (eo_mul rfl rfl rfl (by omega) (by omega)) rfl ?_
    refine de rfl (eo_slR rfl sl22 rfl rfl rfl hr (by omega) (by omega) (by omega) (by omega) (by simp; omega)) rfl ?_
    refine ge_nil ?_
    refine da rfl (xo_freshTv rfl rfl hE rfl (fun W1 hO => hop _ _ _ _ W1 (by omega) (by omega) (cell_old hO hcr (by simp)) (Rd.cutb (hr.old0 hO) (by omega) (by omega)))) rfl ?_
    rintro _ _ ⟨S46, ⟨A46, k46, rfl, hk46, hS46⟩, rfl⟩
    refine ⟨by first | exact (List.Sublist.refl _) | exact (List.sublist_append_left _ _), ?_⟩
    refine ga_nil ?_
    refine ix rfl (xo_cpySb (q := (op (fun i => f ((((y : Int) * W)).toNat + i)))) 1 rfl sl22 rfl rfl rfl (by omega) (fun W1 hO => (hS46.rd (hO.tl 4 rfl (List.Sublist.refl _)))) (by omega) (by omega)) rfl ?_
    rintro _ _ ⟨rfl, rfl⟩
    refine gi_nil ?_
    refine gq_nq ?_
    refine gq_block_end ?_
    refine gq_next ?_
    refine gc_region ?_
    refine ne (eo_add rfl rfl rfl (by omega) (by omega)) rfl ?_
    refine ne (eo_mv rfl rfl) rfl ?_
    refine go_nil ?_
    exact round2 (y + 1) (spl f1 ((((y : Int) * v)).toNat) v.toNat (op (fun i => f ((((y : Int) * W)).toNat + i)))) ⟨by omega, fill_spl hI (by omega) (by push_cast; rw [ha]; omega) (fun i hi hn => rows_at (by push_cast; omega) (by omega))⟩ (by omega) ⟨rfl, rfl, rfl, rfl, rfl, rfl, rfl, trivial⟩ (List.Sublist.cons_cons _ (List.Sublist.cons_cons _ (List.Sublist.cons_cons _ (List.Sublist.cons_cons _ (List.nil_sublist _)))))
  ·
    replace hc0 := of_decide_eq_false hc0
    refine gc_exit ?_
    refine gq_then_exit ?_
    refine gq_then_exit ?_
    refine gq_block_hit ?_
    refine gq_next ?_
    refine gc_seq ?_
    refine gc_region ?_
    refine ne (eo_loadA 0 rfl a24 rfl rfl rfl rfl) rfl ?_
    refine nu (xo_storeA 2 rfl a24 rfl rfl (ones_cons (by first | rfl | exact AS.one) (ones_cons (by first | rfl | exact AS.one) (ones_cons (by first | rfl | exact AS.one) ones_nil))) rfl rfl rfl rfl) ?_
    rintro _ _ ⟨rfl, rfl⟩
    refine go_nil ?_
    refine gq_next ?_
    refine gc_ret ?_
    refine gq_results (resC 2 rfl a24 rfl rfl rfl rfl) ?_
    rw [show tab (v * H).toNat (bv f1) = _ from tabb_ext (fill_end hI (by rw [show (y : Int) = H by omega, Int.mul_comm H]; omega))]
    exact fun W1 hO => ⟨_, _, rfl, ⟨_, _, _, rfl, rfl, by omega⟩, hO.pick 1 rfl⟩

/-- barscan/morphology.columns -/
theorem cols_c (W H : Int) (A : Option Addr) (n c : Nat) (f : Nat → Bool) (fo gr : Nat) (r : Int) (op : (Nat → Bool) → Nat → Bool) (w : World) (hr : Rd w A (tab n (bv f))) (hcr : w.cell? ⟨gr, 0, none⟩ = some (.int .i64 r)) (hE : Ent Try.prog fo) (hop : ∀ (A : Option Addr) (n1 c : Nat) (f : Nat → Bool) (W1 : World), (n1 : Int) = H → n1 ≤ c → W1.cell? ⟨gr, 0, none⟩ = some (.int .i64 r) → Rd W1 A (tab n1 (bv f)) → Calls Try.prog fo #[.slice A n1 c, .pointer (some ⟨gr, 0, none⟩)] W1 (fun e w1 => ∃ u Hn, e = .returned u ∧ RL H.toNat (op f) u Hn ∧ Ow [] W1 w1 Hn)) (v1 : 1 ≤ W) (v2 : W ≤ 16384) (v3 : 1 ≤ H) (v4 : H ≤ 4096) (v6 : (n : Int) = W * H) (hnc : n ≤ c) :
    Calls Try.prog 31 #[.agg #[.int .i64 W, .int .i64 H, .slice A n c], .func (.func fo) #[] #[.pointer (some ⟨gr, 0, none⟩)]] w (fun e w' => ∃ v Hn, e = .returned v ∧ RM 4 W H (W * H).toNat (colsF W op f) v Hn ∧ Ow [] w w' Hn) := by
  have v7 := mul_up v1 v2 v3 v4
  have hn0 : (((W * H).toNat : Nat) : Int) = W * H := by omega
  refine calls_enter (N := ⟨71, []⟩) [] ([]) Try.func31 rfl rfl rfl (Ow.start _) ?_
  refine gc_seq ?_
  refine gc_region ?_
  refine nx (xo_boxA rfl rfl) rfl ?_
  rintro _ _ ⟨g2, rfl, rfl⟩
  refine nx (xo_alloc rfl z24) rfl ?_
  rintro _ _ ⟨g4, rfl, rfl⟩
  refine go_nil ?_
  refine gq_next ?_
  refine gc_seq ?_
  refine gc_draw_new (i := 11) (d := 5) [] [0, 1, 2, 3, 4, 5, 6, 7, 8] [9, 10] [12] (by kernel_rfl) (by kernel_rfl) rfl z24 rfl ?_
  refine gp_nil ?_
  refine de rfl (eo_field rfl f24_0 rfl) rfl ?_
  refine de rfl (eo_load 1 rfl s3 rfl rfl rfl rfl) rfl ?_
  refine de rfl (eo_field rfl f24_1 rfl) rfl ?_
  refine de rfl (eo_load 1 rfl s3 rfl rfl rfl rfl) rfl ?_
  refine de rfl (eo_field rfl f24_0 rfl) rfl ?_
  refine de rfl (eo_load 1 rfl s3 rfl rfl rfl rfl) rfl ?_
  refine de rfl (eo_field rfl f24_1 rfl) rfl ?_
  refine de rfl (eo_load 1 rfl s3 rfl rfl rfl rfl) rfl ?_
  refine de rfl (eo_mul rfl rfl rfl (by omega) (by omega)) rfl ?_
  refine ge_nil ?_
  refine ⟨rfl, ?_⟩
  refine da rfl (xo_makeb rfl Try.underlying22 e4 rfl rfl (by omega) (by omega) (by omega)) rfl ?_
  rintro _ _ ⟨g20, rfl, rfl⟩
  refine ⟨by first | exact (List.Sublist.cons _ (List.Sublist.refl _)) | exact (List.sublist_append_left _ _), ?_⟩
  refine da rfl (xo_of_eo (eo_build rfl rfl (b24_012 _ _ _ _ _))) rfl ?_
  rintro _ _ ⟨rfl, rfl⟩
  refine ⟨by first | exact (List.Sublist.cons _ (List.Sublist.refl _)) | exact (List.sublist_append_left _ _), ?_⟩
  refine ga_nil ?_
  intro g5
  refine iu rfl (xo_storeA 0 rfl a24 rfl rfl (ones_cons (by first | rfl | exact AS.one) (ones_cons (by first | rfl | exact AS.one) (ones_cons (by first | rfl | exact AS.one) ones_nil))) rfl rfl rfl rfl) ?_
  rintro _ _ ⟨rfl, rfl⟩
  refine gi_nil ?_
  refine gq_nq ?_
  refine gq_next ?_
  refine gc_seq ?_
  refine gc_region ?_
  refine ne (eo_field rfl f24_1 rfl) rfl ?_
  refine ne (eo_load 3 rfl s3 rfl rfl rfl rfl) rfl ?_
  refine nx (xo_makeb rfl Try.underlying22 e4 rfl rfl (by omega) (by omega) (by omega)) rfl ?_
  rintro _ _ ⟨g24, rfl, rfl⟩
  refine ne (eo_as rfl rfl) rfl ?_
  refine go_nil ?_
  refine gq_next ?_
  refine gc_seq ?_
  refine gc_seq ?_
  refine gc_region ?_
  refine ne (eo_field rfl f24_0 rfl) rfl ?_
  refine ne (eo_load 4 rfl s3 rfl rfl rfl rfl) rfl ?_
  refine ne (eo_mv rfl rfl) rfl ?_
  refine go_nil ?_
  refine gq_next ?_
  refine gc_block ?_
  refine loop3 (fun (x : Nat) (f1 : Nat → Bool) (l1 : Nat → Bool) => (x : Int) ≤ W ∧ ∀ j : Nat, j < (W * H).toNat → f1 j = if (j : Int) % W < x then colsF W op f j else false) (fun (x : Nat) (f1 : Nat → Bool) (l1 : Nat → Bool) => (W - x).toNat) (fun (x : Nat) (f1 : Nat → Bool) (l1 : Nat → Bool) => [(1, .func (.func fo) #[] #[.pointer (some ⟨gr, 0, none⟩)]), (2, .pointer (some ⟨g2, 0, none⟩)), (4, .pointer (some ⟨g4, 0, none⟩)), (5, .pointer (some ⟨g5, 0, none⟩)), (6, .slice (some ⟨g24, 0, none⟩) ((H).toNat) ((H).toNat)), (26, .int .i64 W), (27, .int .i64 (x : Int))]) (fun (x : Nat) (f1 : Nat → Bool) (l1 : Nat → Bool) => [⟨g24, 4, tab ((H).toNat) (bv l1) ++ []⟩, ⟨g5, 24, [.int .i64 W, .int .i64 H, .slice (some ⟨g20, 0, none⟩) (((W * H)).toNat) (((W * H)).toNat)]⟩, ⟨g20, 4, tab (((W * H)).toNat) (bv f1) ++ []⟩, ⟨g4, 24, [.int .i64 0, .int .i64 0, .slice none 0 0]⟩, ⟨g2, 24, [.int .i64 W, .int .i64 H, .slice A n c]⟩]) 0 (fun _ => false) (fun _ => false) ⟨by omega, fun j _ => by rw [if_neg (by have := Int.emod_nonneg (j : Int) (show W ≠ 0 by omega); omega)]⟩ ⟨rfl, rfl, rfl, rfl, rfl, rfl, rfl, trivial⟩ (List.Sublist.refl _) ?_
  rintro x f1 l1 ⟨hx, hI⟩
  refine gc_seq ?_
  refine gc_region ?_
  refine ne (eo_lss rfl rfl rfl) rfl ?_
  refine go_nil ?_
  refine gq_next ?_
  refine gc_seq ?_
  refine gc_cond rfl (fun hc0 => ?_) (fun hc0 => ?_)
  ·
    replace hc0 := of_decide_eq_true hc0
    refine gc_skip ?_
    refine gq_next ?_
    refine gc_seq ?_
    refine gc_block ?_
    refine gc_seq ?_
    refine gc_region ?_
    refine ne (eo_mv rfl rfl) rfl ?_
    refine ne (eo_as rfl rfl) rfl ?_
    refine go_nil ?_
    refine gq_next ?_
    refine gc_seq ?_
    refine gc_seq ?_
    refine gc_region ?_
    refine ne (eo_mv rfl rfl) rfl ?_
    refine ne (eo_len rfl Try.underlying22 rfl) rfl ?_
    refine ne (eo_mv rfl rfl) rfl ?_
    refine go_nil ?_
    refine gq_next ?_
    refine gc_block ?_
    refine loop2 (fun (y : Nat) (l1 : Nat → Bool) => (y : Int) ≤ H ∧ ∀ k : Nat, k < y → l1 k = f ((k : Int) * W + x).toNat) (fun (y : Nat) (l1 : Nat → Bool) => (H - y).toNat) (fun (y : Nat) (l1 : Nat → Bool) => [(1, .func (.func fo) #[] #[.pointer (some ⟨gr, 0, none⟩)]), (2, .pointer (some ⟨g2, 0, none⟩)), (4, .pointer (some ⟨g4, 0, none⟩)), (5, .pointer (some ⟨g5, 0, none⟩)), (6, .slice (some ⟨g24, 0, none⟩) ((H).toNat) ((H).toNat)), (7, .int .i64 (x : Int)), (26, .int .i64 W), (27, .int .i64 (x : Int)), (31, .int .i64 (((H).toNat : Nat) : Int)), (32, .int .i64 (y : Int))]) (fun (y : Nat) (l1 : Nat → Bool) => [⟨g24, 4, tab ((H).toNat) (bv l1) ++ []⟩, ⟨g5, 24, [.int .i64 W, .int .i64 H, .slice (some ⟨g20, 0, none⟩) (((W * H)).toNat) (((W * H)).toNat)]⟩, ⟨g20, 4, tab (((W * H)).toNat) (bv f1) ++ []⟩, ⟨g4, 24, [.int .i64 0, .int .i64 0, .slice none 0 0]⟩, ⟨g2, 24, [.int .i64 W, .int .i64 H, .slice A n c]⟩]) 0 l1 ⟨by omega, fun k hk => absurd hk (by omega)⟩ ⟨rfl, rfl, rfl, rfl, rfl, rfl, rfl, rfl, rfl, rfl, trivial⟩ (List.Sublist.refl _) ?_
    rintro y l1 ⟨hy, hL⟩
    refine gc_seq ?_
    refine gc_region ?_
    refine ne (eo_lss rfl rfl rfl) rfl ?_
    refine go_nil ?_
    refine gq_next ?_
    refine gc_seq ?_
    refine gc_cond rfl (fun hc1 => ?_) (fun hc1 => ?_)
    ·
      replace hc1 := of_decide_eq_true hc1
      have hb := idx_bd (W := W) (H := H) (x := x) (y := y) (by omega) (by omega) (by omega) (by omega)
      refine gc_skip ?_
      refine gq_next ?_
      refine gc_seq ?_
      refine gc_block ?_
      refine gc_seq ?_
      refine gc_region ?_
      refine ne (eo_mv rfl rfl) rfl ?_
      refine ne (eo_as rfl rfl) rfl ?_
      refine go_nil ?_
      refine gq_next ?_
      refine gc_region ?_
      refine ne (eo_mv rfl rfl) rfl ?_
      refine ne (eo_mv rfl rfl) rfl ?_
      refine ne (eo_field rfl f24_2 rfl) rfl ?_
      refine ne (eo_load 4 rfl s22 rfl rfl rfl rfl) rfl ?_
      refine ne (eo_mv rfl rfl) rfl ?_
      refine ne (eo_field rfl f24_0 rfl) rfl ?_
      refine ne (eo_load 4 rfl s3 rfl rfl rfl rfl) rfl ?_
      refine ne (eo_mul rfl rfl rfl (by omega) (by omega)) rfl ?_
      refine ne (eo_mv rfl rfl) rfl ?_
      refine ne (eo_add rfl rfl rfl (by omega) (by omega)) rfl ?_
      refine ne (eo_indexR rfl sl22 rfl rfl hr (by simp) (by omega) (by omega)) rfl ?_
      refine ne (eo_load_old rfl s4 rfl (Rd.tabb hr (by omega)) (by simp)) rfl ?_
      refine ne (eo_index0 rfl sl22 rfl rfl (by omega) (by omega)) rfl ?_
      refine nu (xo_setb 0 rfl s4 rfl rfl rfl (by omega)) ?_
      rintro _ _ ⟨rfl, rfl⟩
      refine go_nil ?_
      refine gq_block_end ?_
      refine gq_next ?_
      refine gc_region ?_
      refine ne (eo_add rfl rfl rfl (by omega) (by omega)) rfl ?_
      refine ne (eo_mv rfl rfl) rfl ?_
      refine go_nil ?_
      exact round2 (y + 1) (upd l1 (y) (f (((((y : Int) * W) + (x : Int))).toNat))) ⟨by omega, fun k hk => by by_cases e : k = y; (· subst e; rw [upd_eq]); rw [upd_ne e, hL k (by omega)]⟩ (by omega) ⟨rfl, rfl, rfl, rfl, rfl, rfl, rfl, rfl, rfl, rfl, trivial⟩ (List.Sublist.refl _)
    ·
      replace hc1 := of_decide_eq_false hc1
      rw [show tab (H).toNat (bv l1) = tab (H).toNat (bv (fun k : Nat => f ((k : Int) * W + x).toNat)) from tabb_ext (fun k hk => hL k (by omega))]
      refine gc_exit ?_
      refine gq_then_exit ?_
      refine gq_then_exit ?_
      refine gq_block_hit ?_
      refine gq_next ?_
      refine gc_seq ?_
      refine gc_region ?_
      refine ne (eo_mv rfl rfl) rfl ?_
      refine ne (eo_mv rfl rfl) rfl ?_
      refine nx (xo_freshTv rfl rfl hE rfl (fun W1 hO => hop _ _ _ _ W1 (by omega) (by omega) (cell_old hO hcr (by simp)) (tabs_rd hO 0 rfl))) rfl ?_
      rintro _ _ ⟨S51, ⟨A51, k51, rfl, hk51, hS51⟩, rfl⟩
      refine ne (eo_len rfl Try.underlying22 rfl) rfl ?_
      refine ne (eo_mv rfl rfl) rfl ?_
      refine go_nil ?_
      refine gq_next ?_
      refine gc_block ?_
      refine loop2 (fun (y : Nat) (f1 : Nat → Bool) => (y : Int) ≤ H ∧ ∀ j : Nat, j < (W * H).toNat → f1 j = if (j : Int) % W < x ∨ ((j : Int) % W = x ∧ (j : Int) / W < y) then colsF W op f j else false) (fun (y : Nat) (f1 : Nat → Bool) => (H - y).toNat) (fun (y : Nat) (f1 : Nat → Bool) => [(1, .func (.func fo) #[] #[.pointer (some ⟨gr, 0, none⟩)]), (2, .pointer (some ⟨g2, 0, none⟩)), (4, .pointer (some ⟨g4, 0, none⟩)), (5, .pointer (some ⟨g5, 0, none⟩)), (6, .slice (some ⟨g24, 0, none⟩) ((H).toNat) ((H).toNat)), (7, .int .i64 (x : Int)), (26, .int .i64 W), (27, .int .i64 (x : Int)), (51, .slice A51 H.toNat k51), (52, .int .i64 ((H.toNat : Nat) : Int)), (53, .int .i64 (y : Int))]) (fun (y : Nat) (f1 : Nat → Bool) => ⟨g24, 4, tab ((H).toNat) (bv (fun k : Nat => f ((k : Int) * W + x).toNat)) ++ []⟩ :: ⟨g5, 24, [.int .i64 W, .int .i64 H, .slice (some ⟨g20, 0, none⟩) (((W * H)).toNat) (((W * H)).toNat)]⟩ :: ⟨g20, 4, tab (((W * H)).toNat) (bv f1) ++ []⟩ :: ⟨g4, 24, [.int .i64 0, .int .i64 0, .slice none 0 0]⟩ :: ⟨g2, 24, [.int .i64 W, .int .i64 H, .slice A n c]⟩ :: S51) 0 f1 ⟨by omega, cols_in v1 hn0 (by simp) hI⟩ ⟨rfl, rfl, rfl, rfl, rfl, rfl, rfl, rfl, rfl, rfl, rfl, trivial⟩ (List.Sublist.refl _) ?_
      rintro y f1 ⟨hy, hI⟩
      refine gc_seq ?_
      refine gc_region ?_
      refine ne (eo_lss rfl rfl rfl) rfl ?_
      refine go_nil ?_
      refine gq_next ?_
      refine gc_seq ?_
      refine gc_cond rfl (fun hc2 => ?_) (fun hc2 => ?_)
      ·
        replace hc2 := of_decide_eq_true hc2
        have hb := idx_bd (W := W) (H := H) (x := x) (y := y) (by omega) (by omega) (by omega) (by omega)
        refine gc_skip ?_
        refine gq_next ?_
        refine gc_seq ?_
        refine gc_block ?_
        refine gc_seq ?_
        refine gc_region ?_
        refine ne (eo_mv rfl rfl) rfl ?_
        refine ne (eo_indexS rfl sl22 rfl rfl (fun W1 hO => (hS51.rd (hO.tl 5 rfl (List.Sublist.refl _)))) (by simp) (by omega) (by omega)) rfl ?_
        refine ne (eo_loadS rfl s4 rfl (fun W1 hO => Rd.tabb (hS51.rd (hO.tl 5 rfl (List.Sublist.refl _))) (by omega))) rfl ?_
        refine ne (eo_as rfl rfl) rfl ?_
        refine ne (eo_as rfl rfl) rfl ?_
        refine go_nil ?_
        refine gq_next ?_
        refine gc_region ?_
        refine ne (eo_field rfl f24_2 rfl) rfl ?_
        refine ne (eo_load 1 rfl s22 rfl rfl rfl rfl) rfl ?_
        refine ne (eo_mv rfl rfl) rfl ?_
        refine ne (eo_field rfl f24_0 rfl) rfl ?_
        refine ne (eo_load 4 rfl s3 rfl rfl rfl rfl) rfl ?_
        refine ne (eo_mul rfl rfl rfl (by omega) (by omega)) rfl ?_
        refine ne (eo_mv rfl rfl) rfl ?_
        refine ne (eo_add rfl rfl rfl (by omega) (by omega)) rfl ?_
        refine ne (eo_mv rfl rfl) rfl ?_
        refine ne (eo_index0 rfl sl22 rfl rfl (by omega) (by omega)) rfl ?_
        refine nu (xo_setb 2 rfl s4 rfl rfl rfl (by omega)) ?_
        rintro _ _ ⟨rfl, rfl⟩
        refine go_nil ?_
        refine gq_block_end ?_
        refine gq_next ?_
        refine gc_region ?_
        refine ne (eo_add rfl rfl rfl (by omega) (by omega)) rfl ?_
        refine ne (eo_mv rfl rfl) rfl ?_
        refine go_nil ?_
        exact round2 (y + 1) (upd f1 (((((y : Int) * W) + (x : Int))).toNat) ((op (fun k : Nat => f ((k : Int) * W + x).toNat)) (y))) ⟨by omega, cols_step v1 hn0 (by omega) (by omega) (by omega) (cols_at (by omega) (by omega) (by omega)) hI⟩ (by omega) ⟨rfl, rfl, rfl, rfl, rfl, rfl, rfl, rfl, rfl, rfl, rfl, trivial⟩ (List.Sublist.refl _)
      ·
        replace hc2 := of_decide_eq_false hc2
        refine gc_exit ?_
        refine gq_then_exit ?_
        refine gq_then_exit ?_
        refine gq_block_hit ?_
        refine gq_block_end ?_
        refine gq_next ?_
        refine gc_region ?_
        refine ne (eo_add rfl rfl rfl (by omega) (by omega)) rfl ?_
        refine ne (eo_mv rfl rfl) rfl ?_
        refine go_nil ?_
        exact round3 (x + 1) f1 (fun k : Nat => f ((k : Int) * W + x).toNat) ⟨by omega, cols_out v1 hn0 (by omega) hI⟩ (by omega) ⟨rfl, rfl, rfl, rfl, rfl, rfl, rfl, trivial⟩ (List.Sublist.cons_cons _ (List.Sublist.cons_cons _ (List.Sublist.cons_cons _ (List.Sublist.cons_cons _ (List.Sublist.cons_cons _ (List.nil_sublist _))))))
  ·
    replace hc0 := of_decide_eq_false hc0
    refine gc_exit ?_
    refine gq_then_exit ?_
    refine gq_then_exit ?_
    refine gq_block_hit ?_
    refine gq_next ?_
    refine gc_seq ?_
    refine gc_region ?_
    refine ne (eo_loadA 1 rfl a24 rfl rfl rfl rfl) rfl ?_
    refine nu (xo_storeA 3 rfl a24 rfl rfl (ones_cons (by first | rfl | exact AS.one) (ones_cons (by first | rfl | exact AS.one) (ones_cons (by first | rfl | exact AS.one) ones_nil))) rfl rfl rfl rfl) ?_
    rintro _ _ ⟨rfl, rfl⟩
    refine go_nil ?_
    refine gq_next ?_
    refine gc_ret ?_
    refine gq_results (resC 3 rfl a24 rfl rfl rfl rfl) ?_
    rw [show tab (W * H).toNat (bv f1) = _ from tabb_ext (fun j hj => by rw [hI j hj, if_pos (by have := cell_b v1 hn0 hj; omega)])]
    exact fun W1 hO => ⟨_, _, rfl, ⟨_, _, _, rfl, rfl, by omega⟩, hO.pick 2 rfl⟩

end Go.Proofs.Ytmkdfbaklookdaa
