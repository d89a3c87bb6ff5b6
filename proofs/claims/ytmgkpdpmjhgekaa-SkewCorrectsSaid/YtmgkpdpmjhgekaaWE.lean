/-
  The walks of the functions of package skew and of the document's answer (part E): what each call returns, at every argument.
-/
import Derived.Test.YtmgkpdpmjhgekaaWD
namespace Go.Proofs.Ytmgkpdpmjhgekaa
open Go.RowKit Go.Eng

open Go.Bs
theorem en18 : Ent Try.prog 18 := ent_of Try.func18 (by kernel_rfl) rfl
theorem en19 : Ent Try.prog 19 := ent_of Try.func19 (by kernel_rfl) rfl
theorem en14 : Ent Try.prog 14 := ent_of Try.func14 (by kernel_rfl) rfl
theorem en20 : Ent Try.prog 20 := ent_of Try.func20 (by kernel_rfl) rfl
theorem en15 : Ent Try.prog 15 := ent_of Try.func15 (by kernel_rfl) rfl

/-- barscan/skew.Estimate -/
theorem est_c (W H : Int) (A : Option Addr) (n c : Nat) (f : Nat → Bool) (most : Int) (den : Int) (w : World) (hr : Rd w A (tab n (bv f))) (hnc : n ≤ c) :
    Calls Try.prog 19 #[.agg #[.int .i64 W, .int .i64 H, .slice A n c], .int .i64 most, .int .i64 den] w (fun e w' => e = .returned (.tuple #[.int .i64 (estR ⟨W, H, n, f⟩ most den).1, .int .i64 (estR ⟨W, H, n, f⟩ most den).2]) ∧ Ext w w') := by
  refine calls_enter (N := ⟨59, []⟩) [] ([]) Try.func19 rfl rfl rfl (Ow.start _) ?_
  refine gc_seq ?_
  refine gc_region ?_
  refine nx (xo_boxA rfl rfl) rfl ?_
  rintro _ _ ⟨g3, rfl, rfl⟩
  refine ne (eo_as rfl rfl) rfl ?_
  refine ne (eo_as rfl rfl) rfl ?_
  refine go_nil ?_
  refine gq_next ?_
  refine gc_seq ?_
  refine gc_seq ?_
  refine gc_region ?_
  refine ne (eo_loadA 0 rfl a24 rfl rfl rfl rfl) rfl ?_
  refine ne (eo_call rfl en30 rfl (fun W1 hO => check_c _ _ _ _ _ W1  )) rfl ?_
  refine ne (eo_neq rfl rfl rfl) rfl ?_
  refine go_nil ?_
  refine gq_next ?_
  refine gc_cond rfl (fun hc0 => ?_) (fun hc0 => ?_)
  ·
    replace hc0 := of_decide_eq_true hc0
    have hv := chk_f hc0
    refine gc_seq ?_
    refine gc_region ?_
    refine ne (eo_as rfl rfl) rfl ?_
    refine ne (eo_as rfl rfl) rfl ?_
    refine go_nil ?_
    refine gq_next ?_
    refine gc_ret ?_
    refine gq_then_ret ?_
    refine gq_results (res2 rfl rfl rfl) ?_
    exact fun W1 hO => ⟨ret_ints (estR_no hv).symm, hO.toExt⟩
  ·
    replace hc0 := of_decide_eq_false hc0
    have hv := chk_t hc0
    obtain ⟨v1, v2, v3, v4, v5, v6⟩ := vldB_iff.1 hv
    have v7 := vld_pos hv
    refine gc_skip ?_
    refine gq_next ?_
    refine gc_seq ?_
    refine gc_seq ?_
    refine gc_region ?_
    refine ne (eo_mv rfl rfl) rfl ?_
    refine ne (eo_lss rfl rfl rfl) rfl ?_
    refine ne (eo_mv rfl rfl) rfl ?_
    refine ng rfl rfl (fun h => eo_mv rfl rfl) rfl ?_
    refine ng rfl rfl (fun h => eo_gtr rfl (ev_if h rfl) rfl) rfl ?_
    refine ne (eo_or rfl rfl (fun hb => ev_if hb rfl)) rfl ?_
    refine ne (eo_mv rfl rfl) rfl ?_
    refine ng rfl rfl (fun h => eo_mv rfl rfl) rfl ?_
    refine ng rfl rfl (fun h => eo_lss rfl (ev_if h rfl) rfl) rfl ?_
    refine ne (eo_or rfl rfl (fun hb => ev_if hb rfl)) rfl ?_
    refine ne (eo_mv rfl rfl) rfl ?_
    refine ng rfl rfl (fun h => eo_mv rfl rfl) rfl ?_
    refine ng rfl rfl (fun h => eo_gtr rfl (ev_if h rfl) rfl) rfl ?_
    refine ne (eo_or rfl rfl (fun hb => ev_if hb rfl)) rfl ?_
    refine go_nil ?_
    refine gq_next ?_
    refine gc_cond rfl (fun hc1 => ?_) (fun hc1 => ?_)
    ·
      have hd1 := (or_t hc1).imp (fun h => (or_t h).imp (fun h => (or_t h).imp (fun h => of_decide_eq_true h) (fun h => of_decide_eq_true h)) (fun h => of_decide_eq_true h)) (fun h => of_decide_eq_true h)
      refine gc_seq ?_
      refine gc_region ?_
      refine ne (eo_as rfl rfl) rfl ?_
      refine ne (eo_as rfl rfl) rfl ?_
      refine go_nil ?_
      refine gq_next ?_
      refine gc_ret ?_
      refine gq_then_ret ?_
      refine gq_results (res2 rfl rfl rfl) ?_
      exact fun W1 hO => ⟨ret_ints (estR_range hv (by omega)).symm, hO.toExt⟩
    ·
      have hd1 := (or_f hc1).imp (fun h => (or_f h).imp (fun h => (or_f h).imp (fun h => of_decide_eq_false h) (fun h => of_decide_eq_false h)) (fun h => of_decide_eq_false h)) (fun h => of_decide_eq_false h)
      refine gc_skip ?_
      refine gq_next ?_
      refine gc_seq ?_
      refine gc_region ?_
      refine ne (eo_as rfl rfl) rfl ?_
      refine ne (eo_as rfl rfl) rfl ?_
      refine go_nil ?_
      refine gq_next ?_
      refine gc_seq ?_
      refine gc_seq ?_
      refine gc_region ?_
      refine ne (eo_mv rfl rfl) rfl ?_
      refine ne (eo_mul rfl rfl rfl (by omega) (by omega)) rfl ?_
      refine ne (eo_add rfl rfl rfl (by omega) (by omega)) rfl ?_
      refine ne (eo_mv rfl rfl) rfl ?_
      refine go_nil ?_
      refine gq_next ?_
      refine gc_block ?_
      refine loop3 (fun (j : Nat) (b : Int) (q : Int) => (j : Int) ≤ 2 * most + 1 ∧ b = (bst (fun k : Int => enI ⟨W, H, n, f⟩ k den) j).1 ∧ q = (bst (fun k : Int => enI ⟨W, H, n, f⟩ k den) j).2) (fun (j : Nat) (b : Int) (q : Int) => (2 * most + 1 - j).toNat) (fun (j : Nat) (b : Int) (q : Int) => [(2, .int .i64 den), (3, .pointer (some ⟨g3, 0, none⟩)), (8, .int .i64 b), (9, .int .i64 q), (32, .int .i64 ((2 * most) + 1)), (33, .int .i64 (j : Int))]) (fun (j : Nat) (b : Int) (q : Int) => [⟨g3, 24, [.int .i64 W, .int .i64 H, .slice A n c]⟩]) 0 0 (-1) ⟨by omega, rfl, rfl⟩ ⟨rfl, rfl, rfl, rfl, rfl, rfl, trivial⟩ (List.Sublist.refl _) ?_
      rintro j b q ⟨hj, hb, hq⟩
      refine gc_seq ?_
      refine gc_region ?_
      refine ne (eo_lss rfl rfl rfl) rfl ?_
      refine go_nil ?_
      refine gq_next ?_
      refine gc_seq ?_
      refine gc_cond rfl (fun hc2 => ?_) (fun hc2 => ?_)
      ·
        replace hc2 := of_decide_eq_true hc2
        refine gc_skip ?_
        refine gq_next ?_
        refine gc_seq ?_
        refine gc_block ?_
        refine gc_seq ?_
        refine gc_region ?_
        refine ne (eo_mv rfl rfl) rfl ?_
        refine ne (eo_as rfl rfl) rfl ?_
        refine go_nil ?_
        refine gq_next ?_
        refine gc_seq ?_
        refine gc_region ?_
        refine ne (eo_mv rfl rfl) rfl ?_
        refine ne (eo_add rfl rfl rfl (by omega) (by omega)) rfl ?_
        refine ne (eo_quo rfl rfl rfl (by omega) (by omega) (by omega)) rfl ?_
        refine ne (eo_as rfl rfl) rfl ?_
        refine go_nil ?_
        refine gq_next ?_
        refine gc_seq ?_
        refine gc_seq ?_
        refine gc_region ?_
        refine ne (eo_mv rfl rfl) rfl ?_
        refine ne (eo_gtr rfl rfl rfl) rfl ?_
        refine ne (eo_mv rfl rfl) rfl ?_
        refine ng rfl rfl (fun h => eo_mv rfl rfl) rfl ?_
        refine ng rfl rfl (fun h => eo_rem rfl (ev_if h rfl) rfl (by have hg0 := of_decide_eq_true h; omega) (by have hg0 := of_decide_eq_true h; omega)) rfl ?_
        refine ng rfl rfl (fun h => eo_eql rfl (ev_if h rfl) rfl) rfl ?_
        refine ne (eo_and rfl rfl (fun hb => ev_if hb rfl)) rfl ?_
        refine go_nil ?_
        refine gq_next ?_
        refine gc_cond rfl (fun hc3 => ?_) (fun hc3 => ?_)
        ·
          have hd3 := (and_t hc3).imp (fun h => of_decide_eq_true h) (fun h => of_decide_eq_true h)
          have hn := numJ_neg hd3
          have hsl : slopeB (-((((j : Int) + 1)) / 2)) den = true := slopeB_iff.2 (by omega)
          refine gc_region ?_
          refine ne (eo_mv rfl rfl) rfl ?_
          refine ne (eo_neg rfl rfl (by omega) (by omega)) rfl ?_
          refine ne (eo_as rfl rfl) rfl ?_
          refine go_nil ?_
          refine gq_next ?_
          refine gc_seq ?_
          refine gc_region ?_
          refine ne (eo_loadA 0 rfl a24 rfl rfl rfl rfl) rfl ?_
          refine ne (eo_mv rfl rfl) rfl ?_
          refine ne (eo_mv rfl rfl) rfl ?_
          refine ne (eo_call rfl en36 rfl (fun W1 hO => en_c _ _ _ _ _ _ _ _ W1 (hr.old0 hO) (by assumption) (by assumption) (by omega))) rfl ?_
          refine ne (eo_as rfl rfl) rfl ?_
          refine go_nil ?_
          refine gq_next ?_
          refine gc_seq ?_
          refine gc_region ?_
          refine ne (eo_mv rfl rfl) rfl ?_
          refine ne (eo_mv rfl rfl) rfl ?_
          refine ne (eo_gtr rfl rfl rfl) rfl ?_
          refine go_nil ?_
          refine gq_next ?_
          refine gc_cond rfl (fun hc4 => ?_) (fun hc4 => ?_)
          ·
            replace hc4 := of_decide_eq_true hc4
            refine gc_region ?_
            refine ne (eo_mv rfl rfl) rfl ?_
            refine ne (eo_mv rfl rfl) rfl ?_
            refine ne (eo_as rfl rfl) rfl ?_
            refine ne (eo_as rfl rfl) rfl ?_
            refine go_nil ?_
            refine gq_block_end ?_
            refine gq_next ?_
            refine gc_region ?_
            refine ne (eo_add rfl rfl rfl (by omega) (by omega)) rfl ?_
            refine ne (eo_mv rfl rfl) rfl ?_
            refine go_nil ?_
            exact round3 (j + 1) (-(((j : Int) + 1) / 2)) (enI ⟨W, H, n, f⟩ (-(((j : Int) + 1) / 2)) den) ⟨by omega, by have h := bst_yes (e := (fun k : Int => enI ⟨W, H, n, f⟩ k den)) (j := j) hq (by rw [hn]; exact hc4); rw [hn] at h; exact h⟩ (by omega) ⟨rfl, rfl, rfl, rfl, rfl, rfl, trivial⟩ (List.Sublist.refl _)
          ·
            replace hc4 := of_decide_eq_false hc4
            refine gc_skip ?_
            refine gq_block_end ?_
            refine gq_next ?_
            refine gc_region ?_
            refine ne (eo_add rfl rfl rfl (by omega) (by omega)) rfl ?_
            refine ne (eo_mv rfl rfl) rfl ?_
            refine go_nil ?_
            exact round3 (j + 1) b q ⟨by omega, bst_no (e := (fun k : Int => enI ⟨W, H, n, f⟩ k den)) (j := j) hb hq (by rw [hn]; exact hc4)⟩ (by omega) ⟨rfl, rfl, rfl, rfl, rfl, rfl, trivial⟩ (List.Sublist.refl _)
        ·
          have hd3 := (and_f hc3).imp (fun h => of_decide_eq_false h) (fun h => of_decide_eq_false h)
          have hn := numJ_pos hd3
          have hsl : slopeB ((((j : Int) + 1)) / 2) den = true := slopeB_iff.2 (by omega)
          refine gc_skip ?_
          refine gq_next ?_
          refine gc_seq ?_
          refine gc_region ?_
          refine ne (eo_loadA 0 rfl a24 rfl rfl rfl rfl) rfl ?_
          refine ne (eo_mv rfl rfl) rfl ?_
          refine ne (eo_mv rfl rfl) rfl ?_
          refine ne (eo_call rfl en36 rfl (fun W1 hO => en_c _ _ _ _ _ _ _ _ W1 (hr.old0 hO) (by assumption) (by assumption) (by omega))) rfl ?_
          refine ne (eo_as rfl rfl) rfl ?_
          refine go_nil ?_
          refine gq_next ?_
          refine gc_seq ?_
          refine gc_region ?_
          refine ne (eo_mv rfl rfl) rfl ?_
          refine ne (eo_mv rfl rfl) rfl ?_
          refine ne (eo_gtr rfl rfl rfl) rfl ?_
          refine go_nil ?_
          refine gq_next ?_
          refine gc_cond rfl (fun hc4 => ?_) (fun hc4 => ?_)
          ·
            replace hc4 := of_decide_eq_true hc4
            refine gc_region ?_
            refine ne (eo_mv rfl rfl) rfl ?_
            refine ne (eo_mv rfl rfl) rfl ?_
            refine ne (eo_as rfl rfl) rfl ?_
            refine ne (eo_as rfl rfl) rfl ?_
            refine go_nil ?_
            refine gq_block_end ?_
            refine gq_next ?_
            refine gc_region ?_
            refine ne (eo_add rfl rfl rfl (by omega) (by omega)) rfl ?_
            refine ne (eo_mv rfl rfl) rfl ?_
            refine go_nil ?_
            exact round3 (j + 1) (((j : Int) + 1) / 2) (enI ⟨W, H, n, f⟩ (((j : Int) + 1) / 2) den) ⟨by omega, by have h := bst_yes (e := (fun k : Int => enI ⟨W, H, n, f⟩ k den)) (j := j) hq (by rw [hn]; exact hc4); rw [hn] at h; exact h⟩ (by omega) ⟨rfl, rfl, rfl, rfl, rfl, rfl, trivial⟩ (List.Sublist.refl _)
          ·
            replace hc4 := of_decide_eq_false hc4
            refine gc_skip ?_
            refine gq_block_end ?_
            refine gq_next ?_
            refine gc_region ?_
            refine ne (eo_add rfl rfl rfl (by omega) (by omega)) rfl ?_
            refine ne (eo_mv rfl rfl) rfl ?_
            refine go_nil ?_
            exact round3 (j + 1) b q ⟨by omega, bst_no (e := (fun k : Int => enI ⟨W, H, n, f⟩ k den)) (j := j) hb hq (by rw [hn]; exact hc4)⟩ (by omega) ⟨rfl, rfl, rfl, rfl, rfl, rfl, trivial⟩ (List.Sublist.refl _)
      ·
        replace hc2 := of_decide_eq_false hc2
        refine gc_exit ?_
        refine gq_then_exit ?_
        refine gq_then_exit ?_
        refine gq_block_hit ?_
        refine gq_next ?_
        refine gc_seq ?_
        refine gc_region ?_
        refine ne (eo_mv rfl rfl) rfl ?_
        refine ne (eo_as rfl rfl) rfl ?_
        refine ne (eo_as rfl rfl) rfl ?_
        refine go_nil ?_
        refine gq_next ?_
        refine gc_ret ?_
        refine gq_results (res2 rfl rfl rfl) ?_
        exact fun W1 hO => ⟨ret_ints (by rw [estR_ok hv (by omega), hb, show j = 2 * most.toNat + 1 by omega]), hO.toExt⟩

/-- barscan/barscanref45.Estimate -/
theorem rest_c (W H : Int) (A : Option Addr) (n c : Nat) (f : Nat → Bool) (most : Int) (den : Int) (w : World) (hr : Rd w A (tab n (bv f)))  :
    Calls Try.prog 20 #[.agg #[.int .i64 W, .int .i64 H, .slice A n c], .int .i64 most, .int .i64 den] w (fun e w' => e = .returned (.tuple #[.int .i64 (estR ⟨W, H, n, f⟩ most den).1, .int .i64 (estR ⟨W, H, n, f⟩ most den).2]) ∧ Ext w w') := by
  refine calls_enter (N := ⟨64, []⟩) [] ([]) Try.func20 rfl rfl rfl (Ow.start _) ?_
  refine gc_seq ?_
  refine gc_region ?_
  refine nx (xo_boxA rfl rfl) rfl ?_
  rintro _ _ ⟨g3, rfl, rfl⟩
  refine ne (eo_as rfl rfl) rfl ?_
  refine ne (eo_as rfl rfl) rfl ?_
  refine go_nil ?_
  refine gq_next ?_
  refine gc_seq ?_
  refine gc_seq ?_
  refine gc_region ?_
  refine ne (eo_loadA 0 rfl a24 rfl rfl rfl rfl) rfl ?_
  refine ne (eo_call rfl en25 rfl (fun W1 hO => rcheck_c _ _ _ _ _ W1  )) rfl ?_
  refine ne (eo_neq rfl rfl rfl) rfl ?_
  refine go_nil ?_
  refine gq_next ?_
  refine gc_cond rfl (fun hc0 => ?_) (fun hc0 => ?_)
  ·
    replace hc0 := of_decide_eq_true hc0
    have hv := chk_f hc0
    refine gc_seq ?_
    refine gc_region ?_
    refine ne (eo_as rfl rfl) rfl ?_
    refine ne (eo_as rfl rfl) rfl ?_
    refine go_nil ?_
    refine gq_next ?_
    refine gc_ret ?_
    refine gq_then_ret ?_
    refine gq_results (res2 rfl rfl rfl) ?_
    exact fun W1 hO => ⟨ret_ints (estR_no hv).symm, hO.toExt⟩
  ·
    replace hc0 := of_decide_eq_false hc0
    have hv := chk_t hc0
    obtain ⟨v1, v2, v3, v4, v5, v6⟩ := vldB_iff.1 hv
    have v7 := vld_pos hv
    refine gc_skip ?_
    refine gq_next ?_
    refine gc_seq ?_
    refine gc_seq ?_
    refine gc_region ?_
    refine ne (eo_mv rfl rfl) rfl ?_
    refine ne (eo_lss rfl rfl rfl) rfl ?_
    refine ne (eo_mv rfl rfl) rfl ?_
    refine ng rfl rfl (fun h => eo_mv rfl rfl) rfl ?_
    refine ng rfl rfl (fun h => eo_gtr rfl (ev_if h rfl) rfl) rfl ?_
    refine ne (eo_or rfl rfl (fun hb => ev_if hb rfl)) rfl ?_
    refine ne (eo_mv rfl rfl) rfl ?_
    refine ng rfl rfl (fun h => eo_mv rfl rfl) rfl ?_
    refine ng rfl rfl (fun h => eo_lss rfl (ev_if h rfl) rfl) rfl ?_
    refine ne (eo_or rfl rfl (fun hb => ev_if hb rfl)) rfl ?_
    refine ne (eo_mv rfl rfl) rfl ?_
    refine ng rfl rfl (fun h => eo_mv rfl rfl) rfl ?_
    refine ng rfl rfl (fun h => eo_gtr rfl (ev_if h rfl) rfl) rfl ?_
    refine ne (eo_or rfl rfl (fun hb => ev_if hb rfl)) rfl ?_
    refine go_nil ?_
    refine gq_next ?_
    refine gc_cond rfl (fun hc1 => ?_) (fun hc1 => ?_)
    ·
      have hd1 := (or_t hc1).imp (fun h => (or_t h).imp (fun h => (or_t h).imp (fun h => of_decide_eq_true h) (fun h => of_decide_eq_true h)) (fun h => of_decide_eq_true h)) (fun h => of_decide_eq_true h)
      refine gc_seq ?_
      refine gc_region ?_
      refine ne (eo_as rfl rfl) rfl ?_
      refine ne (eo_as rfl rfl) rfl ?_
      refine go_nil ?_
      refine gq_next ?_
      refine gc_ret ?_
      refine gq_then_ret ?_
      refine gq_results (res2 rfl rfl rfl) ?_
      exact fun W1 hO => ⟨ret_ints (estR_range hv (by omega)).symm, hO.toExt⟩
    ·
      have hd1 := (or_f hc1).imp (fun h => (or_f h).imp (fun h => (or_f h).imp (fun h => of_decide_eq_false h) (fun h => of_decide_eq_false h)) (fun h => of_decide_eq_false h)) (fun h => of_decide_eq_false h)
      refine gc_skip ?_
      refine gq_next ?_
      refine gc_seq ?_
      refine gc_region ?_
      refine ne (eo_as rfl rfl) rfl ?_
      refine ne (eo_as rfl rfl) rfl ?_
      refine go_nil ?_
      refine gq_next ?_
      refine gc_seq ?_
      refine gc_seq ?_
      refine gc_region ?_
      refine ne (eo_as rfl rfl) rfl ?_
      refine go_nil ?_
      refine gq_next ?_
      refine gc_block ?_
      refine loop3 (fun (k : Nat) (b : Int) (q : Int) => (k : Int) ≤ most + 1 ∧ b = (bst (fun k : Int => enI ⟨W, H, n, f⟩ k den) (oddJ k)).1 ∧ q = (bst (fun k : Int => enI ⟨W, H, n, f⟩ k den) (oddJ k)).2) (fun (k : Nat) (b : Int) (q : Int) => (most + 1 - k).toNat) (fun (k : Nat) (b : Int) (q : Int) => [(1, .int .i64 most), (2, .int .i64 den), (3, .pointer (some ⟨g3, 0, none⟩)), (8, .int .i64 b), (9, .int .i64 q), (10, .int .i64 (k : Int))]) (fun (k : Nat) (b : Int) (q : Int) => [⟨g3, 24, [.int .i64 W, .int .i64 H, .slice A n c]⟩]) 0 0 (-1) ⟨by omega, rfl, rfl⟩ ⟨rfl, rfl, rfl, rfl, rfl, rfl, trivial⟩ (List.Sublist.refl _) ?_
      rintro k b q ⟨hk, hb, hq⟩
      refine gc_seq ?_
      refine gc_seq ?_
      refine gc_region ?_
      refine ne (eo_mv rfl rfl) rfl ?_
      refine ne (eo_mv rfl rfl) rfl ?_
      refine ne (eo_leq rfl rfl rfl) rfl ?_
      refine go_nil ?_
      refine gq_next ?_
      refine gc_cond rfl (fun hc2 => ?_) (fun hc2 => ?_)
      ·
        replace hc2 := of_decide_eq_true hc2
        have hs1 : slopeB (k : Int) den = true := slopeB_iff.2 (by omega)
        have hs2 : slopeB (0 - (k : Int)) den = true := slopeB_iff.2 (by omega)
        have he1 : (energyR ⟨W, H, n, f⟩ (k : Int) den).1 = (fun k : Int => enI ⟨W, H, n, f⟩ k den) (k : Int) := by rw [energyR_ok hv hs1]
        have he2 : (energyR ⟨W, H, n, f⟩ (0 - (k : Int)) den).1 = (fun k : Int => enI ⟨W, H, n, f⟩ k den) (0 - (k : Int)) := by rw [energyR_ok hv hs2]
        refine gc_skip ?_
        refine gq_next ?_
        refine gc_seq ?_
        refine gc_block ?_
        refine gc_seq ?_
        refine gc_region ?_
        refine ne (eo_loadA 0 rfl a24 rfl rfl rfl rfl) rfl ?_
        refine ne (eo_mv rfl rfl) rfl ?_
        refine ne (eo_mv rfl rfl) rfl ?_
        refine ne (eo_call rfl en18 rfl (fun W1 hO => renergy_c _ _ _ _ _ _ _ _ W1 (hr.old0 hO) )) rfl ?_
        refine ne (eo_mv rfl rfl) rfl ?_
        refine ne (eo_extract rfl rfl rfl) rfl ?_
        refine ne (eo_extract rfl rfl rfl) rfl ?_
        refine ne (eo_as rfl rfl) rfl ?_
        refine ne (eo_as rfl rfl) rfl ?_
        refine go_nil ?_
        refine gq_next ?_
        refine gc_seq ?_
        refine gc_region ?_
        refine ne (eo_loadA 0 rfl a24 rfl rfl rfl rfl) rfl ?_
        refine ne (eo_mv rfl rfl) rfl ?_
        refine ne (eo_sub rfl rfl rfl (by omega) (by omega)) rfl ?_
        refine ne (eo_mv rfl rfl) rfl ?_
        refine ne (eo_call rfl en18 rfl (fun W1 hO => renergy_c _ _ _ _ _ _ _ _ W1 (hr.old0 hO) )) rfl ?_
        refine ne (eo_mv rfl rfl) rfl ?_
        refine ne (eo_extract rfl rfl rfl) rfl ?_
        refine ne (eo_extract rfl rfl rfl) rfl ?_
        refine ne (eo_as rfl rfl) rfl ?_
        refine ne (eo_as rfl rfl) rfl ?_
        refine go_nil ?_
        refine gq_next ?_
        refine gc_seq ?_
        refine gc_seq ?_
        refine gc_region ?_
        refine ne (eo_mv rfl rfl) rfl ?_
        refine ne (eo_mv rfl rfl) rfl ?_
        refine ne (eo_gtr rfl rfl rfl) rfl ?_
        refine go_nil ?_
        refine gq_next ?_
        refine gc_cond rfl (fun hc3 => ?_) (fun hc3 => ?_)
        ·
          replace hc3 := of_decide_eq_true hc3
          refine gc_region ?_
          refine ne (eo_mv rfl rfl) rfl ?_
          refine ne (eo_mv rfl rfl) rfl ?_
          refine ne (eo_as rfl rfl) rfl ?_
          refine ne (eo_as rfl rfl) rfl ?_
          refine go_nil ?_
          refine gq_next ?_
          refine gc_seq ?_
          refine gc_region ?_
          refine ne (eo_mv rfl rfl) rfl ?_
          refine ne (eo_mv rfl rfl) rfl ?_
          refine ne (eo_gtr rfl rfl rfl) rfl ?_
          refine go_nil ?_
          refine gq_next ?_
          refine gc_cond rfl (fun hc4 => ?_) (fun hc4 => ?_)
          ·
            replace hc4 := of_decide_eq_true hc4
            refine gc_region ?_
            refine ne (eo_mv rfl rfl) rfl ?_
            refine ne (eo_sub rfl rfl rfl (by omega) (by omega)) rfl ?_
            refine ne (eo_mv rfl rfl) rfl ?_
            refine ne (eo_as rfl rfl) rfl ?_
            refine ne (eo_as rfl rfl) rfl ?_
            refine go_nil ?_
            refine gq_block_end ?_
            refine gq_next ?_
            refine gc_region ?_
            refine ne (eo_mv rfl rfl) rfl ?_
            refine ne (eo_add rfl rfl rfl (by omega) (by omega)) rfl ?_
            refine ne (eo_as rfl rfl) rfl ?_
            refine go_nil ?_
            exact round3 (k + 1) (0 - (k : Int)) ((energyR ⟨W, H, n, f⟩ (0 - (k : Int)) den).1) ⟨by omega, est_yy (e := (fun k : Int => enI ⟨W, H, n, f⟩ k den)) hb hq he1 he2 hc3 hc4⟩ (by omega) ⟨rfl, rfl, rfl, rfl, rfl, rfl, trivial⟩ (List.Sublist.refl _)
          ·
            replace hc4 := of_decide_eq_false hc4
            refine gc_skip ?_
            refine gq_block_end ?_
            refine gq_next ?_
            refine gc_region ?_
            refine ne (eo_mv rfl rfl) rfl ?_
            refine ne (eo_add rfl rfl rfl (by omega) (by omega)) rfl ?_
            refine ne (eo_as rfl rfl) rfl ?_
            refine go_nil ?_
            exact round3 (k + 1) (k : Int) ((energyR ⟨W, H, n, f⟩ (k : Int) den).1) ⟨by omega, est_yn (e := (fun k : Int => enI ⟨W, H, n, f⟩ k den)) hb hq he1 he2 hc3 hc4⟩ (by omega) ⟨rfl, rfl, rfl, rfl, rfl, rfl, trivial⟩ (List.Sublist.refl _)
        ·
          replace hc3 := of_decide_eq_false hc3
          refine gc_skip ?_
          refine gq_next ?_
          refine gc_seq ?_
          refine gc_region ?_
          refine ne (eo_mv rfl rfl) rfl ?_
          refine ne (eo_mv rfl rfl) rfl ?_
          refine ne (eo_gtr rfl rfl rfl) rfl ?_
          refine go_nil ?_
          refine gq_next ?_
          refine gc_cond rfl (fun hc4 => ?_) (fun hc4 => ?_)
          ·
            replace hc4 := of_decide_eq_true hc4
            refine gc_region ?_
            refine ne (eo_mv rfl rfl) rfl ?_
            refine ne (eo_sub rfl rfl rfl (by omega) (by omega)) rfl ?_
            refine ne (eo_mv rfl rfl) rfl ?_
            refine ne (eo_as rfl rfl) rfl ?_
            refine ne (eo_as rfl rfl) rfl ?_
            refine go_nil ?_
            refine gq_block_end ?_
            refine gq_next ?_
            refine gc_region ?_
            refine ne (eo_mv rfl rfl) rfl ?_
            refine ne (eo_add rfl rfl rfl (by omega) (by omega)) rfl ?_
            refine ne (eo_as rfl rfl) rfl ?_
            refine go_nil ?_
            exact round3 (k + 1) (0 - (k : Int)) ((energyR ⟨W, H, n, f⟩ (0 - (k : Int)) den).1) ⟨by omega, est_ny (e := (fun k : Int => enI ⟨W, H, n, f⟩ k den)) hb hq he1 he2 hc3 hc4⟩ (by omega) ⟨rfl, rfl, rfl, rfl, rfl, rfl, trivial⟩ (List.Sublist.refl _)
          ·
            replace hc4 := of_decide_eq_false hc4
            refine gc_skip ?_
            refine gq_block_end ?_
            refine gq_next ?_
            refine gc_region ?_
            refine ne (eo_mv rfl rfl) rfl ?_
            refine ne (eo_add rfl rfl rfl (by omega) (by omega)) rfl ?_
            refine ne (eo_as rfl rfl) rfl ?_
            refine go_nil ?_
            exact round3 (k + 1) b q ⟨by omega, est_nn (e := (fun k : Int => enI ⟨W, H, n, f⟩ k den)) hb hq he1 he2 hc3 hc4⟩ (by omega) ⟨rfl, rfl, rfl, rfl, rfl, rfl, trivial⟩ (List.Sublist.refl _)
      ·
        replace hc2 := of_decide_eq_false hc2
        refine gc_exit ?_
        refine gq_then_exit ?_
        refine gq_then_exit ?_
        refine gq_block_hit ?_
        refine gq_next ?_
        refine gc_seq ?_
        refine gc_region ?_
        refine ne (eo_mv rfl rfl) rfl ?_
        refine ne (eo_as rfl rfl) rfl ?_
        refine ne (eo_as rfl rfl) rfl ?_
        refine go_nil ?_
        refine gq_next ?_
        refine gc_ret ?_
        refine gq_results (res2 rfl rfl rfl) ?_
        exact fun W1 hO => ⟨ret_ints (by rw [estR_ok hv (by omega), hb, show oddJ k = 2 * most.toNat + 1 by unfold oddJ; omega]), hO.toExt⟩

/-- barscan/skew.Deskew -/
theorem desk_x (W H : Int) (A : Option Addr) (n c : Nat) (f : Nat → Bool) (most : Int) (den : Int) (w : World) (hr : Rd w A (tab n (bv f))) (hnc : n ≤ c) :
    Calls Try.prog 21 #[.agg #[.int .i64 W, .int .i64 H, .slice A n c], .int .i64 most, .int .i64 den] w (fun e w' => ∃ v Hn, e = .returned v ∧ RX3 (deskR ⟨W, H, n, f⟩ most den) v Hn ∧ Ow [] w w' Hn) := by
  refine calls_enter (N := ⟨36, []⟩) [] ([]) Try.func21 rfl rfl rfl (Ow.start _) ?_
  refine gc_seq ?_
  refine gc_region ?_
  refine nx (xo_boxA rfl rfl) rfl ?_
  rintro _ _ ⟨g3, rfl, rfl⟩
  refine nx (xo_alloc rfl z24) rfl ?_
  rintro _ _ ⟨g6, rfl, rfl⟩
  refine ne (eo_as rfl rfl) rfl ?_
  refine ne (eo_as rfl rfl) rfl ?_
  refine go_nil ?_
  refine gq_next ?_
  refine gc_seq ?_
  refine gc_region ?_
  refine ne (eo_loadA 1 rfl a24 rfl rfl rfl rfl) rfl ?_
  refine ne (eo_mv rfl rfl) rfl ?_
  refine ne (eo_mv rfl rfl) rfl ?_
  refine ne (eo_call rfl en19 rfl (fun W1 hO => est_c _ _ _ _ _ _ _ _ W1 (hr.old0 hO) hnc)) rfl ?_
  refine ne (eo_mv rfl rfl) rfl ?_
  refine ne (eo_extract rfl rfl rfl) rfl ?_
  refine ne (eo_extract rfl rfl rfl) rfl ?_
  refine ne (eo_as rfl rfl) rfl ?_
  refine ne (eo_as rfl rfl) rfl ?_
  refine go_nil ?_
  refine gq_next ?_
  refine gc_seq ?_
  refine gc_seq ?_
  refine gc_region ?_
  refine ne (eo_mv rfl rfl) rfl ?_
  refine ne (eo_neq rfl rfl rfl) rfl ?_
  refine go_nil ?_
  refine gq_next ?_
  refine gc_cond rfl (fun hc0 => ?_) (fun hc0 => ?_)
  ·
    replace hc0 := of_decide_eq_true hc0
    refine gc_seq ?_
    refine gc_region ?_
    refine ne (eo_build rfl rfl (b24_)) rfl ?_
    refine ne (eo_mv rfl rfl) rfl ?_
    refine nu (xo_storeA 0 rfl a24 rfl rfl (ones_cons (by first | rfl | exact AS.one) (ones_cons (by first | rfl | exact AS.one) (ones_cons (by first | rfl | exact AS.one) ones_nil))) rfl rfl rfl rfl) ?_
    rintro _ _ ⟨rfl, rfl⟩
    refine ne (eo_as rfl rfl) rfl ?_
    refine ne (eo_as rfl rfl) rfl ?_
    refine go_nil ?_
    refine gq_next ?_
    refine gc_ret ?_
    refine gq_then_ret ?_
    refine gq_results (resCTT 0 rfl a24 rfl rfl rfl rfl rfl rfl) ?_
    exact fun W1 hO => rx3_nil hO (deskR_e hc0)
  ·
    replace hc0 := of_decide_eq_false hc0
    refine gc_skip ?_
    refine gq_next ?_
    refine gc_seq ?_
    refine gc_region ?_
    refine ne (eo_loadA 1 rfl a24 rfl rfl rfl rfl) rfl ?_
    refine ne (eo_mv rfl rfl) rfl ?_
    refine ne (eo_mv rfl rfl) rfl ?_
    refine nx (xo_freshT rfl en14 rfl (fun W1 hO => shear_x _ _ _ _ _ _ _ _ W1 (hr.old0 hO) )) rfl ?_
    rintro _ _ ⟨S27, ⟨A27, k27, rfl, hk27, hS27⟩, rfl⟩
    refine ne (eo_mv rfl rfl) rfl ?_
    refine ne (eo_extract rfl rfl rfl) rfl ?_
    refine ne (eo_extract rfl rfl rfl) rfl ?_
    refine nx (xo_alloc rfl z24) rfl ?_
    rintro _ _ ⟨g11, rfl, rfl⟩
    refine nu (xo_storeA 0 rfl a24 rfl rfl (ones_cons (by first | rfl | exact AS.one) (ones_cons (by first | rfl | exact AS.one) (ones_cons (by first | rfl | exact AS.one) ones_nil))) rfl rfl rfl rfl) ?_
    rintro _ _ ⟨rfl, rfl⟩
    refine ne (eo_as rfl rfl) rfl ?_
    refine go_nil ?_
    refine gq_next ?_
    refine gc_seq ?_
    refine gc_seq ?_
    refine gc_region ?_
    refine ne (eo_mv rfl rfl) rfl ?_
    refine ne (eo_neq rfl rfl rfl) rfl ?_
    refine go_nil ?_
    refine gq_next ?_
    refine gc_cond rfl (fun hc1 => ?_) (fun hc1 => ?_)
    ·
      replace hc1 := of_decide_eq_true hc1
      refine gc_seq ?_
      refine gc_region ?_
      refine ne (eo_build rfl rfl (b24_)) rfl ?_
      refine ne (eo_mv rfl rfl) rfl ?_
      refine nu (xo_storeA 1 rfl a24 rfl rfl (ones_cons (by first | rfl | exact AS.one) (ones_cons (by first | rfl | exact AS.one) (ones_cons (by first | rfl | exact AS.one) ones_nil))) rfl rfl rfl rfl) ?_
      rintro _ _ ⟨rfl, rfl⟩
      refine ne (eo_as rfl rfl) rfl ?_
      refine ne (eo_as rfl rfl) rfl ?_
      refine go_nil ?_
      refine gq_next ?_
      refine gc_ret ?_
      refine gq_then_ret ?_
      refine gq_results (resCTT 1 rfl a24 rfl rfl rfl rfl rfl rfl) ?_
      exact fun W1 hO => rx3_nil hO (deskR_s hc0 hc1)
    ·
      replace hc1 := of_decide_eq_false hc1
      refine gc_skip ?_
      refine gq_next ?_
      refine gc_seq ?_
      refine gc_region ?_
      refine ne (eo_loadA 0 rfl a24 rfl rfl rfl rfl) rfl ?_
      refine ne (eo_mv rfl rfl) rfl ?_
      refine nu (xo_storeA 1 rfl a24 rfl rfl (ones_cons (by first | rfl | exact AS.one) (ones_cons (by first | rfl | exact AS.one) (ones_cons (by first | rfl | exact AS.one) ones_nil))) rfl rfl rfl rfl) ?_
      rintro _ _ ⟨rfl, rfl⟩
      refine ne (eo_as rfl rfl) rfl ?_
      refine ne (eo_as rfl rfl) rfl ?_
      refine go_nil ?_
      refine gq_next ?_
      refine gc_ret ?_
      refine gq_results (resCTT 1 rfl a24 rfl rfl rfl rfl rfl rfl) ?_
      exact fun W1 hO => rx3_give (hO.tl 3 rfl (List.Sublist.refl _)) hk27 hS27 (deskR_ok hc0 hc1)

/-- barscan/barscanref45.Deskew -/
theorem rdesk_x (W H : Int) (A : Option Addr) (n c : Nat) (f : Nat → Bool) (most : Int) (den : Int) (w : World) (hr : Rd w A (tab n (bv f)))  :
    Calls Try.prog 22 #[.agg #[.int .i64 W, .int .i64 H, .slice A n c], .int .i64 most, .int .i64 den] w (fun e w' => ∃ v Hn, e = .returned v ∧ RX3 (deskR ⟨W, H, n, f⟩ most den) v Hn ∧ Ow [] w w' Hn) := by
  refine calls_enter (N := ⟨37, []⟩) [] ([]) Try.func22 rfl rfl rfl (Ow.start _) ?_
  refine gc_seq ?_
  refine gc_region ?_
  refine nx (xo_boxA rfl rfl) rfl ?_
  rintro _ _ ⟨g3, rfl, rfl⟩
  refine nx (xo_alloc rfl z24) rfl ?_
  rintro _ _ ⟨g6, rfl, rfl⟩
  refine ne (eo_as rfl rfl) rfl ?_
  refine ne (eo_as rfl rfl) rfl ?_
  refine go_nil ?_
  refine gq_next ?_
  refine gc_seq ?_
  refine gc_region ?_
  refine ne (eo_loadA 1 rfl a24 rfl rfl rfl rfl) rfl ?_
  refine ne (eo_mv rfl rfl) rfl ?_
  refine ne (eo_mv rfl rfl) rfl ?_
  refine ne (eo_call rfl en20 rfl (fun W1 hO => rest_c _ _ _ _ _ _ _ _ W1 (hr.old0 hO) )) rfl ?_
  refine ne (eo_mv rfl rfl) rfl ?_
  refine ne (eo_extract rfl rfl rfl) rfl ?_
  refine ne (eo_extract rfl rfl rfl) rfl ?_
  refine ne (eo_as rfl rfl) rfl ?_
  refine ne (eo_as rfl rfl) rfl ?_
  refine go_nil ?_
  refine gq_next ?_
  refine gc_seq ?_
  refine gc_seq ?_
  refine gc_region ?_
  refine ne (eo_mv rfl rfl) rfl ?_
  refine ne (eo_neq rfl rfl rfl) rfl ?_
  refine go_nil ?_
  refine gq_next ?_
  refine gc_cond rfl (fun hc0 => ?_) (fun hc0 => ?_)
  ·
    replace hc0 := of_decide_eq_true hc0
    refine gc_seq ?_
    refine gc_region ?_
    refine ne (eo_build rfl rfl (b24_)) rfl ?_
    refine ne (eo_mv rfl rfl) rfl ?_
    refine nu (xo_storeA 0 rfl a24 rfl rfl (ones_cons (by first | rfl | exact AS.one) (ones_cons (by first | rfl | exact AS.one) (ones_cons (by first | rfl | exact AS.one) ones_nil))) rfl rfl rfl rfl) ?_
    rintro _ _ ⟨rfl, rfl⟩
    refine ne (eo_as rfl rfl) rfl ?_
    refine ne (eo_as rfl rfl) rfl ?_
    refine go_nil ?_
    refine gq_next ?_
    refine gc_ret ?_
    refine gq_then_ret ?_
    refine gq_results (resCTT 0 rfl a24 rfl rfl rfl rfl rfl rfl) ?_
    exact fun W1 hO => rx3_nil hO (deskR_e hc0)
  ·
    replace hc0 := of_decide_eq_false hc0
    refine gc_skip ?_
    refine gq_next ?_
    refine gc_seq ?_
    refine gc_region ?_
    refine ne (eo_loadA 1 rfl a24 rfl rfl rfl rfl) rfl ?_
    refine ne (eo_mv rfl rfl) rfl ?_
    refine ne (eo_mv rfl rfl) rfl ?_
    refine nx (xo_freshT rfl en15 rfl (fun W1 hO => rshear_x _ _ _ _ _ _ _ _ W1 (hr.old0 hO) )) rfl ?_
    rintro _ _ ⟨S28, ⟨A28, k28, rfl, hk28, hS28⟩, rfl⟩
    refine ne (eo_mv rfl rfl) rfl ?_
    refine ne (eo_extract rfl rfl rfl) rfl ?_
    refine ne (eo_extract rfl rfl rfl) rfl ?_
    refine nx (xo_alloc rfl z24) rfl ?_
    rintro _ _ ⟨g11, rfl, rfl⟩
    refine nu (xo_storeA 0 rfl a24 rfl rfl (ones_cons (by first | rfl | exact AS.one) (ones_cons (by first | rfl | exact AS.one) (ones_cons (by first | rfl | exact AS.one) ones_nil))) rfl rfl rfl rfl) ?_
    rintro _ _ ⟨rfl, rfl⟩
    refine ne (eo_as rfl rfl) rfl ?_
    refine go_nil ?_
    refine gq_next ?_
    refine gc_seq ?_
    refine gc_seq ?_
    refine gc_region ?_
    refine ne (eo_mv rfl rfl) rfl ?_
    refine ne (eo_neq rfl rfl rfl) rfl ?_
    refine go_nil ?_
    refine gq_next ?_
    refine gc_cond rfl (fun hc1 => ?_) (fun hc1 => ?_)
    ·
      replace hc1 := of_decide_eq_true hc1
      refine gc_seq ?_
      refine gc_region ?_
      refine ne (eo_build rfl rfl (b24_)) rfl ?_
      refine ne (eo_mv rfl rfl) rfl ?_
      refine nu (xo_storeA 1 rfl a24 rfl rfl (ones_cons (by first | rfl | exact AS.one) (ones_cons (by first | rfl | exact AS.one) (ones_cons (by first | rfl | exact AS.one) ones_nil))) rfl rfl rfl rfl) ?_
      rintro _ _ ⟨rfl, rfl⟩
      refine ne (eo_as rfl rfl) rfl ?_
      refine ne (eo_as rfl rfl) rfl ?_
      refine go_nil ?_
      refine gq_next ?_
      refine gc_ret ?_
      refine gq_then_ret ?_
      refine gq_results (resCTT 1 rfl a24 rfl rfl rfl rfl rfl rfl) ?_
      exact fun W1 hO => rx3_nil hO (deskR_s hc0 hc1)
    ·
      replace hc1 := of_decide_eq_false hc1
      refine gc_skip ?_
      refine gq_next ?_
      refine gc_seq ?_
      refine gc_region ?_
      refine ne (eo_loadA 0 rfl a24 rfl rfl rfl rfl) rfl ?_
      refine ne (eo_mv rfl rfl) rfl ?_
      refine nu (xo_storeA 1 rfl a24 rfl rfl (ones_cons (by first | rfl | exact AS.one) (ones_cons (by first | rfl | exact AS.one) (ones_cons (by first | rfl | exact AS.one) ones_nil))) rfl rfl rfl rfl) ?_
      rintro _ _ ⟨rfl, rfl⟩
      refine ne (eo_as rfl rfl) rfl ?_
      refine ne (eo_as rfl rfl) rfl ?_
      refine go_nil ?_
      refine gq_next ?_
      refine gc_ret ?_
      refine gq_results (resCTT 1 rfl a24 rfl rfl rfl rfl rfl rfl) ?_
      exact fun W1 hO => rx3_give (hO.tl 3 rfl (List.Sublist.refl _)) hk28 hS28 (deskR_ok hc0 hc1)

/-- barscan/barscanlaw45.bitmap -/
theorem bmap_x (W : Int) (H : Int) (str : ByteArray) (w : World)  (hst : str.size ≤ 1000) :
    Calls Try.prog 29 #[.int .i64 W, .int .i64 H, .string str] w (fun e w' => ∃ v Hn, e = .returned v ∧ RMb (strB W H str) v Hn ∧ Ow [] w w' Hn) := by
  refine calls_enter (N := ⟨28, []⟩) [] ([]) Try.func29 rfl rfl rfl (Ow.start _) ?_
  refine gc_seq ?_
  refine gc_region ?_
  refine nx (xo_alloc rfl z24) rfl ?_
  rintro _ _ ⟨g6, rfl, rfl⟩
  refine go_nil ?_
  refine gq_next ?_
  refine gc_seq ?_
  refine gc_region ?_
  refine ne (eo_mv rfl rfl) rfl ?_
  refine ne (eo_mv rfl rfl) rfl ?_
  refine ne (eo_build rfl rfl (b24_01 _ _)) rfl ?_
  refine nx (xo_alloc rfl z24) rfl ?_
  rintro _ _ ⟨g7, rfl, rfl⟩
  refine nu (xo_storeA 0 rfl a24 rfl rfl (ones_cons (by first | rfl | exact AS.one) (ones_cons (by first | rfl | exact AS.one) (ones_cons (by first | rfl | exact AS.one) ones_nil))) rfl rfl rfl rfl) ?_
  rintro _ _ ⟨rfl, rfl⟩
  refine go_nil ?_
  refine gq_next ?_
  refine gc_seq ?_
  refine gc_seq ?_
  refine gc_region ?_
  refine ne (eo_as rfl rfl) rfl ?_
  refine go_nil ?_
  refine gq_next ?_
  refine gc_block ?_
  refine loop2 (fun (k : Nat) (s : AS) => k ≤ str.size ∧ s.Ok 1 k (tab k (bv (fun i => decide (byI str i = 49))))) (fun (k : Nat) (s : AS) => str.size - k) (fun (k : Nat) (s : AS) => [(2, .string str), (6, .pointer (some ⟨g6, 0, none⟩)), (7, .pointer (some ⟨g7, 0, none⟩)), (8, .int .i64 (k : Int))]) (fun (k : Nat) (s : AS) => ⟨g7, 24, [.int .i64 W, .int .i64 H, s.val k]⟩ :: ⟨g6, 24, [.int .i64 0, .int .i64 0, .slice none 0 0]⟩ :: s.blks 4 (tab k (bv (fun i => decide (byI str i = 49))))) 0 .nil ⟨by omega, AS.Ok0⟩ ⟨rfl, rfl, rfl, rfl, trivial⟩ (List.Sublist.refl _) ?_
  rintro k s ⟨hk, hs⟩
  refine gc_seq ?_
  refine gc_seq ?_
  refine gc_region ?_
  refine ne (eo_mv rfl rfl) rfl ?_
  refine ne (eo_mv rfl rfl) rfl ?_
  refine ne (eo_lenS rfl Try.underlying9 rfl) rfl ?_
  refine ne (eo_lss rfl rfl rfl) rfl ?_
  refine go_nil ?_
  refine gq_next ?_
  refine gc_cond rfl (fun hc0 => ?_) (fun hc0 => ?_)
  ·
    replace hc0 := of_decide_eq_true hc0
    refine gc_skip ?_
    refine gq_next ?_
    refine gc_seq ?_
    refine gc_block ?_
    refine gc_draw [] [0, 1, 2, 3, 4, 5] [6] [7, 8, 9] (by kernel_rfl) (by kernel_rfl) ?_
    refine gp_nil ?_
    refine de rfl (eo_field rfl f24_2 rfl) rfl ?_
    refine de rfl (eo_load 0 rfl s22 rfl rfl rfl rfl) rfl ?_
    refine de rfl (eo_mv rfl rfl) rfl ?_
    refine de rfl (eo_mv rfl rfl) rfl ?_
    refine de rfl (eo_strAt rfl Try.underlying9 rfl rfl (by omega) (by omega)) rfl ?_
    refine de rfl (eo_eql rfl rfl rfl) rfl ?_
    refine ge_nil ?_
    refine da rfl (xo_lit1 rfl Try.underlying22 e4 rfl (by first | rfl | exact AS.one)) rfl ?_
    rintro _ _ ⟨g24, rfl, rfl⟩
    refine ⟨by first | exact (List.Sublist.cons _ (List.Sublist.refl _)) | exact (List.sublist_append_left _ _), ?_⟩
    refine ga_nil ?_
    refine ix rfl (xo_app1b 3 rfl rfl Try.underlying22 e4 rfl hs rfl rfl rfl (by omega)) rfl ?_
    rintro _ _ ⟨s25, hs25, rfl, rfl⟩
    refine ie rfl (eo_field rfl f24_2 rfl) rfl ?_
    refine iu rfl (xo_store 1 rfl s22 rfl rfl (by first | rfl | exact AS.one) rfl rfl (by simp)) ?_
    rintro _ _ ⟨rfl, rfl⟩
    refine gi_nil ?_
    refine gq_nq ?_
    refine gq_block_end ?_
    refine gq_next ?_
    refine gc_region ?_
    refine ne (eo_mv rfl rfl) rfl ?_
    refine ne (eo_add rfl rfl rfl (by omega) (by omega)) rfl ?_
    refine ne (eo_as rfl rfl) rfl ?_
    refine go_nil ?_
    exact round2 (k + 1) s25 ⟨by omega, hs25⟩ (by omega) ⟨rfl, rfl, rfl, rfl, trivial⟩ (List.Sublist.cons _ (List.Sublist.refl _))
  ·
    replace hc0 := of_decide_eq_false hc0
    refine gc_exit ?_
    refine gq_then_exit ?_
    refine gq_then_exit ?_
    refine gq_block_hit ?_
    refine gq_next ?_
    refine gc_seq ?_
    refine gc_region ?_
    refine ne (eo_loadA 0 rfl a24 rfl rfl rfl rfl) rfl ?_
    refine nu (xo_storeA 1 rfl a24 rfl rfl (ones_cons (by first | rfl | exact AS.one) (ones_cons (by first | rfl | exact AS.one) (ones_cons (by first | rfl | exact AS.one) ones_nil))) rfl rfl rfl rfl) ?_
    rintro _ _ ⟨rfl, rfl⟩
    refine go_nil ?_
    refine gq_next ?_
    refine gc_ret ?_
    refine gq_results (resC 1 rfl a24 rfl rfl rfl rfl) ?_
    have hke : str.size = k := by omega
    exact fun W1 hO => rmb_as 2 hO rfl hs (by rw [← hke]; rfl)

end Go.Proofs.Ytmgkpdpmjhgekaa
