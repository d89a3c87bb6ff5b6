/-
  The walks of the functions of package raster and of the document's answer (part O): what each call returns, at every argument.
-/
import Derived.Test.YtefblgildcaldaaWN
namespace Go.Proofs.Ytefblgildcaldaa
open Go.RowKit Go.Eng

open Go.Bs
theorem en13 : Ent Try.prog 13 := ent_of Try.func13 (by kernel_rfl) rfl
theorem en37 : Ent Try.prog 37 := ent_of Try.func37 (by kernel_rfl) rfl
theorem en16 : Ent Try.prog 16 := ent_of Try.func16 (by kernel_rfl) rfl

/-- barscan/barscanlaw31.RasterEnlargesTwice -/
theorem twice_c (W H : Int) (A : Option Addr) (n c : Nat) (f : Nat → Bool) (j : Int) (k : Int) (w : World) (hr : Rd w A (tab n (bv f))) (j0 : 0 ≤ j) (j1 : j ≤ 255) (k0 : 0 ≤ k) (k1 : k ≤ 255) :
    Calls Try.prog 10 #[.agg #[.int .i64 W, .int .i64 H, .slice A n c], .int .u8 j, .int .u8 k] w (fun e w' => e = .returned (.bool true) ∧ Ext w w') := by
  refine calls_enter (N := ⟨128, []⟩) [] ([]) Try.func10 rfl rfl rfl (Ow.start _) ?_
  refine gc_seq ?_
  refine gc_region ?_
  refine nx (xo_boxA rfl rfl) rfl ?_
  rintro _ _ ⟨g3, rfl, rfl⟩
  refine ne (eo_as rfl rfl) rfl ?_
  refine go_nil ?_
  refine gq_next ?_
  refine gc_seq ?_
  refine gc_region ?_
  refine ne (eo_mv rfl rfl) rfl ?_
  refine ne (eo_remk rfl rfl rfl (by first | omega | (have hp := enl_prod (n := n) (a := (j % 8 + 1)) (b := (k % 8 + 1)) (by omega) (by omega) (by omega) (by omega) (by omega); omega)) (by first | omega | (have hp := enl_prod (n := n) (a := (j % 8 + 1)) (b := (k % 8 + 1)) (by omega) (by omega) (by omega) (by omega) (by omega); omega))) rfl ?_
  refine ne (eo_convi rfl rfl ⟨_, Try.underlying5⟩ Try.underlying3 (by first | omega | (have hp := enl_prod (n := n) (a := (j % 8 + 1)) (b := (k % 8 + 1)) (by omega) (by omega) (by omega) (by omega) (by omega); omega)) (by first | omega | (have hp := enl_prod (n := n) (a := (j % 8 + 1)) (b := (k % 8 + 1)) (by omega) (by omega) (by omega) (by omega) (by omega); omega))) rfl ?_
  refine ne (eo_add rfl rfl rfl (by first | omega | (have hp := enl_prod (n := n) (a := (j % 8 + 1)) (b := (k % 8 + 1)) (by omega) (by omega) (by omega) (by omega) (by omega); omega)) (by first | omega | (have hp := enl_prod (n := n) (a := (j % 8 + 1)) (b := (k % 8 + 1)) (by omega) (by omega) (by omega) (by omega) (by omega); omega))) rfl ?_
  refine ne (eo_mv rfl rfl) rfl ?_
  refine ne (eo_remk rfl rfl rfl (by first | omega | (have hp := enl_prod (n := n) (a := (j % 8 + 1)) (b := (k % 8 + 1)) (by omega) (by omega) (by omega) (by omega) (by omega); omega)) (by first | omega | (have hp := enl_prod (n := n) (a := (j % 8 + 1)) (b := (k % 8 + 1)) (by omega) (by omega) (by omega) (by omega) (by omega); omega))) rfl ?_
  refine ne (eo_convi rfl rfl ⟨_, Try.underlying5⟩ Try.underlying3 (by first | omega | (have hp := enl_prod (n := n) (a := (j % 8 + 1)) (b := (k % 8 + 1)) (by omega) (by omega) (by omega) (by omega) (by omega); omega)) (by first | omega | (have hp := enl_prod (n := n) (a := (j % 8 + 1)) (b := (k % 8 + 1)) (by omega) (by omega) (by omega) (by omega) (by omega); omega))) rfl ?_
  refine ne (eo_add rfl rfl rfl (by first | omega | (have hp := enl_prod (n := n) (a := (j % 8 + 1)) (b := (k % 8 + 1)) (by omega) (by omega) (by omega) (by omega) (by omega); omega)) (by first | omega | (have hp := enl_prod (n := n) (a := (j % 8 + 1)) (b := (k % 8 + 1)) (by omega) (by omega) (by omega) (by omega) (by omega); omega))) rfl ?_
  refine ne (eo_as rfl rfl) rfl ?_
  refine ne (eo_as rfl rfl) rfl ?_
  refine go_nil ?_
  refine gq_next ?_
  refine gc_seq ?_
  refine gc_seq ?_
  refine gc_region ?_
  refine ne (eo_loadA 0 rfl a24 rfl rfl rfl rfl) rfl ?_
  refine ne (eo_call rfl en23 rfl (fun W1 hO => check_c _ _ _ _ _ W1  )) rfl ?_
  refine ne (eo_neq rfl rfl rfl) rfl ?_
  refine ne (eo_mv rfl rfl) rfl ?_
  refine ng rfl rfl (fun h => eo_field rfl f24_2 rfl) rfl ?_
  refine ng rfl rfl (fun h => eo_load 0 rfl s22 (ev_if h rfl) rfl rfl rfl) rfl ?_
  refine ng rfl rfl (fun h => eo_len rfl Try.underlying22 (ev_if h rfl)) rfl ?_
  refine ng rfl rfl (fun h => eo_gtr rfl (ev_if h rfl) rfl) rfl ?_
  refine ne (eo_or rfl rfl (fun hb => ev_if hb rfl)) rfl ?_
  refine ne (eo_mv rfl rfl) rfl ?_
  refine ng rfl rfl (fun h => eo_field rfl f24_2 rfl) rfl ?_
  refine ng rfl rfl (fun h => eo_load 0 rfl s22 (ev_if h rfl) rfl rfl rfl) rfl ?_
  refine ng rfl rfl (fun h => eo_len rfl Try.underlying22 (ev_if h rfl)) rfl ?_
  refine ng rfl rfl (fun h => eo_mv rfl rfl) rfl ?_
  refine ng rfl rfl (fun h => eo_mul rfl (ev_if h rfl) (ev_if h rfl) (by have hg0 := (or_f h).imp (fun h => ne_f h) (fun h => of_decide_eq_false h); first | omega | (have hp := enl_prod (n := n) (a := (j % 8 + 1)) (b := (k % 8 + 1)) (by omega) (by omega) (by omega) (by omega) (by omega); omega)) (by have hg0 := (or_f h).imp (fun h => ne_f h) (fun h => of_decide_eq_false h); first | omega | (have hp := enl_prod (n := n) (a := (j % 8 + 1)) (b := (k % 8 + 1)) (by omega) (by omega) (by omega) (by omega) (by omega); omega))) rfl ?_
  refine ng rfl rfl (fun h => eo_mv rfl rfl) rfl ?_
  refine ng rfl rfl (fun h => eo_mul rfl (ev_if h rfl) (ev_if h rfl) (by have hg0 := (or_f h).imp (fun h => ne_f h) (fun h => of_decide_eq_false h); first | omega | (have hp := enl_prod (n := n) (a := (j % 8 + 1)) (b := (k % 8 + 1)) (by omega) (by omega) (by omega) (by omega) (by omega); omega)) (by have hg0 := (or_f h).imp (fun h => ne_f h) (fun h => of_decide_eq_false h); first | omega | (have hp := enl_prod (n := n) (a := (j % 8 + 1)) (b := (k % 8 + 1)) (by omega) (by omega) (by omega) (by omega) (by omega); omega))) rfl ?_
  refine ng rfl rfl (fun h => eo_mv rfl rfl) rfl ?_
  refine ng rfl rfl (fun h => eo_mul rfl (ev_if h rfl) (ev_if h rfl) (by have hg0 := (or_f h).imp (fun h => ne_f h) (fun h => of_decide_eq_false h); first | omega | (have hp := enl_prod (n := n) (a := (j % 8 + 1)) (b := (k % 8 + 1)) (by omega) (by omega) (by omega) (by omega) (by omega); omega)) (by have hg0 := (or_f h).imp (fun h => ne_f h) (fun h => of_decide_eq_false h); first | omega | (have hp := enl_prod (n := n) (a := (j % 8 + 1)) (b := (k % 8 + 1)) (by omega) (by omega) (by omega) (by omega) (by omega); omega))) rfl ?_
  refine ng rfl rfl (fun h => eo_mv rfl rfl) rfl ?_
  refine ng rfl rfl (fun h => eo_mul rfl (ev_if h rfl) (ev_if h rfl) (by have hg0 := (or_f h).imp (fun h => ne_f h) (fun h => of_decide_eq_false h); first | omega | (have hp := enl_prod (n := n) (a := (j % 8 + 1)) (b := (k % 8 + 1)) (by omega) (by omega) (by omega) (by omega) (by omega); omega)) (by have hg0 := (or_f h).imp (fun h => ne_f h) (fun h => of_decide_eq_false h); first | omega | (have hp := enl_prod (n := n) (a := (j % 8 + 1)) (b := (k % 8 + 1)) (by omega) (by omega) (by omega) (by omega) (by omega); omega))) rfl ?_
  refine ng rfl rfl (fun h => eo_gtr rfl (ev_if h rfl) rfl) rfl ?_
  refine ne (eo_or rfl rfl (fun hb => ev_if hb rfl)) rfl ?_
  refine go_nil ?_
  refine gq_next ?_
  refine gc_cond rfl (fun hc0 => ?_) (fun hc0 => ?_)
  ·
    have hd0 := (or_t hc0).imp (fun h => (or_t h).imp (fun h => of_decide_eq_true h) (fun h => of_decide_eq_true h)) (fun h => of_decide_eq_true h)
    refine gc_seq ?_
    refine gc_region ?_
    refine ne (eo_call rfl en13 rfl (fun W1 hO => examples_c W1  )) rfl ?_
    refine ne (eo_as rfl rfl) rfl ?_
    refine go_nil ?_
    refine gq_next ?_
    refine gc_ret ?_
    refine gq_then_ret ?_
    refine gq_results (res1 rfl rfl) ?_
    exact fun W2 hO => ⟨rfl, hO.toExt⟩
  ·
    have hd0 := (or_f hc0).imp (fun h => (or_f h).imp (fun h => ne_f h) (fun h => of_decide_eq_false h)) (fun h => of_decide_eq_false h)
    obtain ⟨⟨hq0, hq1⟩, hq2⟩ := hd0
    have hv : vldB W H n = true := by
      have h := hq0
      cases hb : vldB W H n with
      | true => rfl
      | false => rw [chk_no hb] at h; exact absurd h (by decide)
    obtain ⟨v1, v2, v3, v4, v5, v6⟩ := vldB_iff.1 hv
    have hab := Int.mul_le_mul (show (j % 8 + 1) ≤ 8 by omega) (show (k % 8 + 1) ≤ 8 by omega) (by omega) (by omega)
    have hab0 := Int.mul_pos (show 0 < (j % 8 + 1) by omega) (show 0 < (k % 8 + 1) by omega)
    refine gc_skip ?_
    refine gq_next ?_
    refine gc_seq ?_
    refine gc_region ?_
    refine ne (eo_loadA 0 rfl a24 rfl rfl rfl rfl) rfl ?_
    refine ne (eo_mv rfl rfl) rfl ?_
    refine nx (xo_freshT rfl en37 rfl (fun W1 hO => enl_x _ _ _ _ _ _ _ W1 (hr.old0 hO) )) rfl ?_
    rintro _ _ ⟨S54, ⟨A54, k54, rfl, hk54, hS54⟩, rfl⟩
    refine ne (eo_mv rfl rfl) rfl ?_
    refine ne (eo_extract rfl rfl rfl) rfl ?_
    refine ne (eo_extract rfl rfl rfl) rfl ?_
    refine nx (xo_alloc rfl z24) rfl ?_
    rintro _ _ ⟨g9, rfl, rfl⟩
    refine nu (xo_storeA 0 rfl a24 rfl rfl (ones_cons (by first | rfl | exact AS.one) (ones_cons (by first | rfl | exact AS.one) (ones_cons (by first | rfl | exact AS.one) ones_nil))) rfl rfl rfl rfl) ?_
    rintro _ _ ⟨rfl, rfl⟩
    refine ne (eo_as rfl rfl) rfl ?_
    refine go_nil ?_
    refine gq_next ?_
    refine gc_seq ?_
    refine gc_region ?_
    refine ne (eo_loadA 0 rfl a24 rfl rfl rfl rfl) rfl ?_
    refine ne (eo_mv rfl rfl) rfl ?_
    refine nx (xo_freshT rfl en37 rfl (fun W1 hO => enl_x _ _ _ _ _ _ _ W1 (hS54.rd (hO.tl 2 rfl (List.Sublist.refl _))) )) rfl ?_
    rintro _ _ ⟨S60, ⟨A60, k60, rfl, hk60, hS60⟩, rfl⟩
    refine ne (eo_mv rfl rfl) rfl ?_
    refine ne (eo_extract rfl rfl rfl) rfl ?_
    refine ne (eo_extract rfl rfl rfl) rfl ?_
    refine nx (xo_alloc rfl z24) rfl ?_
    rintro _ _ ⟨g11, rfl, rfl⟩
    refine nu (xo_storeA 0 rfl a24 rfl rfl (ones_cons (by first | rfl | exact AS.one) (ones_cons (by first | rfl | exact AS.one) (ones_cons (by first | rfl | exact AS.one) ones_nil))) rfl rfl rfl rfl) ?_
    rintro _ _ ⟨rfl, rfl⟩
    refine ne (eo_as rfl rfl) rfl ?_
    refine go_nil ?_
    refine gq_next ?_
    refine gc_seq ?_
    refine gc_region ?_
    refine ne (eo_loadA 2 rfl a24 rfl rfl rfl rfl) rfl ?_
    refine ne (eo_mv rfl rfl) rfl ?_
    refine ne (eo_mv rfl rfl) rfl ?_
    refine ne (eo_mul rfl rfl rfl (by first | omega | (have hp := enl_prod (n := n) (a := (j % 8 + 1)) (b := (k % 8 + 1)) (by omega) (by omega) (by omega) (by omega) (by omega); omega)) (by first | omega | (have hp := enl_prod (n := n) (a := (j % 8 + 1)) (b := (k % 8 + 1)) (by omega) (by omega) (by omega) (by omega) (by omega); omega))) rfl ?_
    refine nx (xo_freshT rfl en37 rfl (fun W1 hO => enl_x _ _ _ _ _ _ _ W1 (hr.old0 hO) )) rfl ?_
    rintro _ _ ⟨S68, ⟨A68, k68, rfl, hk68, hS68⟩, rfl⟩
    refine ne (eo_mv rfl rfl) rfl ?_
    refine ne (eo_extract rfl rfl rfl) rfl ?_
    refine ne (eo_extract rfl rfl rfl) rfl ?_
    refine nx (xo_alloc rfl z24) rfl ?_
    rintro _ _ ⟨g13, rfl, rfl⟩
    refine nu (xo_storeA 0 rfl a24 rfl rfl (ones_cons (by first | rfl | exact AS.one) (ones_cons (by first | rfl | exact AS.one) (ones_cons (by first | rfl | exact AS.one) ones_nil))) rfl rfl rfl rfl) ?_
    rintro _ _ ⟨rfl, rfl⟩
    refine ne (eo_as rfl rfl) rfl ?_
    refine go_nil ?_
    refine gq_next ?_
    refine gc_seq ?_
    refine gc_seq ?_
    refine gc_region ?_
    refine ne (eo_mv rfl rfl) rfl ?_
    refine ne (eo_eql rfl rfl rfl) rfl ?_
    refine go_nil ?_
    refine gq_next ?_
    refine gc_cond rfl (fun hc1 => ?_) (fun hc1 => ?_)
    ·
      replace hc1 := of_decide_eq_true hc1
      refine gc_seq ?_
      refine gc_region ?_
      refine ne (eo_call rfl en13 rfl (fun W1 hO => examples_c W1  )) rfl ?_
      refine ne (eo_as rfl rfl) rfl ?_
      refine go_nil ?_
      refine gq_next ?_
      refine gc_ret ?_
      refine gq_then_ret ?_
      refine gq_results (res1 rfl rfl) ?_
      exact fun W2 hO => ⟨rfl, hO.toExt⟩
    ·
      replace hc1 := of_decide_eq_false hc1
      obtain ⟨t1, t2, t3, t4, t5⟩ := enl_twice (f := f) (a := (j % 8 + 1)) (b := (k % 8 + 1)) hv (by omega) (by omega) (by omega) (by omega) hc1
      have hbx := enl_box (f := f) hv t2 (show 1 ≤ (j % 8 + 1) by omega)
      obtain ⟨w1, w2, w3, w4⟩ := bx_bd (W := W) (H := H) (n := n) (f := f)
      have mX := mul_eight (a := (j % 8 + 1)) (z := bxX (dotsV W H n f)) (by omega) (by omega) (by omega) (by omega)
      have mY := mul_eight (a := (j % 8 + 1)) (z := bxY (dotsV W H n f)) (by omega) (by omega) (by omega) (by omega)
      have mW := mul_eight (a := (j % 8 + 1)) (z := bxW (dotsV W H n f)) (by omega) (by omega) (by omega) (by omega)
      have mH := mul_eight (a := (j % 8 + 1)) (z := bxH (dotsV W H n f)) (by omega) (by omega) (by omega) (by omega)
      refine gc_skip ?_
      refine gq_next ?_
      refine gc_seq ?_
      refine gc_region ?_
      refine ne (eo_loadA 3 rfl a24 rfl rfl rfl rfl) rfl ?_
      refine ne (eo_call rfl en17 rfl (fun W1 hO => calls_v (boxOf_eq (dotsV W H n f)) (bounds_c _ _ _ _ _ _ W1 (hr.old0 hO)))) rfl ?_
      refine ne (eo_mv rfl rfl) rfl ?_
      refine ne (eo_extract rfl rfl rfl) rfl ?_
      refine ne (eo_extract rfl rfl rfl) rfl ?_
      refine nx (xo_alloc rfl z26) rfl ?_
      rintro _ _ ⟨g15, rfl, rfl⟩
      refine nu (xo_storeA 0 rfl a26 rfl rfl (ones_cons (by first | rfl | exact AS.one) (ones_cons (by first | rfl | exact AS.one) (ones_cons (by first | rfl | exact AS.one) (ones_cons (by first | rfl | exact AS.one) ones_nil)))) rfl rfl rfl rfl) ?_
      rintro _ _ ⟨rfl, rfl⟩
      refine ne (eo_as rfl rfl) rfl ?_
      refine go_nil ?_
      refine gq_next ?_
      refine gc_seq ?_
      refine gc_region ?_
      refine ne (eo_loadA 3 rfl a24 rfl rfl rfl rfl) rfl ?_
      refine ne (eo_call rfl en17 rfl (fun W1 hO => calls_v (boxOf_eq (dotsV (enlR ⟨W, H, n, f⟩ ((j % 8) + 1)).1.W (enlR ⟨W, H, n, f⟩ ((j % 8) + 1)).1.H (enlR ⟨W, H, n, f⟩ ((j % 8) + 1)).1.n (enlR ⟨W, H, n, f⟩ ((j % 8) + 1)).1.f)) (bounds_c _ _ _ _ _ _ W1 (hS54.rd (hO.tl 5 rfl ((List.sublist_append_left _ _).trans (List.sublist_append_left _ _))))))) rfl ?_
      refine ne (eo_mv rfl rfl) rfl ?_
      refine ne (eo_extract rfl rfl rfl) rfl ?_
      refine ne (eo_extract rfl rfl rfl) rfl ?_
      refine nx (xo_alloc rfl z26) rfl ?_
      rintro _ _ ⟨g17, rfl, rfl⟩
      refine nu (xo_storeA 0 rfl a26 rfl rfl (ones_cons (by first | rfl | exact AS.one) (ones_cons (by first | rfl | exact AS.one) (ones_cons (by first | rfl | exact AS.one) (ones_cons (by first | rfl | exact AS.one) ones_nil)))) rfl rfl rfl rfl) ?_
      rintro _ _ ⟨rfl, rfl⟩
      refine ne (eo_as rfl rfl) rfl ?_
      refine go_nil ?_
      refine gq_next ?_
      refine gc_seq ?_
      refine gc_region ?_
      refine ne (eo_mv rfl rfl) rfl ?_
      refine ne (eo_eql rfl rfl rfl) rfl ?_
      refine ne (eo_mv rfl rfl) rfl ?_
      refine ng rfl rfl (fun h => eo_mv rfl rfl) rfl ?_
      refine ng rfl rfl (fun h => eo_eql rfl (ev_if h rfl) rfl) rfl ?_
      refine ne (eo_and rfl rfl (fun hb => ev_if hb rfl)) rfl ?_
      refine ne (eo_mv rfl rfl) rfl ?_
      refine ng rfl rfl (fun h => eo_mv rfl rfl) rfl ?_
      refine ng rfl rfl (fun h => eo_eql rfl (ev_if h rfl) rfl) rfl ?_
      refine ne (eo_and rfl rfl (fun hb => ev_if hb rfl)) rfl ?_
      refine ne (eo_mv rfl rfl) rfl ?_
      refine ng rfl rfl (fun h => eo_loadA 3 rfl a24 rfl rfl rfl rfl) rfl ?_
      refine ng rfl rfl (fun h => eo_loadA 2 rfl a24 rfl rfl rfl rfl) rfl ?_
      refine ng rfl rfl (fun h => eo_call rfl en16 (evs_cons (ev_if h rfl) (evs_cons (ev_if h rfl) evs_nil)) (fun W1 hO => same_c _ _ _ _ _ _ _ _ _ _ _ _ W1 (Nat.le_trans enlR_le (by decide)) (hS60.rd (hO.tl 6 rfl ((List.sublist_append_right _ _).trans (List.sublist_append_left _ _)))) (hS68.rd (hO.tl 6 rfl (List.sublist_append_right _ _))))) rfl ?_
      refine ne (eo_and rfl rfl (fun hb => ev_if hb rfl)) rfl ?_
      refine ne (eo_mv rfl rfl) rfl ?_
      refine ng rfl rfl (fun h => eo_mv rfl rfl) rfl ?_
      refine ng rfl rfl (fun h => eo_mv rfl rfl) rfl ?_
      refine ng rfl rfl (fun h => eo_beql rfl (ev_if h rfl) (ev_if h rfl) Try.underlying4) rfl ?_
      refine ne (eo_and rfl rfl (fun hb => ev_if hb rfl)) rfl ?_
      refine ne (eo_mv rfl rfl) rfl ?_
      refine ng rfl rfl (fun h => eo_loadA 0 rfl a26 rfl rfl rfl rfl) rfl ?_
      refine ng rfl rfl (fun h => eo_mv rfl rfl) rfl ?_
      refine ng rfl rfl (fun h => eo_field rfl f26_0 rfl) rfl ?_
      refine ng rfl rfl (fun h => eo_load 1 rfl s3 (ev_if h rfl) rfl rfl rfl) rfl ?_
      refine ng rfl rfl (fun h => eo_mul rfl (ev_if h rfl) (ev_if h rfl) (by have hg0 := (and_t h).imp (fun h => (and_t h).imp (fun h => (and_t h).imp (fun h => (and_t h).imp (fun h => of_decide_eq_true h) (fun h => of_decide_eq_true h)) (fun h => of_decide_eq_true h)) (fun h => h)) (fun h => h); first | omega | (have hp := enl_prod (n := n) (a := (j % 8 + 1)) (b := (k % 8 + 1)) (by omega) (by omega) (by omega) (by omega) (by omega); omega)) (by have hg0 := (and_t h).imp (fun h => (and_t h).imp (fun h => (and_t h).imp (fun h => (and_t h).imp (fun h => of_decide_eq_true h) (fun h => of_decide_eq_true h)) (fun h => of_decide_eq_true h)) (fun h => h)) (fun h => h); first | omega | (have hp := enl_prod (n := n) (a := (j % 8 + 1)) (b := (k % 8 + 1)) (by omega) (by omega) (by omega) (by omega) (by omega); omega))) rfl ?_
      refine ng rfl rfl (fun h => eo_mv rfl rfl) rfl ?_
      refine ng rfl rfl (fun h => eo_field rfl f26_1 rfl) rfl ?_
      refine ng rfl rfl (fun h => eo_load 1 rfl s3 (ev_if h rfl) rfl rfl rfl) rfl ?_
      refine ng rfl rfl (fun h => eo_mul rfl (ev_if h rfl) (ev_if h rfl) (by have hg0 := (and_t h).imp (fun h => (and_t h).imp (fun h => (and_t h).imp (fun h => (and_t h).imp (fun h => of_decide_eq_true h) (fun h => of_decide_eq_true h)) (fun h => of_decide_eq_true h)) (fun h => h)) (fun h => h); first | omega | (have hp := enl_prod (n := n) (a := (j % 8 + 1)) (b := (k % 8 + 1)) (by omega) (by omega) (by omega) (by omega) (by omega); omega)) (by have hg0 := (and_t h).imp (fun h => (and_t h).imp (fun h => (and_t h).imp (fun h => (and_t h).imp (fun h => of_decide_eq_true h) (fun h => of_decide_eq_true h)) (fun h => of_decide_eq_true h)) (fun h => h)) (fun h => h); first | omega | (have hp := enl_prod (n := n) (a := (j % 8 + 1)) (b := (k % 8 + 1)) (by omega) (by omega) (by omega) (by omega) (by omega); omega))) rfl ?_
      refine ng rfl rfl (fun h => eo_mv rfl rfl) rfl ?_
      refine ng rfl rfl (fun h => eo_field rfl f26_2 rfl) rfl ?_
      refine ng rfl rfl (fun h => eo_load 1 rfl s3 (ev_if h rfl) rfl rfl rfl) rfl ?_
      refine ng rfl rfl (fun h => eo_mul rfl (ev_if h rfl) (ev_if h rfl) (by have hg0 := (and_t h).imp (fun h => (and_t h).imp (fun h => (and_t h).imp (fun h => (and_t h).imp (fun h => of_decide_eq_true h) (fun h => of_decide_eq_true h)) (fun h => of_decide_eq_true h)) (fun h => h)) (fun h => h); first | omega | (have hp := enl_prod (n := n) (a := (j % 8 + 1)) (b := (k % 8 + 1)) (by omega) (by omega) (by omega) (by omega) (by omega); omega)) (by have hg0 := (and_t h).imp (fun h => (and_t h).imp (fun h => (and_t h).imp (fun h => (and_t h).imp (fun h => of_decide_eq_true h) (fun h => of_decide_eq_true h)) (fun h => of_decide_eq_true h)) (fun h => h)) (fun h => h); first | omega | (have hp := enl_prod (n := n) (a := (j % 8 + 1)) (b := (k % 8 + 1)) (by omega) (by omega) (by omega) (by omega) (by omega); omega))) rfl ?_
      refine ng rfl rfl (fun h => eo_mv rfl rfl) rfl ?_
      refine ng rfl rfl (fun h => eo_field rfl f26_3 rfl) rfl ?_
      refine ng rfl rfl (fun h => eo_load 1 rfl s3 (ev_if h rfl) rfl rfl rfl) rfl ?_
      refine ng rfl rfl (fun h => eo_mul rfl (ev_if h rfl) (ev_if h rfl) (by have hg0 := (and_t h).imp (fun h => (and_t h).imp (fun h => (and_t h).imp (fun h => (and_t h).imp (fun h => of_decide_eq_true h) (fun h => of_decide_eq_true h)) (fun h => of_decide_eq_true h)) (fun h => h)) (fun h => h); first | omega | (have hp := enl_prod (n := n) (a := (j % 8 + 1)) (b := (k % 8 + 1)) (by omega) (by omega) (by omega) (by omega) (by omega); omega)) (by have hg0 := (and_t h).imp (fun h => (and_t h).imp (fun h => (and_t h).imp (fun h => (and_t h).imp (fun h => of_decide_eq_true h) (fun h => of_decide_eq_true h)) (fun h => of_decide_eq_true h)) (fun h => h)) (fun h => h); first | omega | (have hp := enl_prod (n := n) (a := (j % 8 + 1)) (b := (k % 8 + 1)) (by omega) (by omega) (by omega) (by omega) (by omega); omega))) rfl ?_
      refine ng rfl rfl (fun h => eo_build rfl (evp_cons (ev_if h rfl) (evp_cons (ev_if h rfl) (evp_cons (ev_if h rfl) (evp_cons (ev_if h rfl) evp_nil)))) (b26_0123 _ _ _ _)) rfl ?_
      refine ng rfl rfl (fun h => eo_eqA rfl (ev_if h rfl) (ev_if h rfl) st26 (eq26 _ _ _ _ _ _ _ _)) rfl ?_
      refine ne (eo_and rfl rfl (fun hb => ev_if hb rfl)) rfl ?_
      refine ne (eo_mv rfl rfl) rfl ?_
      refine ng rfl rfl (fun h => eo_call rfl en13 rfl (fun W1 hO => examples_c W1  )) rfl ?_
      refine ne (eo_and rfl rfl (fun hb => ev_if hb rfl)) rfl ?_
      refine ne (eo_as rfl rfl) rfl ?_
      refine go_nil ?_
      refine gq_next ?_
      refine gc_ret ?_
      refine gq_results (res1 rfl rfl) ?_
      exact fun W2 hO => ⟨ret_bool (show ((((((decide ((enlR ⟨W, H, n, f⟩ ((j % 8) + 1)).2 = 0) && decide ((enlR (enlR ⟨W, H, n, f⟩ ((j % 8) + 1)).1 ((k % 8) + 1)).2 = 0)) && decide ((enlR ⟨W, H, n, f⟩ (((j % 8) + 1) * ((k % 8) + 1))).2 = 0)) && (eqP (enlR (enlR ⟨W, H, n, f⟩ ((j % 8) + 1)).1 ((k % 8) + 1)).1 (enlR ⟨W, H, n, f⟩ (((j % 8) + 1) * ((k % 8) + 1))).1)) && ((bxB (dotsV W H n f)) == (bxB (dotsV (enlR ⟨W, H, n, f⟩ ((j % 8) + 1)).1.W (enlR ⟨W, H, n, f⟩ ((j % 8) + 1)).1.H (enlR ⟨W, H, n, f⟩ ((j % 8) + 1)).1.n (enlR ⟨W, H, n, f⟩ ((j % 8) + 1)).1.f)))) && ([(bxX (dotsV (enlR ⟨W, H, n, f⟩ ((j % 8) + 1)).1.W (enlR ⟨W, H, n, f⟩ ((j % 8) + 1)).1.H (enlR ⟨W, H, n, f⟩ ((j % 8) + 1)).1.n (enlR ⟨W, H, n, f⟩ ((j % 8) + 1)).1.f)), (bxY (dotsV (enlR ⟨W, H, n, f⟩ ((j % 8) + 1)).1.W (enlR ⟨W, H, n, f⟩ ((j % 8) + 1)).1.H (enlR ⟨W, H, n, f⟩ ((j % 8) + 1)).1.n (enlR ⟨W, H, n, f⟩ ((j % 8) + 1)).1.f)), (bxW (dotsV (enlR ⟨W, H, n, f⟩ ((j % 8) + 1)).1.W (enlR ⟨W, H, n, f⟩ ((j % 8) + 1)).1.H (enlR ⟨W, H, n, f⟩ ((j % 8) + 1)).1.n (enlR ⟨W, H, n, f⟩ ((j % 8) + 1)).1.f)), (bxH (dotsV (enlR ⟨W, H, n, f⟩ ((j % 8) + 1)).1.W (enlR ⟨W, H, n, f⟩ ((j % 8) + 1)).1.H (enlR ⟨W, H, n, f⟩ ((j % 8) + 1)).1.n (enlR ⟨W, H, n, f⟩ ((j % 8) + 1)).1.f))] == [(((j % 8) + 1) * (bxX (dotsV W H n f))), (((j % 8) + 1) * (bxY (dotsV W H n f))), (((j % 8) + 1) * (bxW (dotsV W H n f))), (((j % 8) + 1) * (bxH (dotsV W H n f)))])) && true) = true from by
        rw [t3, t4, t5, t1]
        simp [hbx.1, hbx.2.1, hbx.2.2.1, hbx.2.2.2.1, hbx.2.2.2.2]), hO.toExt⟩

end Go.Proofs.Ytefblgildcaldaa
