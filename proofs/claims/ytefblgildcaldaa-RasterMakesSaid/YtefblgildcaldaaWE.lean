/-
  The walks of the functions of package raster and of the document's answer (part E): what each call returns, at every argument.
-/
import Derived.Test.YtefblgildcaldaaWC
namespace Go.Proofs.Ytefblgildcaldaa
open Go.RowKit Go.Eng

open Go.Bs
theorem en13 : Ent Try.prog 13 := ent_of Try.func13 (by kernel_rfl) rfl
theorem en12 : Ent Try.prog 12 := ent_of Try.func12 (by kernel_rfl) rfl
theorem en27 : Ent Try.prog 27 := ent_of Try.func27 (by kernel_rfl) rfl
theorem en16 : Ent Try.prog 16 := ent_of Try.func16 (by kernel_rfl) rfl
theorem en28 : Ent Try.prog 28 := ent_of Try.func28 (by kernel_rfl) rfl
theorem en30 : Ent Try.prog 30 := ent_of Try.func30 (by kernel_rfl) rfl
theorem en33 : Ent Try.prog 33 := ent_of Try.func33 (by kernel_rfl) rfl
theorem en34 : Ent Try.prog 34 := ent_of Try.func34 (by kernel_rfl) rfl
theorem en35 : Ent Try.prog 35 := ent_of Try.func35 (by kernel_rfl) rfl

/-- barscan/barscanlaw31.RasterMakes -/
theorem makes_ok (W0 H0 : Int) (A0 : Option Addr) (n0 c0 : Nat) (f0 : Nat → Bool) (W1 H1 : Int) (A1 : Option Addr) (n1 c1 : Nat) (f1 : Nat → Bool) (W2 H2 : Int) (A2 : Option Addr) (n2 c2 : Nat) (f2 : Nat → Int) (W3 H3 : Int) (A3 : Option Addr) (n3 c3 : Nat) (f3 : Nat → Int) (x y : Int) (w : World) (hr0 : Rd w A0 (tab n0 (bv f0))) (hr1 : Rd w A1 (tab n1 (bv f1))) (hr2 : Rd w A2 (tab n2 (iv .u8 f2))) (hr3 : Rd w A3 (tab n3 (iv .u8 f3))) (hf : fitsB x y = true) :
    Calls Try.prog 8 #[.agg #[.int .i64 W0, .int .i64 H0, .slice A0 n0 c0], .agg #[.int .i64 W1, .int .i64 H1, .slice A1 n1 c1], .agg #[.int .i64 W2, .int .i64 H2, .slice A2 n2 c2], .agg #[.int .i64 W3, .int .i64 H3, .slice A3 n3 c3], .int .i64 x, .int .i64 y] w fun e w' => e = .returned (.bool true) ∧ Ext w w' := by
  have hb := fits_bd hf
  refine calls_enter (N := ⟨118, []⟩) ([]) ([]) Try.func8 rfl rfl rfl (Ow.start _) ?_
  refine gc_seq ?_
  refine gc_region ?_
  refine nx (xo_boxA rfl rfl) rfl ?_
  rintro _ _ ⟨g6, rfl, rfl⟩
  refine nx (xo_boxA rfl rfl) rfl ?_
  rintro _ _ ⟨g7, rfl, rfl⟩
  refine nx (xo_boxA rfl rfl) rfl ?_
  rintro _ _ ⟨g8, rfl, rfl⟩
  refine nx (xo_boxA rfl rfl) rfl ?_
  rintro _ _ ⟨g9, rfl, rfl⟩
  refine ne (eo_as rfl rfl) rfl ?_
  refine go_nil ?_
  refine gq_next ?_
  refine gc_seq ?_
  refine gc_seq ?_
  refine gc_region ?_
  refine ne (eo_field rfl f24_2 rfl) rfl ?_
  refine ne (by first | exact eo_load 0 rfl s22 rfl rfl rfl rfl | exact eo_load 1 rfl s22 rfl rfl rfl rfl | exact eo_load 2 rfl s22 rfl rfl rfl rfl | exact eo_load 3 rfl s22 rfl rfl rfl rfl | exact eo_load 4 rfl s22 rfl rfl rfl rfl | exact eo_load 5 rfl s22 rfl rfl rfl rfl | exact eo_load 6 rfl s22 rfl rfl rfl rfl | exact eo_load 7 rfl s22 rfl rfl rfl rfl | exact eo_load 8 rfl s22 rfl rfl rfl rfl | exact eo_load 9 rfl s22 rfl rfl rfl rfl) rfl ?_
  refine ne (eo_len rfl Try.underlying22 rfl) rfl ?_
  refine ne (eo_gtr rfl rfl rfl) rfl ?_
  refine ne (eo_mv rfl rfl) rfl ?_
  refine ng rfl rfl (fun h => eo_field rfl f24_2 rfl) rfl ?_
  refine ng rfl rfl (fun h => by first | exact eo_load 0 rfl s22 (ev_if h rfl) rfl rfl rfl | exact eo_load 1 rfl s22 (ev_if h rfl) rfl rfl rfl | exact eo_load 2 rfl s22 (ev_if h rfl) rfl rfl rfl | exact eo_load 3 rfl s22 (ev_if h rfl) rfl rfl rfl | exact eo_load 4 rfl s22 (ev_if h rfl) rfl rfl rfl | exact eo_load 5 rfl s22 (ev_if h rfl) rfl rfl rfl | exact eo_load 6 rfl s22 (ev_if h rfl) rfl rfl rfl | exact eo_load 7 rfl s22 (ev_if h rfl) rfl rfl rfl | exact eo_load 8 rfl s22 (ev_if h rfl) rfl rfl rfl | exact eo_load 9 rfl s22 (ev_if h rfl) rfl rfl rfl) rfl ?_
  refine ng rfl rfl (fun h => eo_len rfl Try.underlying22 (ev_if h rfl)) rfl ?_
  refine ng rfl rfl (fun h => eo_gtr rfl (ev_if h rfl) rfl) rfl ?_
  refine ne (eo_or rfl rfl (fun hb => ev_if hb rfl)) rfl ?_
  refine ne (eo_mv rfl rfl) rfl ?_
  refine ng rfl rfl (fun h => eo_field rfl f55_2 rfl) rfl ?_
  refine ng rfl rfl (fun h => by first | exact eo_load 0 rfl s53 (ev_if h rfl) rfl rfl rfl | exact eo_load 1 rfl s53 (ev_if h rfl) rfl rfl rfl | exact eo_load 2 rfl s53 (ev_if h rfl) rfl rfl rfl | exact eo_load 3 rfl s53 (ev_if h rfl) rfl rfl rfl | exact eo_load 4 rfl s53 (ev_if h rfl) rfl rfl rfl | exact eo_load 5 rfl s53 (ev_if h rfl) rfl rfl rfl | exact eo_load 6 rfl s53 (ev_if h rfl) rfl rfl rfl | exact eo_load 7 rfl s53 (ev_if h rfl) rfl rfl rfl | exact eo_load 8 rfl s53 (ev_if h rfl) rfl rfl rfl | exact eo_load 9 rfl s53 (ev_if h rfl) rfl rfl rfl) rfl ?_
  refine ng rfl rfl (fun h => eo_len rfl Try.underlying53 (ev_if h rfl)) rfl ?_
  refine ng rfl rfl (fun h => eo_gtr rfl (ev_if h rfl) rfl) rfl ?_
  refine ne (eo_or rfl rfl (fun hb => ev_if hb rfl)) rfl ?_
  refine ne (eo_mv rfl rfl) rfl ?_
  refine ng rfl rfl (fun h => eo_field rfl f55_2 rfl) rfl ?_
  refine ng rfl rfl (fun h => by first | exact eo_load 0 rfl s53 (ev_if h rfl) rfl rfl rfl | exact eo_load 1 rfl s53 (ev_if h rfl) rfl rfl rfl | exact eo_load 2 rfl s53 (ev_if h rfl) rfl rfl rfl | exact eo_load 3 rfl s53 (ev_if h rfl) rfl rfl rfl | exact eo_load 4 rfl s53 (ev_if h rfl) rfl rfl rfl | exact eo_load 5 rfl s53 (ev_if h rfl) rfl rfl rfl | exact eo_load 6 rfl s53 (ev_if h rfl) rfl rfl rfl | exact eo_load 7 rfl s53 (ev_if h rfl) rfl rfl rfl | exact eo_load 8 rfl s53 (ev_if h rfl) rfl rfl rfl | exact eo_load 9 rfl s53 (ev_if h rfl) rfl rfl rfl) rfl ?_
  refine ng rfl rfl (fun h => eo_len rfl Try.underlying53 (ev_if h rfl)) rfl ?_
  refine ng rfl rfl (fun h => eo_gtr rfl (ev_if h rfl) rfl) rfl ?_
  refine ne (eo_or rfl rfl (fun hb => ev_if hb rfl)) rfl ?_
  refine go_nil ?_
  refine gq_next ?_
  refine gc_cond rfl (fun hc38 => ?_) (fun hc38 => ?_)
  ·
    refine gc_seq ?_
    refine gc_region ?_
    refine ne (eo_call rfl en13 rfl (fun W _ => examples_c W)) rfl ?_
    refine ne (eo_as rfl rfl) rfl ?_
    refine go_nil ?_
    refine gq_next ?_
    refine gc_ret ?_
    refine gq_then_ret ?_
    refine gq_results (res1 rfl rfl) ?_
    first
      | exact fun W' hO => ⟨rfl, hO.toExt⟩
      | exact fun W' hO => ⟨ret_bool (by simp [eqM_rf]), hO.toExt⟩
  ·
    have hq := hc38
    simp only [Bool.or_eq_false_iff, decide_eq_false_iff_not] at hq
    obtain ⟨⟨⟨q1, q2⟩, q3⟩, q4⟩ := hq
    refine gc_skip ?_
    refine gq_next ?_
    refine gc_seq ?_
    refine gc_seq ?_
    refine gc_region ?_
    refine ne (eo_mv rfl rfl) rfl ?_
    refine ne (eo_mv rfl rfl) rfl ?_
    refine ne (eo_call rfl en12 rfl (fun W _ => small_c _ _ W)) rfl ?_
    refine go_nil ?_
    refine gq_next ?_
    refine gc_cond rfl (fun hc42 => ?_) (fun hc42 => ?_)
    ·
      refine gc_seq ?_
      refine gc_region ?_
      refine ne (eo_mv rfl rfl) rfl ?_
      refine ne (eo_mv rfl rfl) rfl ?_
      refine nx (xo_fresh rfl en26 rfl (fun W' hO => new_ok _ _ W' hf)) rfl ?_
      rintro _ _ ⟨_, ⟨ga, ca, spa, rfl, rfl, hca⟩, rfl⟩
      refine ne (eo_mv rfl rfl) rfl ?_
      refine ne (eo_extract rfl rfl rfl) rfl ?_
      refine ne (eo_extract rfl rfl rfl) rfl ?_
      refine nx (xo_alloc rfl z24) rfl ?_
      rintro _ _ ⟨g13, rfl, rfl⟩
      refine nu (by first | exact xo_storeA 0 rfl a24 rfl rfl (ones_cons (by first | rfl | exact AS.one) (ones_cons (by first | rfl | exact AS.one) (ones_cons (by first | rfl | exact AS.one) ones_nil))) rfl rfl rfl rfl | exact xo_storeA 1 rfl a24 rfl rfl (ones_cons (by first | rfl | exact AS.one) (ones_cons (by first | rfl | exact AS.one) (ones_cons (by first | rfl | exact AS.one) ones_nil))) rfl rfl rfl rfl | exact xo_storeA 2 rfl a24 rfl rfl (ones_cons (by first | rfl | exact AS.one) (ones_cons (by first | rfl | exact AS.one) (ones_cons (by first | rfl | exact AS.one) ones_nil))) rfl rfl rfl rfl | exact xo_storeA 3 rfl a24 rfl rfl (ones_cons (by first | rfl | exact AS.one) (ones_cons (by first | rfl | exact AS.one) (ones_cons (by first | rfl | exact AS.one) ones_nil))) rfl rfl rfl rfl | exact xo_storeA 4 rfl a24 rfl rfl (ones_cons (by first | rfl | exact AS.one) (ones_cons (by first | rfl | exact AS.one) (ones_cons (by first | rfl | exact AS.one) ones_nil))) rfl rfl rfl rfl | exact xo_storeA 5 rfl a24 rfl rfl (ones_cons (by first | rfl | exact AS.one) (ones_cons (by first | rfl | exact AS.one) (ones_cons (by first | rfl | exact AS.one) ones_nil))) rfl rfl rfl rfl | exact xo_storeA 6 rfl a24 rfl rfl (ones_cons (by first | rfl | exact AS.one) (ones_cons (by first | rfl | exact AS.one) (ones_cons (by first | rfl | exact AS.one) ones_nil))) rfl rfl rfl rfl | exact xo_storeA 7 rfl a24 rfl rfl (ones_cons (by first | rfl | exact AS.one) (ones_cons (by first | rfl | exact AS.one) (ones_cons (by first | rfl | exact AS.one) ones_nil))) rfl rfl rfl rfl | exact xo_storeA 8 rfl a24 rfl rfl (ones_cons (by first | rfl | exact AS.one) (ones_cons (by first | rfl | exact AS.one) (ones_cons (by first | rfl | exact AS.one) ones_nil))) rfl rfl rfl rfl | exact xo_storeA 9 rfl a24 rfl rfl (ones_cons (by first | rfl | exact AS.one) (ones_cons (by first | rfl | exact AS.one) (ones_cons (by first | rfl | exact AS.one) ones_nil))) rfl rfl rfl rfl) ?_
      rintro _ _ ⟨rfl, rfl⟩
      refine ne (eo_as rfl rfl) rfl ?_
      refine go_nil ?_
      refine gq_next ?_
      refine gc_seq ?_
      refine gc_region ?_
      refine ne (eo_mv rfl rfl) rfl ?_
      refine ne (eo_mv rfl rfl) rfl ?_
      refine nx (xo_fresh rfl en27 rfl (fun W' hO => rnew_ok _ _ W' hf)) rfl ?_
      rintro _ _ ⟨_, ⟨gb, cb, spb, rfl, rfl, hcb⟩, rfl⟩
      refine ne (eo_mv rfl rfl) rfl ?_
      refine ne (eo_extract rfl rfl rfl) rfl ?_
      refine ne (eo_extract rfl rfl rfl) rfl ?_
      refine nx (xo_alloc rfl z24) rfl ?_
      rintro _ _ ⟨g15, rfl, rfl⟩
      refine nu (by first | exact xo_storeA 0 rfl a24 rfl rfl (ones_cons (by first | rfl | exact AS.one) (ones_cons (by first | rfl | exact AS.one) (ones_cons (by first | rfl | exact AS.one) ones_nil))) rfl rfl rfl rfl | exact xo_storeA 1 rfl a24 rfl rfl (ones_cons (by first | rfl | exact AS.one) (ones_cons (by first | rfl | exact AS.one) (ones_cons (by first | rfl | exact AS.one) ones_nil))) rfl rfl rfl rfl | exact xo_storeA 2 rfl a24 rfl rfl (ones_cons (by first | rfl | exact AS.one) (ones_cons (by first | rfl | exact AS.one) (ones_cons (by first | rfl | exact AS.one) ones_nil))) rfl rfl rfl rfl | exact xo_storeA 3 rfl a24 rfl rfl (ones_cons (by first | rfl | exact AS.one) (ones_cons (by first | rfl | exact AS.one) (ones_cons (by first | rfl | exact AS.one) ones_nil))) rfl rfl rfl rfl | exact xo_storeA 4 rfl a24 rfl rfl (ones_cons (by first | rfl | exact AS.one) (ones_cons (by first | rfl | exact AS.one) (ones_cons (by first | rfl | exact AS.one) ones_nil))) rfl rfl rfl rfl | exact xo_storeA 5 rfl a24 rfl rfl (ones_cons (by first | rfl | exact AS.one) (ones_cons (by first | rfl | exact AS.one) (ones_cons (by first | rfl | exact AS.one) ones_nil))) rfl rfl rfl rfl | exact xo_storeA 6 rfl a24 rfl rfl (ones_cons (by first | rfl | exact AS.one) (ones_cons (by first | rfl | exact AS.one) (ones_cons (by first | rfl | exact AS.one) ones_nil))) rfl rfl rfl rfl | exact xo_storeA 7 rfl a24 rfl rfl (ones_cons (by first | rfl | exact AS.one) (ones_cons (by first | rfl | exact AS.one) (ones_cons (by first | rfl | exact AS.one) ones_nil))) rfl rfl rfl rfl | exact xo_storeA 8 rfl a24 rfl rfl (ones_cons (by first | rfl | exact AS.one) (ones_cons (by first | rfl | exact AS.one) (ones_cons (by first | rfl | exact AS.one) ones_nil))) rfl rfl rfl rfl | exact xo_storeA 9 rfl a24 rfl rfl (ones_cons (by first | rfl | exact AS.one) (ones_cons (by first | rfl | exact AS.one) (ones_cons (by first | rfl | exact AS.one) ones_nil))) rfl rfl rfl rfl) ?_
      rintro _ _ ⟨rfl, rfl⟩
      refine ne (eo_as rfl rfl) rfl ?_
      refine go_nil ?_
      refine gq_next ?_
      refine gc_seq ?_
      refine gc_region ?_
      refine ne (by first | exact eo_loadA 0 rfl a24 rfl rfl rfl rfl | exact eo_loadA 1 rfl a24 rfl rfl rfl rfl | exact eo_loadA 2 rfl a24 rfl rfl rfl rfl | exact eo_loadA 3 rfl a24 rfl rfl rfl rfl | exact eo_loadA 4 rfl a24 rfl rfl rfl rfl | exact eo_loadA 5 rfl a24 rfl rfl rfl rfl | exact eo_loadA 6 rfl a24 rfl rfl rfl rfl | exact eo_loadA 7 rfl a24 rfl rfl rfl rfl | exact eo_loadA 8 rfl a24 rfl rfl rfl rfl | exact eo_loadA 9 rfl a24 rfl rfl rfl rfl) rfl ?_
      refine ne (by first | exact eo_loadA 0 rfl a24 rfl rfl rfl rfl | exact eo_loadA 1 rfl a24 rfl rfl rfl rfl | exact eo_loadA 2 rfl a24 rfl rfl rfl rfl | exact eo_loadA 3 rfl a24 rfl rfl rfl rfl | exact eo_loadA 4 rfl a24 rfl rfl rfl rfl | exact eo_loadA 5 rfl a24 rfl rfl rfl rfl | exact eo_loadA 6 rfl a24 rfl rfl rfl rfl | exact eo_loadA 7 rfl a24 rfl rfl rfl rfl | exact eo_loadA 8 rfl a24 rfl rfl rfl rfl | exact eo_loadA 9 rfl a24 rfl rfl rfl rfl) rfl ?_
      refine ne (eo_call rfl en16 rfl (fun W' hO => same_c _ _ _ _ _ _ _ _ _ _ _ _ W' (by omega) (tabs_rd hO 3 rfl) (tabs_rd hO 1 rfl))) rfl ?_
      refine ne (eo_not rfl rfl) rfl ?_
      refine ne (eo_mv rfl rfl) rfl ?_
      refine ng rfl rfl (fun h => eo_mv rfl rfl) rfl ?_
      refine ng rfl rfl (fun h => eo_mv rfl rfl) rfl ?_
      refine ng rfl rfl (fun h => eo_neq rfl (ev_if h rfl) (ev_if h rfl)) rfl ?_
      refine ne (eo_or rfl rfl (fun hb => ev_if hb rfl)) rfl ?_
      refine go_nil ?_
      refine gq_next ?_
      refine gc_cond rfl (fun hc63 => ?_) (fun hc63 => ?_)
      ·
        exact absurd hc63 (by simp [eqM_rf])
      ·
        refine gc_skip ?_
        refine gq_next ?_
        refine gc_seq ?_
        refine gc_draw [] [0, 1, 2, 3, 4, 5, 6, 7, 8, 9, 10, 11, 12, 13, 14, 15, 16, 17, 18, 19, 20, 21, 22, 23, 24, 25, 26, 27, 28, 29, 30, 31, 32, 33, 34, 35, 36, 37, 38, 39, 40, 41, 42, 43, 44, 45, 46, 47, 48, 49, 50, 51, 52, 53, 54] [] [] (by kernel_rfl) (by kernel_rfl) ?_
        refine gp_nil ?_
        refine de rfl (by first | exact eo_loadA 0 rfl a24 rfl rfl rfl rfl | exact eo_loadA 1 rfl a24 rfl rfl rfl rfl | exact eo_loadA 2 rfl a24 rfl rfl rfl rfl | exact eo_loadA 3 rfl a24 rfl rfl rfl rfl | exact eo_loadA 4 rfl a24 rfl rfl rfl rfl | exact eo_loadA 5 rfl a24 rfl rfl rfl rfl | exact eo_loadA 6 rfl a24 rfl rfl rfl rfl | exact eo_loadA 7 rfl a24 rfl rfl rfl rfl | exact eo_loadA 8 rfl a24 rfl rfl rfl rfl | exact eo_loadA 9 rfl a24 rfl rfl rfl rfl) rfl ?_
        refine de rfl (eo_call rfl en23 rfl (fun W _ => check_c _ _ _ _ _ W)) rfl ?_
        refine de rfl (by first | exact eo_loadA 0 rfl a24 rfl rfl rfl rfl | exact eo_loadA 1 rfl a24 rfl rfl rfl rfl | exact eo_loadA 2 rfl a24 rfl rfl rfl rfl | exact eo_loadA 3 rfl a24 rfl rfl rfl rfl | exact eo_loadA 4 rfl a24 rfl rfl rfl rfl | exact eo_loadA 5 rfl a24 rfl rfl rfl rfl | exact eo_loadA 6 rfl a24 rfl rfl rfl rfl | exact eo_loadA 7 rfl a24 rfl rfl rfl rfl | exact eo_loadA 8 rfl a24 rfl rfl rfl rfl | exact eo_loadA 9 rfl a24 rfl rfl rfl rfl) rfl ?_
        refine de rfl (eo_call rfl en28 rfl (fun W _ => rcheck_c _ _ _ _ _ W)) rfl ?_
        refine de rfl (eo_eql rfl rfl rfl) rfl ?_
        refine de rfl (eo_mv rfl rfl) rfl ?_
        refine dg rfl rfl rfl (fun h => by first | exact eo_loadA 0 rfl a55 rfl rfl rfl rfl | exact eo_loadA 1 rfl a55 rfl rfl rfl rfl | exact eo_loadA 2 rfl a55 rfl rfl rfl rfl | exact eo_loadA 3 rfl a55 rfl rfl rfl rfl | exact eo_loadA 4 rfl a55 rfl rfl rfl rfl | exact eo_loadA 5 rfl a55 rfl rfl rfl rfl | exact eo_loadA 6 rfl a55 rfl rfl rfl rfl | exact eo_loadA 7 rfl a55 rfl rfl rfl rfl | exact eo_loadA 8 rfl a55 rfl rfl rfl rfl | exact eo_loadA 9 rfl a55 rfl rfl rfl rfl) rfl ?_
        refine dg rfl rfl rfl (fun h => eo_call rfl en29 (evs_cons (ev_if h rfl) evs_nil) (fun W _ => checkim_c _ _ _ _ _ W)) rfl ?_
        refine dg rfl rfl rfl (fun h => by first | exact eo_loadA 0 rfl a55 rfl rfl rfl rfl | exact eo_loadA 1 rfl a55 rfl rfl rfl rfl | exact eo_loadA 2 rfl a55 rfl rfl rfl rfl | exact eo_loadA 3 rfl a55 rfl rfl rfl rfl | exact eo_loadA 4 rfl a55 rfl rfl rfl rfl | exact eo_loadA 5 rfl a55 rfl rfl rfl rfl | exact eo_loadA 6 rfl a55 rfl rfl rfl rfl | exact eo_loadA 7 rfl a55 rfl rfl rfl rfl | exact eo_loadA 8 rfl a55 rfl rfl rfl rfl | exact eo_loadA 9 rfl a55 rfl rfl rfl rfl) rfl ?_
        refine dg rfl rfl rfl (fun h => eo_call rfl en30 (evs_cons (ev_if h rfl) evs_nil) (fun W _ => rcheckim_c _ _ _ _ _ W)) rfl ?_
        refine dg rfl rfl rfl (fun h => eo_eql rfl (ev_if h rfl) (ev_if h rfl)) rfl ?_
        refine de rfl (eo_and rfl rfl (fun hb => ev_if hb rfl)) rfl ?_
        refine de rfl (eo_mv rfl rfl) rfl ?_
        refine dg rfl rfl rfl (fun h => by first | exact eo_loadA 0 rfl a24 rfl rfl rfl rfl | exact eo_loadA 1 rfl a24 rfl rfl rfl rfl | exact eo_loadA 2 rfl a24 rfl rfl rfl rfl | exact eo_loadA 3 rfl a24 rfl rfl rfl rfl | exact eo_loadA 4 rfl a24 rfl rfl rfl rfl | exact eo_loadA 5 rfl a24 rfl rfl rfl rfl | exact eo_loadA 6 rfl a24 rfl rfl rfl rfl | exact eo_loadA 7 rfl a24 rfl rfl rfl rfl | exact eo_loadA 8 rfl a24 rfl rfl rfl rfl | exact eo_loadA 9 rfl a24 rfl rfl rfl rfl) rfl ?_
        refine dg rfl rfl rfl (fun h => eo_mv rfl rfl) rfl ?_
        refine dg rfl rfl rfl (fun h => eo_mv rfl rfl) rfl ?_
        refine dg rfl rfl rfl (fun h => eo_call rfl en31 (evs_cons (ev_if h rfl) (evs_cons (ev_if h rfl) (evs_cons (ev_if h rfl) evs_nil))) (fun W' hO => at_c _ _ _ _ _ _ _ _ W' (hr0.old0 hO))) rfl ?_
        refine dg rfl rfl rfl (fun h => by first | exact eo_loadA 0 rfl a24 rfl rfl rfl rfl | exact eo_loadA 1 rfl a24 rfl rfl rfl rfl | exact eo_loadA 2 rfl a24 rfl rfl rfl rfl | exact eo_loadA 3 rfl a24 rfl rfl rfl rfl | exact eo_loadA 4 rfl a24 rfl rfl rfl rfl | exact eo_loadA 5 rfl a24 rfl rfl rfl rfl | exact eo_loadA 6 rfl a24 rfl rfl rfl rfl | exact eo_loadA 7 rfl a24 rfl rfl rfl rfl | exact eo_loadA 8 rfl a24 rfl rfl rfl rfl | exact eo_loadA 9 rfl a24 rfl rfl rfl rfl) rfl ?_
        refine dg rfl rfl rfl (fun h => eo_mv rfl rfl) rfl ?_
        refine dg rfl rfl rfl (fun h => eo_mv rfl rfl) rfl ?_
        refine dg rfl rfl rfl (fun h => eo_call rfl en32 (evs_cons (ev_if h rfl) (evs_cons (ev_if h rfl) (evs_cons (ev_if h rfl) evs_nil))) (fun W' hO => rat_c _ _ _ _ _ _ _ _ W' (hr0.old0 hO))) rfl ?_
        refine dg rfl rfl rfl (fun h => eo_beql rfl (ev_if h rfl) (ev_if h rfl) Try.underlying4) rfl ?_
        refine de rfl (eo_and rfl rfl (fun hb => ev_if hb rfl)) rfl ?_
        refine de rfl (eo_mv rfl rfl) rfl ?_
        refine dg rfl rfl rfl (fun h => by first | exact eo_loadA 0 rfl a24 rfl rfl rfl rfl | exact eo_loadA 1 rfl a24 rfl rfl rfl rfl | exact eo_loadA 2 rfl a24 rfl rfl rfl rfl | exact eo_loadA 3 rfl a24 rfl rfl rfl rfl | exact eo_loadA 4 rfl a24 rfl rfl rfl rfl | exact eo_loadA 5 rfl a24 rfl rfl rfl rfl | exact eo_loadA 6 rfl a24 rfl rfl rfl rfl | exact eo_loadA 7 rfl a24 rfl rfl rfl rfl | exact eo_loadA 8 rfl a24 rfl rfl rfl rfl | exact eo_loadA 9 rfl a24 rfl rfl rfl rfl) rfl ?_
        refine dg rfl rfl rfl (fun h => by first | exact eo_loadA 0 rfl a24 rfl rfl rfl rfl | exact eo_loadA 1 rfl a24 rfl rfl rfl rfl | exact eo_loadA 2 rfl a24 rfl rfl rfl rfl | exact eo_loadA 3 rfl a24 rfl rfl rfl rfl | exact eo_loadA 4 rfl a24 rfl rfl rfl rfl | exact eo_loadA 5 rfl a24 rfl rfl rfl rfl | exact eo_loadA 6 rfl a24 rfl rfl rfl rfl | exact eo_loadA 7 rfl a24 rfl rfl rfl rfl | exact eo_loadA 8 rfl a24 rfl rfl rfl rfl | exact eo_loadA 9 rfl a24 rfl rfl rfl rfl) rfl ?_
        refine dg rfl rfl rfl (fun h => eo_call rfl en33 (evs_cons (ev_if h rfl) (evs_cons (ev_if h rfl) evs_nil)) (fun W' hO => equal_c _ _ _ _ _ _ _ _ _ _ _ _ W' (by omega) (hr0.old0 hO) (hr1.old0 hO))) rfl ?_
        refine dg rfl rfl rfl (fun h => by first | exact eo_loadA 0 rfl a24 rfl rfl rfl rfl | exact eo_loadA 1 rfl a24 rfl rfl rfl rfl | exact eo_loadA 2 rfl a24 rfl rfl rfl rfl | exact eo_loadA 3 rfl a24 rfl rfl rfl rfl | exact eo_loadA 4 rfl a24 rfl rfl rfl rfl | exact eo_loadA 5 rfl a24 rfl rfl rfl rfl | exact eo_loadA 6 rfl a24 rfl rfl rfl rfl | exact eo_loadA 7 rfl a24 rfl rfl rfl rfl | exact eo_loadA 8 rfl a24 rfl rfl rfl rfl | exact eo_loadA 9 rfl a24 rfl rfl rfl rfl) rfl ?_
        refine dg rfl rfl rfl (fun h => by first | exact eo_loadA 0 rfl a24 rfl rfl rfl rfl | exact eo_loadA 1 rfl a24 rfl rfl rfl rfl | exact eo_loadA 2 rfl a24 rfl rfl rfl rfl | exact eo_loadA 3 rfl a24 rfl rfl rfl rfl | exact eo_loadA 4 rfl a24 rfl rfl rfl rfl | exact eo_loadA 5 rfl a24 rfl rfl rfl rfl | exact eo_loadA 6 rfl a24 rfl rfl rfl rfl | exact eo_loadA 7 rfl a24 rfl rfl rfl rfl | exact eo_loadA 8 rfl a24 rfl rfl rfl rfl | exact eo_loadA 9 rfl a24 rfl rfl rfl rfl) rfl ?_
        refine dg rfl rfl rfl (fun h => eo_call rfl en16 (evs_cons (ev_if h rfl) (evs_cons (ev_if h rfl) evs_nil)) (fun W' hO => same_c _ _ _ _ _ _ _ _ _ _ _ _ W' (by omega) (hr0.old0 hO) (hr1.old0 hO))) rfl ?_
        refine dg rfl rfl rfl (fun h => eo_beql rfl (ev_if h rfl) (ev_if h rfl) Try.underlying4) rfl ?_
        refine de rfl (eo_and rfl rfl (fun hb => ev_if hb rfl)) rfl ?_
        refine de rfl (eo_mv rfl rfl) rfl ?_
        refine dg rfl rfl rfl (fun h => by first | exact eo_loadA 0 rfl a55 rfl rfl rfl rfl | exact eo_loadA 1 rfl a55 rfl rfl rfl rfl | exact eo_loadA 2 rfl a55 rfl rfl rfl rfl | exact eo_loadA 3 rfl a55 rfl rfl rfl rfl | exact eo_loadA 4 rfl a55 rfl rfl rfl rfl | exact eo_loadA 5 rfl a55 rfl rfl rfl rfl | exact eo_loadA 6 rfl a55 rfl rfl rfl rfl | exact eo_loadA 7 rfl a55 rfl rfl rfl rfl | exact eo_loadA 8 rfl a55 rfl rfl rfl rfl | exact eo_loadA 9 rfl a55 rfl rfl rfl rfl) rfl ?_
        refine dg rfl rfl rfl (fun h => by first | exact eo_loadA 0 rfl a55 rfl rfl rfl rfl | exact eo_loadA 1 rfl a55 rfl rfl rfl rfl | exact eo_loadA 2 rfl a55 rfl rfl rfl rfl | exact eo_loadA 3 rfl a55 rfl rfl rfl rfl | exact eo_loadA 4 rfl a55 rfl rfl rfl rfl | exact eo_loadA 5 rfl a55 rfl rfl rfl rfl | exact eo_loadA 6 rfl a55 rfl rfl rfl rfl | exact eo_loadA 7 rfl a55 rfl rfl rfl rfl | exact eo_loadA 8 rfl a55 rfl rfl rfl rfl | exact eo_loadA 9 rfl a55 rfl rfl rfl rfl) rfl ?_
        refine dg rfl rfl rfl (fun h => eo_call rfl en34 (evs_cons (ev_if h rfl) (evs_cons (ev_if h rfl) evs_nil)) (fun W' hO => equalim_c _ _ _ _ _ _ _ _ _ _ _ _ W' (by omega) (hr2.old0 hO) (hr3.old0 hO))) rfl ?_
        refine dg rfl rfl rfl (fun h => by first | exact eo_loadA 0 rfl a55 rfl rfl rfl rfl | exact eo_loadA 1 rfl a55 rfl rfl rfl rfl | exact eo_loadA 2 rfl a55 rfl rfl rfl rfl | exact eo_loadA 3 rfl a55 rfl rfl rfl rfl | exact eo_loadA 4 rfl a55 rfl rfl rfl rfl | exact eo_loadA 5 rfl a55 rfl rfl rfl rfl | exact eo_loadA 6 rfl a55 rfl rfl rfl rfl | exact eo_loadA 7 rfl a55 rfl rfl rfl rfl | exact eo_loadA 8 rfl a55 rfl rfl rfl rfl | exact eo_loadA 9 rfl a55 rfl rfl rfl rfl) rfl ?_
        refine dg rfl rfl rfl (fun h => by first | exact eo_loadA 0 rfl a55 rfl rfl rfl rfl | exact eo_loadA 1 rfl a55 rfl rfl rfl rfl | exact eo_loadA 2 rfl a55 rfl rfl rfl rfl | exact eo_loadA 3 rfl a55 rfl rfl rfl rfl | exact eo_loadA 4 rfl a55 rfl rfl rfl rfl | exact eo_loadA 5 rfl a55 rfl rfl rfl rfl | exact eo_loadA 6 rfl a55 rfl rfl rfl rfl | exact eo_loadA 7 rfl a55 rfl rfl rfl rfl | exact eo_loadA 8 rfl a55 rfl rfl rfl rfl | exact eo_loadA 9 rfl a55 rfl rfl rfl rfl) rfl ?_
        refine dg rfl rfl rfl (fun h => eo_call rfl en35 (evs_cons (ev_if h rfl) (evs_cons (ev_if h rfl) evs_nil)) (fun W' hO => requalim_c _ _ _ _ _ _ _ _ _ _ _ _ W' (by omega) (hr2.old0 hO) (hr3.old0 hO))) rfl ?_
        refine dg rfl rfl rfl (fun h => eo_beql rfl (ev_if h rfl) (ev_if h rfl) Try.underlying4) rfl ?_
        refine de rfl (eo_and rfl rfl (fun hb => ev_if hb rfl)) rfl ?_
        refine de rfl (eo_mv rfl rfl) rfl ?_
        refine dg rfl rfl rfl (fun h => by first | exact eo_loadA 0 rfl a24 rfl rfl rfl rfl | exact eo_loadA 1 rfl a24 rfl rfl rfl rfl | exact eo_loadA 2 rfl a24 rfl rfl rfl rfl | exact eo_loadA 3 rfl a24 rfl rfl rfl rfl | exact eo_loadA 4 rfl a24 rfl rfl rfl rfl | exact eo_loadA 5 rfl a24 rfl rfl rfl rfl | exact eo_loadA 6 rfl a24 rfl rfl rfl rfl | exact eo_loadA 7 rfl a24 rfl rfl rfl rfl | exact eo_loadA 8 rfl a24 rfl rfl rfl rfl | exact eo_loadA 9 rfl a24 rfl rfl rfl rfl) rfl ?_
        refine dg rfl rfl rfl (fun h => by first | exact eo_loadA 0 rfl a24 rfl rfl rfl rfl | exact eo_loadA 1 rfl a24 rfl rfl rfl rfl | exact eo_loadA 2 rfl a24 rfl rfl rfl rfl | exact eo_loadA 3 rfl a24 rfl rfl rfl rfl | exact eo_loadA 4 rfl a24 rfl rfl rfl rfl | exact eo_loadA 5 rfl a24 rfl rfl rfl rfl | exact eo_loadA 6 rfl a24 rfl rfl rfl rfl | exact eo_loadA 7 rfl a24 rfl rfl rfl rfl | exact eo_loadA 8 rfl a24 rfl rfl rfl rfl | exact eo_loadA 9 rfl a24 rfl rfl rfl rfl) rfl ?_
        refine dg rfl rfl rfl (fun h => eo_call rfl en33 (evs_cons (ev_if h rfl) (evs_cons (ev_if h rfl) evs_nil)) (fun W' hO => equal_c _ _ _ _ _ _ _ _ _ _ _ _ W' (by omega) (hr0.old0 hO) (hr0.old0 hO))) rfl ?_
        refine de rfl (eo_and rfl rfl (fun hb => ev_if hb rfl)) rfl ?_
        refine de rfl (eo_mv rfl rfl) rfl ?_
        refine dg rfl rfl rfl (fun h => by first | exact eo_loadA 0 rfl a55 rfl rfl rfl rfl | exact eo_loadA 1 rfl a55 rfl rfl rfl rfl | exact eo_loadA 2 rfl a55 rfl rfl rfl rfl | exact eo_loadA 3 rfl a55 rfl rfl rfl rfl | exact eo_loadA 4 rfl a55 rfl rfl rfl rfl | exact eo_loadA 5 rfl a55 rfl rfl rfl rfl | exact eo_loadA 6 rfl a55 rfl rfl rfl rfl | exact eo_loadA 7 rfl a55 rfl rfl rfl rfl | exact eo_loadA 8 rfl a55 rfl rfl rfl rfl | exact eo_loadA 9 rfl a55 rfl rfl rfl rfl) rfl ?_
        refine dg rfl rfl rfl (fun h => by first | exact eo_loadA 0 rfl a55 rfl rfl rfl rfl | exact eo_loadA 1 rfl a55 rfl rfl rfl rfl | exact eo_loadA 2 rfl a55 rfl rfl rfl rfl | exact eo_loadA 3 rfl a55 rfl rfl rfl rfl | exact eo_loadA 4 rfl a55 rfl rfl rfl rfl | exact eo_loadA 5 rfl a55 rfl rfl rfl rfl | exact eo_loadA 6 rfl a55 rfl rfl rfl rfl | exact eo_loadA 7 rfl a55 rfl rfl rfl rfl | exact eo_loadA 8 rfl a55 rfl rfl rfl rfl | exact eo_loadA 9 rfl a55 rfl rfl rfl rfl) rfl ?_
        refine dg rfl rfl rfl (fun h => eo_call rfl en34 (evs_cons (ev_if h rfl) (evs_cons (ev_if h rfl) evs_nil)) (fun W' hO => equalim_c _ _ _ _ _ _ _ _ _ _ _ _ W' (by omega) (hr2.old0 hO) (hr2.old0 hO))) rfl ?_
        refine de rfl (eo_and rfl rfl (fun hb => ev_if hb rfl)) rfl ?_
        refine de rfl (eo_mv rfl rfl) rfl ?_
        refine dg rfl rfl rfl (fun h => eo_call rfl en13 rfl (fun W _ => examples_c W)) rfl ?_
        refine de rfl (eo_and rfl rfl (fun hb => ev_if hb rfl)) rfl ?_
        refine de rfl (eo_as rfl rfl) rfl ?_
        refine ge_nil ?_
        refine ga_nil ?_
        refine gi_nil ?_
        refine gq_nq ?_
        refine gq_next ?_
        refine gc_ret ?_
        refine gq_results (res1 rfl rfl) ?_
        first
          | exact fun W' hO => ⟨rfl, hO.toExt⟩
          | exact fun W' hO => ⟨ret_bool (by simp [eqM_rf]), hO.toExt⟩
    ·
      refine gc_skip ?_
      refine gq_next ?_
      refine gc_seq ?_
      refine gc_draw [] [0, 1, 2, 3, 4, 5, 6, 7, 8, 9, 10, 11, 12, 13, 14, 15, 16, 17, 18, 19, 20, 21, 22, 23, 24, 25, 26, 27, 28, 29, 30, 31, 32, 33, 34, 35, 36, 37, 38, 39, 40, 41, 42, 43, 44, 45, 46, 47, 48, 49, 50, 51, 52, 53, 54] [] [] (by kernel_rfl) (by kernel_rfl) ?_
      refine gp_nil ?_
      refine de rfl (by first | exact eo_loadA 0 rfl a24 rfl rfl rfl rfl | exact eo_loadA 1 rfl a24 rfl rfl rfl rfl | exact eo_loadA 2 rfl a24 rfl rfl rfl rfl | exact eo_loadA 3 rfl a24 rfl rfl rfl rfl | exact eo_loadA 4 rfl a24 rfl rfl rfl rfl | exact eo_loadA 5 rfl a24 rfl rfl rfl rfl | exact eo_loadA 6 rfl a24 rfl rfl rfl rfl | exact eo_loadA 7 rfl a24 rfl rfl rfl rfl | exact eo_loadA 8 rfl a24 rfl rfl rfl rfl | exact eo_loadA 9 rfl a24 rfl rfl rfl rfl) rfl ?_
      refine de rfl (eo_call rfl en23 rfl (fun W _ => check_c _ _ _ _ _ W)) rfl ?_
      refine de rfl (by first | exact eo_loadA 0 rfl a24 rfl rfl rfl rfl | exact eo_loadA 1 rfl a24 rfl rfl rfl rfl | exact eo_loadA 2 rfl a24 rfl rfl rfl rfl | exact eo_loadA 3 rfl a24 rfl rfl rfl rfl | exact eo_loadA 4 rfl a24 rfl rfl rfl rfl | exact eo_loadA 5 rfl a24 rfl rfl rfl rfl | exact eo_loadA 6 rfl a24 rfl rfl rfl rfl | exact eo_loadA 7 rfl a24 rfl rfl rfl rfl | exact eo_loadA 8 rfl a24 rfl rfl rfl rfl | exact eo_loadA 9 rfl a24 rfl rfl rfl rfl) rfl ?_
      refine de rfl (eo_call rfl en28 rfl (fun W _ => rcheck_c _ _ _ _ _ W)) rfl ?_
      refine de rfl (eo_eql rfl rfl rfl) rfl ?_
      refine de rfl (eo_mv rfl rfl) rfl ?_
      refine dg rfl rfl rfl (fun h => by first | exact eo_loadA 0 rfl a55 rfl rfl rfl rfl | exact eo_loadA 1 rfl a55 rfl rfl rfl rfl | exact eo_loadA 2 rfl a55 rfl rfl rfl rfl | exact eo_loadA 3 rfl a55 rfl rfl rfl rfl | exact eo_loadA 4 rfl a55 rfl rfl rfl rfl | exact eo_loadA 5 rfl a55 rfl rfl rfl rfl | exact eo_loadA 6 rfl a55 rfl rfl rfl rfl | exact eo_loadA 7 rfl a55 rfl rfl rfl rfl | exact eo_loadA 8 rfl a55 rfl rfl rfl rfl | exact eo_loadA 9 rfl a55 rfl rfl rfl rfl) rfl ?_
      refine dg rfl rfl rfl (fun h => eo_call rfl en29 (evs_cons (ev_if h rfl) evs_nil) (fun W _ => checkim_c _ _ _ _ _ W)) rfl ?_
      refine dg rfl rfl rfl (fun h => by first | exact eo_loadA 0 rfl a55 rfl rfl rfl rfl | exact eo_loadA 1 rfl a55 rfl rfl rfl rfl | exact eo_loadA 2 rfl a55 rfl rfl rfl rfl | exact eo_loadA 3 rfl a55 rfl rfl rfl rfl | exact eo_loadA 4 rfl a55 rfl rfl rfl rfl | exact eo_loadA 5 rfl a55 rfl rfl rfl rfl | exact eo_loadA 6 rfl a55 rfl rfl rfl rfl | exact eo_loadA 7 rfl a55 rfl rfl rfl rfl | exact eo_loadA 8 rfl a55 rfl rfl rfl rfl | exact eo_loadA 9 rfl a55 rfl rfl rfl rfl) rfl ?_
      refine dg rfl rfl rfl (fun h => eo_call rfl en30 (evs_cons (ev_if h rfl) evs_nil) (fun W _ => rcheckim_c _ _ _ _ _ W)) rfl ?_
      refine dg rfl rfl rfl (fun h => eo_eql rfl (ev_if h rfl) (ev_if h rfl)) rfl ?_
      refine de rfl (eo_and rfl rfl (fun hb => ev_if hb rfl)) rfl ?_
      refine de rfl (eo_mv rfl rfl) rfl ?_
      refine dg rfl rfl rfl (fun h => by first | exact eo_loadA 0 rfl a24 rfl rfl rfl rfl | exact eo_loadA 1 rfl a24 rfl rfl rfl rfl | exact eo_loadA 2 rfl a24 rfl rfl rfl rfl | exact eo_loadA 3 rfl a24 rfl rfl rfl rfl | exact eo_loadA 4 rfl a24 rfl rfl rfl rfl | exact eo_loadA 5 rfl a24 rfl rfl rfl rfl | exact eo_loadA 6 rfl a24 rfl rfl rfl rfl | exact eo_loadA 7 rfl a24 rfl rfl rfl rfl | exact eo_loadA 8 rfl a24 rfl rfl rfl rfl | exact eo_loadA 9 rfl a24 rfl rfl rfl rfl) rfl ?_
      refine dg rfl rfl rfl (fun h => eo_mv rfl rfl) rfl ?_
      refine dg rfl rfl rfl (fun h => eo_mv rfl rfl) rfl ?_
      refine dg rfl rfl rfl (fun h => eo_call rfl en31 (evs_cons (ev_if h rfl) (evs_cons (ev_if h rfl) (evs_cons (ev_if h rfl) evs_nil))) (fun W' hO => at_c _ _ _ _ _ _ _ _ W' (hr0.old0 hO))) rfl ?_
      refine dg rfl rfl rfl (fun h => by first | exact eo_loadA 0 rfl a24 rfl rfl rfl rfl | exact eo_loadA 1 rfl a24 rfl rfl rfl rfl | exact eo_loadA 2 rfl a24 rfl rfl rfl rfl | exact eo_loadA 3 rfl a24 rfl rfl rfl rfl | exact eo_loadA 4 rfl a24 rfl rfl rfl rfl | exact eo_loadA 5 rfl a24 rfl rfl rfl rfl | exact eo_loadA 6 rfl a24 rfl rfl rfl rfl | exact eo_loadA 7 rfl a24 rfl rfl rfl rfl | exact eo_loadA 8 rfl a24 rfl rfl rfl rfl | exact eo_loadA 9 rfl a24 rfl rfl rfl rfl) rfl ?_
      refine dg rfl rfl rfl (fun h => eo_mv rfl rfl) rfl ?_
      refine dg rfl rfl rfl (fun h => eo_mv rfl rfl) rfl ?_
      refine dg rfl rfl rfl (fun h => eo_call rfl en32 (evs_cons (ev_if h rfl) (evs_cons (ev_if h rfl) (evs_cons (ev_if h rfl) evs_nil))) (fun W' hO => rat_c _ _ _ _ _ _ _ _ W' (hr0.old0 hO))) rfl ?_
      refine dg rfl rfl rfl (fun h => eo_beql rfl (ev_if h rfl) (ev_if h rfl) Try.underlying4) rfl ?_
      refine de rfl (eo_and rfl rfl (fun hb => ev_if hb rfl)) rfl ?_
      refine de rfl (eo_mv rfl rfl) rfl ?_
      refine dg rfl rfl rfl (fun h => by first | exact eo_loadA 0 rfl a24 rfl rfl rfl rfl | exact eo_loadA 1 rfl a24 rfl rfl rfl rfl | exact eo_loadA 2 rfl a24 rfl rfl rfl rfl | exact eo_loadA 3 rfl a24 rfl rfl rfl rfl | exact eo_loadA 4 rfl a24 rfl rfl rfl rfl | exact eo_loadA 5 rfl a24 rfl rfl rfl rfl | exact eo_loadA 6 rfl a24 rfl rfl rfl rfl | exact eo_loadA 7 rfl a24 rfl rfl rfl rfl | exact eo_loadA 8 rfl a24 rfl rfl rfl rfl | exact eo_loadA 9 rfl a24 rfl rfl rfl rfl) rfl ?_
      refine dg rfl rfl rfl (fun h => by first | exact eo_loadA 0 rfl a24 rfl rfl rfl rfl | exact eo_loadA 1 rfl a24 rfl rfl rfl rfl | exact eo_loadA 2 rfl a24 rfl rfl rfl rfl | exact eo_loadA 3 rfl a24 rfl rfl rfl rfl | exact eo_loadA 4 rfl a24 rfl rfl rfl rfl | exact eo_loadA 5 rfl a24 rfl rfl rfl rfl | exact eo_loadA 6 rfl a24 rfl rfl rfl rfl | exact eo_loadA 7 rfl a24 rfl rfl rfl rfl | exact eo_loadA 8 rfl a24 rfl rfl rfl rfl | exact eo_loadA 9 rfl a24 rfl rfl rfl rfl) rfl ?_
      refine dg rfl rfl rfl (fun h => eo_call rfl en33 (evs_cons (ev_if h rfl) (evs_cons (ev_if h rfl) evs_nil)) (fun W' hO => equal_c _ _ _ _ _ _ _ _ _ _ _ _ W' (by omega) (hr0.old0 hO) (hr1.old0 hO))) rfl ?_
      refine dg rfl rfl rfl (fun h => by first | exact eo_loadA 0 rfl a24 rfl rfl rfl rfl | exact eo_loadA 1 rfl a24 rfl rfl rfl rfl | exact eo_loadA 2 rfl a24 rfl rfl rfl rfl | exact eo_loadA 3 rfl a24 rfl rfl rfl rfl | exact eo_loadA 4 rfl a24 rfl rfl rfl rfl | exact eo_loadA 5 rfl a24 rfl rfl rfl rfl | exact eo_loadA 6 rfl a24 rfl rfl rfl rfl | exact eo_loadA 7 rfl a24 rfl rfl rfl rfl | exact eo_loadA 8 rfl a24 rfl rfl rfl rfl | exact eo_loadA 9 rfl a24 rfl rfl rfl rfl) rfl ?_
      refine dg rfl rfl rfl (fun h => by first | exact eo_loadA 0 rfl a24 rfl rfl rfl rfl | exact eo_loadA 1 rfl a24 rfl rfl rfl rfl | exact eo_loadA 2 rfl a24 rfl rfl rfl rfl | exact eo_loadA 3 rfl a24 rfl rfl rfl rfl | exact eo_loadA 4 rfl a24 rfl rfl rfl rfl | exact eo_loadA 5 rfl a24 rfl rfl rfl rfl | exact eo_loadA 6 rfl a24 rfl rfl rfl rfl | exact eo_loadA 7 rfl a24 rfl rfl rfl rfl | exact eo_loadA 8 rfl a24 rfl rfl rfl rfl | exact eo_loadA 9 rfl a24 rfl rfl rfl rfl) rfl ?_
      refine dg rfl rfl rfl (fun h => eo_call rfl en16 (evs_cons (ev_if h rfl) (evs_cons (ev_if h rfl) evs_nil)) (fun W' hO => same_c _ _ _ _ _ _ _ _ _ _ _ _ W' (by omega) (hr0.old0 hO) (hr1.old0 hO))) rfl ?_
      refine dg rfl rfl rfl (fun h => eo_beql rfl (ev_if h rfl) (ev_if h rfl) Try.underlying4) rfl ?_
      refine de rfl (eo_and rfl rfl (fun hb => ev_if hb rfl)) rfl ?_
      refine de rfl (eo_mv rfl rfl) rfl ?_
      refine dg rfl rfl rfl (fun h => by first | exact eo_loadA 0 rfl a55 rfl rfl rfl rfl | exact eo_loadA 1 rfl a55 rfl rfl rfl rfl | exact eo_loadA 2 rfl a55 rfl rfl rfl rfl | exact eo_loadA 3 rfl a55 rfl rfl rfl rfl | exact eo_loadA 4 rfl a55 rfl rfl rfl rfl | exact eo_loadA 5 rfl a55 rfl rfl rfl rfl | exact eo_loadA 6 rfl a55 rfl rfl rfl rfl | exact eo_loadA 7 rfl a55 rfl rfl rfl rfl | exact eo_loadA 8 rfl a55 rfl rfl rfl rfl | exact eo_loadA 9 rfl a55 rfl rfl rfl rfl) rfl ?_
      refine dg rfl rfl rfl (fun h => by first | exact eo_loadA 0 rfl a55 rfl rfl rfl rfl | exact eo_loadA 1 rfl a55 rfl rfl rfl rfl | exact eo_loadA 2 rfl a55 rfl rfl rfl rfl | exact eo_loadA 3 rfl a55 rfl rfl rfl rfl | exact eo_loadA 4 rfl a55 rfl rfl rfl rfl | exact eo_loadA 5 rfl a55 rfl rfl rfl rfl | exact eo_loadA 6 rfl a55 rfl rfl rfl rfl | exact eo_loadA 7 rfl a55 rfl rfl rfl rfl | exact eo_loadA 8 rfl a55 rfl rfl rfl rfl | exact eo_loadA 9 rfl a55 rfl rfl rfl rfl) rfl ?_
      refine dg rfl rfl rfl (fun h => eo_call rfl en34 (evs_cons (ev_if h rfl) (evs_cons (ev_if h rfl) evs_nil)) (fun W' hO => equalim_c _ _ _ _ _ _ _ _ _ _ _ _ W' (by omega) (hr2.old0 hO) (hr3.old0 hO))) rfl ?_
      refine dg rfl rfl rfl (fun h => by first | exact eo_loadA 0 rfl a55 rfl rfl rfl rfl | exact eo_loadA 1 rfl a55 rfl rfl rfl rfl | exact eo_loadA 2 rfl a55 rfl rfl rfl rfl | exact eo_loadA 3 rfl a55 rfl rfl rfl rfl | exact eo_loadA 4 rfl a55 rfl rfl rfl rfl | exact eo_loadA 5 rfl a55 rfl rfl rfl rfl | exact eo_loadA 6 rfl a55 rfl rfl rfl rfl | exact eo_loadA 7 rfl a55 rfl rfl rfl rfl | exact eo_loadA 8 rfl a55 rfl rfl rfl rfl | exact eo_loadA 9 rfl a55 rfl rfl rfl rfl) rfl ?_
      refine dg rfl rfl rfl (fun h => by first | exact eo_loadA 0 rfl a55 rfl rfl rfl rfl | exact eo_loadA 1 rfl a55 rfl rfl rfl rfl | exact eo_loadA 2 rfl a55 rfl rfl rfl rfl | exact eo_loadA 3 rfl a55 rfl rfl rfl rfl | exact eo_loadA 4 rfl a55 rfl rfl rfl rfl | exact eo_loadA 5 rfl a55 rfl rfl rfl rfl | exact eo_loadA 6 rfl a55 rfl rfl rfl rfl | exact eo_loadA 7 rfl a55 rfl rfl rfl rfl | exact eo_loadA 8 rfl a55 rfl rfl rfl rfl | exact eo_loadA 9 rfl a55 rfl rfl rfl rfl) rfl ?_
      refine dg rfl rfl rfl (fun h => eo_call rfl en35 (evs_cons (ev_if h rfl) (evs_cons (ev_if h rfl) evs_nil)) (fun W' hO => requalim_c _ _ _ _ _ _ _ _ _ _ _ _ W' (by omega) (hr2.old0 hO) (hr3.old0 hO))) rfl ?_
      refine dg rfl rfl rfl (fun h => eo_beql rfl (ev_if h rfl) (ev_if h rfl) Try.underlying4) rfl ?_
      refine de rfl (eo_and rfl rfl (fun hb => ev_if hb rfl)) rfl ?_
      refine de rfl (eo_mv rfl rfl) rfl ?_
      refine dg rfl rfl rfl (fun h => by first | exact eo_loadA 0 rfl a24 rfl rfl rfl rfl | exact eo_loadA 1 rfl a24 rfl rfl rfl rfl | exact eo_loadA 2 rfl a24 rfl rfl rfl rfl | exact eo_loadA 3 rfl a24 rfl rfl rfl rfl | exact eo_loadA 4 rfl a24 rfl rfl rfl rfl | exact eo_loadA 5 rfl a24 rfl rfl rfl rfl | exact eo_loadA 6 rfl a24 rfl rfl rfl rfl | exact eo_loadA 7 rfl a24 rfl rfl rfl rfl | exact eo_loadA 8 rfl a24 rfl rfl rfl rfl | exact eo_loadA 9 rfl a24 rfl rfl rfl rfl) rfl ?_
      refine dg rfl rfl rfl (fun h => by first | exact eo_loadA 0 rfl a24 rfl rfl rfl rfl | exact eo_loadA 1 rfl a24 rfl rfl rfl rfl | exact eo_loadA 2 rfl a24 rfl rfl rfl rfl | exact eo_loadA 3 rfl a24 rfl rfl rfl rfl | exact eo_loadA 4 rfl a24 rfl rfl rfl rfl | exact eo_loadA 5 rfl a24 rfl rfl rfl rfl | exact eo_loadA 6 rfl a24 rfl rfl rfl rfl | exact eo_loadA 7 rfl a24 rfl rfl rfl rfl | exact eo_loadA 8 rfl a24 rfl rfl rfl rfl | exact eo_loadA 9 rfl a24 rfl rfl rfl rfl) rfl ?_
      refine dg rfl rfl rfl (fun h => eo_call rfl en33 (evs_cons (ev_if h rfl) (evs_cons (ev_if h rfl) evs_nil)) (fun W' hO => equal_c _ _ _ _ _ _ _ _ _ _ _ _ W' (by omega) (hr0.old0 hO) (hr0.old0 hO))) rfl ?_
      refine de rfl (eo_and rfl rfl (fun hb => ev_if hb rfl)) rfl ?_
      refine de rfl (eo_mv rfl rfl) rfl ?_
      refine dg rfl rfl rfl (fun h => by first | exact eo_loadA 0 rfl a55 rfl rfl rfl rfl | exact eo_loadA 1 rfl a55 rfl rfl rfl rfl | exact eo_loadA 2 rfl a55 rfl rfl rfl rfl | exact eo_loadA 3 rfl a55 rfl rfl rfl rfl | exact eo_loadA 4 rfl a55 rfl rfl rfl rfl | exact eo_loadA 5 rfl a55 rfl rfl rfl rfl | exact eo_loadA 6 rfl a55 rfl rfl rfl rfl | exact eo_loadA 7 rfl a55 rfl rfl rfl rfl | exact eo_loadA 8 rfl a55 rfl rfl rfl rfl | exact eo_loadA 9 rfl a55 rfl rfl rfl rfl) rfl ?_
      refine dg rfl rfl rfl (fun h => by first | exact eo_loadA 0 rfl a55 rfl rfl rfl rfl | exact eo_loadA 1 rfl a55 rfl rfl rfl rfl | exact eo_loadA 2 rfl a55 rfl rfl rfl rfl | exact eo_loadA 3 rfl a55 rfl rfl rfl rfl | exact eo_loadA 4 rfl a55 rfl rfl rfl rfl | exact eo_loadA 5 rfl a55 rfl rfl rfl rfl | exact eo_loadA 6 rfl a55 rfl rfl rfl rfl | exact eo_loadA 7 rfl a55 rfl rfl rfl rfl | exact eo_loadA 8 rfl a55 rfl rfl rfl rfl | exact eo_loadA 9 rfl a55 rfl rfl rfl rfl) rfl ?_
      refine dg rfl rfl rfl (fun h => eo_call rfl en34 (evs_cons (ev_if h rfl) (evs_cons (ev_if h rfl) evs_nil)) (fun W' hO => equalim_c _ _ _ _ _ _ _ _ _ _ _ _ W' (by omega) (hr2.old0 hO) (hr2.old0 hO))) rfl ?_
      refine de rfl (eo_and rfl rfl (fun hb => ev_if hb rfl)) rfl ?_
      refine de rfl (eo_mv rfl rfl) rfl ?_
      refine dg rfl rfl rfl (fun h => eo_call rfl en13 rfl (fun W _ => examples_c W)) rfl ?_
      refine de rfl (eo_and rfl rfl (fun hb => ev_if hb rfl)) rfl ?_
      refine de rfl (eo_as rfl rfl) rfl ?_
      refine ge_nil ?_
      refine ga_nil ?_
      refine gi_nil ?_
      refine gq_nq ?_
      refine gq_next ?_
      refine gc_ret ?_
      refine gq_results (res1 rfl rfl) ?_
      first
        | exact fun W' hO => ⟨rfl, hO.toExt⟩
        | exact fun W' hO => ⟨ret_bool (by simp [eqM_rf]), hO.toExt⟩

/-- barscan/barscanlaw31.RasterMakes -/
theorem makes_no (W0 H0 : Int) (A0 : Option Addr) (n0 c0 : Nat) (f0 : Nat → Bool) (W1 H1 : Int) (A1 : Option Addr) (n1 c1 : Nat) (f1 : Nat → Bool) (W2 H2 : Int) (A2 : Option Addr) (n2 c2 : Nat) (f2 : Nat → Int) (W3 H3 : Int) (A3 : Option Addr) (n3 c3 : Nat) (f3 : Nat → Int) (x y : Int) (w : World) (hr0 : Rd w A0 (tab n0 (bv f0))) (hr1 : Rd w A1 (tab n1 (bv f1))) (hr2 : Rd w A2 (tab n2 (iv .u8 f2))) (hr3 : Rd w A3 (tab n3 (iv .u8 f3))) (hf : fitsB x y = false) :
    Calls Try.prog 8 #[.agg #[.int .i64 W0, .int .i64 H0, .slice A0 n0 c0], .agg #[.int .i64 W1, .int .i64 H1, .slice A1 n1 c1], .agg #[.int .i64 W2, .int .i64 H2, .slice A2 n2 c2], .agg #[.int .i64 W3, .int .i64 H3, .slice A3 n3 c3], .int .i64 x, .int .i64 y] w fun e w' => e = .returned (.bool true) ∧ Ext w w' := by
  refine calls_enter (N := ⟨118, []⟩) ([]) ([]) Try.func8 rfl rfl rfl (Ow.start _) ?_
  refine gc_seq ?_
  refine gc_region ?_
  refine nx (xo_boxA rfl rfl) rfl ?_
  rintro _ _ ⟨g6, rfl, rfl⟩
  refine nx (xo_boxA rfl rfl) rfl ?_
  rintro _ _ ⟨g7, rfl, rfl⟩
  refine nx (xo_boxA rfl rfl) rfl ?_
  rintro _ _ ⟨g8, rfl, rfl⟩
  refine nx (xo_boxA rfl rfl) rfl ?_
  rintro _ _ ⟨g9, rfl, rfl⟩
  refine ne (eo_as rfl rfl) rfl ?_
  refine go_nil ?_
  refine gq_next ?_
  refine gc_seq ?_
  refine gc_seq ?_
  refine gc_region ?_
  refine ne (eo_field rfl f24_2 rfl) rfl ?_
  refine ne (by first | exact eo_load 0 rfl s22 rfl rfl rfl rfl | exact eo_load 1 rfl s22 rfl rfl rfl rfl | exact eo_load 2 rfl s22 rfl rfl rfl rfl | exact eo_load 3 rfl s22 rfl rfl rfl rfl | exact eo_load 4 rfl s22 rfl rfl rfl rfl | exact eo_load 5 rfl s22 rfl rfl rfl rfl | exact eo_load 6 rfl s22 rfl rfl rfl rfl | exact eo_load 7 rfl s22 rfl rfl rfl rfl | exact eo_load 8 rfl s22 rfl rfl rfl rfl | exact eo_load 9 rfl s22 rfl rfl rfl rfl) rfl ?_
  refine ne (eo_len rfl Try.underlying22 rfl) rfl ?_
  refine ne (eo_gtr rfl rfl rfl) rfl ?_
  refine ne (eo_mv rfl rfl) rfl ?_
  refine ng rfl rfl (fun h => eo_field rfl f24_2 rfl) rfl ?_
  refine ng rfl rfl (fun h => by first | exact eo_load 0 rfl s22 (ev_if h rfl) rfl rfl rfl | exact eo_load 1 rfl s22 (ev_if h rfl) rfl rfl rfl | exact eo_load 2 rfl s22 (ev_if h rfl) rfl rfl rfl | exact eo_load 3 rfl s22 (ev_if h rfl) rfl rfl rfl | exact eo_load 4 rfl s22 (ev_if h rfl) rfl rfl rfl | exact eo_load 5 rfl s22 (ev_if h rfl) rfl rfl rfl | exact eo_load 6 rfl s22 (ev_if h rfl) rfl rfl rfl | exact eo_load 7 rfl s22 (ev_if h rfl) rfl rfl rfl | exact eo_load 8 rfl s22 (ev_if h rfl) rfl rfl rfl | exact eo_load 9 rfl s22 (ev_if h rfl) rfl rfl rfl) rfl ?_
  refine ng rfl rfl (fun h => eo_len rfl Try.underlying22 (ev_if h rfl)) rfl ?_
  refine ng rfl rfl (fun h => eo_gtr rfl (ev_if h rfl) rfl) rfl ?_
  refine ne (eo_or rfl rfl (fun hb => ev_if hb rfl)) rfl ?_
  refine ne (eo_mv rfl rfl) rfl ?_
  refine ng rfl rfl (fun h => eo_field rfl f55_2 rfl) rfl ?_
  refine ng rfl rfl (fun h => by first | exact eo_load 0 rfl s53 (ev_if h rfl) rfl rfl rfl | exact eo_load 1 rfl s53 (ev_if h rfl) rfl rfl rfl | exact eo_load 2 rfl s53 (ev_if h rfl) rfl rfl rfl | exact eo_load 3 rfl s53 (ev_if h rfl) rfl rfl rfl | exact eo_load 4 rfl s53 (ev_if h rfl) rfl rfl rfl | exact eo_load 5 rfl s53 (ev_if h rfl) rfl rfl rfl | exact eo_load 6 rfl s53 (ev_if h rfl) rfl rfl rfl | exact eo_load 7 rfl s53 (ev_if h rfl) rfl rfl rfl | exact eo_load 8 rfl s53 (ev_if h rfl) rfl rfl rfl | exact eo_load 9 rfl s53 (ev_if h rfl) rfl rfl rfl) rfl ?_
  refine ng rfl rfl (fun h => eo_len rfl Try.underlying53 (ev_if h rfl)) rfl ?_
  refine ng rfl rfl (fun h => eo_gtr rfl (ev_if h rfl) rfl) rfl ?_
  refine ne (eo_or rfl rfl (fun hb => ev_if hb rfl)) rfl ?_
  refine ne (eo_mv rfl rfl) rfl ?_
  refine ng rfl rfl (fun h => eo_field rfl f55_2 rfl) rfl ?_
  refine ng rfl rfl (fun h => by first | exact eo_load 0 rfl s53 (ev_if h rfl) rfl rfl rfl | exact eo_load 1 rfl s53 (ev_if h rfl) rfl rfl rfl | exact eo_load 2 rfl s53 (ev_if h rfl) rfl rfl rfl | exact eo_load 3 rfl s53 (ev_if h rfl) rfl rfl rfl | exact eo_load 4 rfl s53 (ev_if h rfl) rfl rfl rfl | exact eo_load 5 rfl s53 (ev_if h rfl) rfl rfl rfl | exact eo_load 6 rfl s53 (ev_if h rfl) rfl rfl rfl | exact eo_load 7 rfl s53 (ev_if h rfl) rfl rfl rfl | exact eo_load 8 rfl s53 (ev_if h rfl) rfl rfl rfl | exact eo_load 9 rfl s53 (ev_if h rfl) rfl rfl rfl) rfl ?_
  refine ng rfl rfl (fun h => eo_len rfl Try.underlying53 (ev_if h rfl)) rfl ?_
  refine ng rfl rfl (fun h => eo_gtr rfl (ev_if h rfl) rfl) rfl ?_
  refine ne (eo_or rfl rfl (fun hb => ev_if hb rfl)) rfl ?_
  refine go_nil ?_
  refine gq_next ?_
  refine gc_cond rfl (fun hc38 => ?_) (fun hc38 => ?_)
  ·
    refine gc_seq ?_
    refine gc_region ?_
    refine ne (eo_call rfl en13 rfl (fun W _ => examples_c W)) rfl ?_
    refine ne (eo_as rfl rfl) rfl ?_
    refine go_nil ?_
    refine gq_next ?_
    refine gc_ret ?_
    refine gq_then_ret ?_
    refine gq_results (res1 rfl rfl) ?_
    first
      | exact fun W' hO => ⟨rfl, hO.toExt⟩
      | exact fun W' hO => ⟨ret_bool (by simp [eqM_rf]), hO.toExt⟩
  ·
    have hq := hc38
    simp only [Bool.or_eq_false_iff, decide_eq_false_iff_not] at hq
    obtain ⟨⟨⟨q1, q2⟩, q3⟩, q4⟩ := hq
    refine gc_skip ?_
    refine gq_next ?_
    refine gc_seq ?_
    refine gc_seq ?_
    refine gc_region ?_
    refine ne (eo_mv rfl rfl) rfl ?_
    refine ne (eo_mv rfl rfl) rfl ?_
    refine ne (eo_call rfl en12 rfl (fun W _ => small_c _ _ W)) rfl ?_
    refine go_nil ?_
    refine gq_next ?_
    refine gc_cond rfl (fun hc42 => ?_) (fun hc42 => ?_)
    ·
      refine gc_seq ?_
      refine gc_region ?_
      refine ne (eo_mv rfl rfl) rfl ?_
      refine ne (eo_mv rfl rfl) rfl ?_
      refine ne (eo_call rfl en26 rfl (fun W' hO => new_no _ _ W' hf)) rfl ?_
      refine ne (eo_mv rfl rfl) rfl ?_
      refine ne (eo_extract rfl rfl rfl) rfl ?_
      refine ne (eo_extract rfl rfl rfl) rfl ?_
      refine nx (xo_alloc rfl z24) rfl ?_
      rintro _ _ ⟨g13, rfl, rfl⟩
      refine nu (by first | exact xo_storeA 0 rfl a24 rfl rfl (ones_cons (by first | rfl | exact AS.one) (ones_cons (by first | rfl | exact AS.one) (ones_cons (by first | rfl | exact AS.one) ones_nil))) rfl rfl rfl rfl | exact xo_storeA 1 rfl a24 rfl rfl (ones_cons (by first | rfl | exact AS.one) (ones_cons (by first | rfl | exact AS.one) (ones_cons (by first | rfl | exact AS.one) ones_nil))) rfl rfl rfl rfl | exact xo_storeA 2 rfl a24 rfl rfl (ones_cons (by first | rfl | exact AS.one) (ones_cons (by first | rfl | exact AS.one) (ones_cons (by first | rfl | exact AS.one) ones_nil))) rfl rfl rfl rfl | exact xo_storeA 3 rfl a24 rfl rfl (ones_cons (by first | rfl | exact AS.one) (ones_cons (by first | rfl | exact AS.one) (ones_cons (by first | rfl | exact AS.one) ones_nil))) rfl rfl rfl rfl | exact xo_storeA 4 rfl a24 rfl rfl (ones_cons (by first | rfl | exact AS.one) (ones_cons (by first | rfl | exact AS.one) (ones_cons (by first | rfl | exact AS.one) ones_nil))) rfl rfl rfl rfl | exact xo_storeA 5 rfl a24 rfl rfl (ones_cons (by first | rfl | exact AS.one) (ones_cons (by first | rfl | exact AS.one) (ones_cons (by first | rfl | exact AS.one) ones_nil))) rfl rfl rfl rfl | exact xo_storeA 6 rfl a24 rfl rfl (ones_cons (by first | rfl | exact AS.one) (ones_cons (by first | rfl | exact AS.one) (ones_cons (by first | rfl | exact AS.one) ones_nil))) rfl rfl rfl rfl | exact xo_storeA 7 rfl a24 rfl rfl (ones_cons (by first | rfl | exact AS.one) (ones_cons (by first | rfl | exact AS.one) (ones_cons (by first | rfl | exact AS.one) ones_nil))) rfl rfl rfl rfl | exact xo_storeA 8 rfl a24 rfl rfl (ones_cons (by first | rfl | exact AS.one) (ones_cons (by first | rfl | exact AS.one) (ones_cons (by first | rfl | exact AS.one) ones_nil))) rfl rfl rfl rfl | exact xo_storeA 9 rfl a24 rfl rfl (ones_cons (by first | rfl | exact AS.one) (ones_cons (by first | rfl | exact AS.one) (ones_cons (by first | rfl | exact AS.one) ones_nil))) rfl rfl rfl rfl) ?_
      rintro _ _ ⟨rfl, rfl⟩
      refine ne (eo_as rfl rfl) rfl ?_
      refine go_nil ?_
      refine gq_next ?_
      refine gc_seq ?_
      refine gc_region ?_
      refine ne (eo_mv rfl rfl) rfl ?_
      refine ne (eo_mv rfl rfl) rfl ?_
      refine ne (eo_call rfl en27 rfl (fun W' hO => rnew_no _ _ W' hf)) rfl ?_
      refine ne (eo_mv rfl rfl) rfl ?_
      refine ne (eo_extract rfl rfl rfl) rfl ?_
      refine ne (eo_extract rfl rfl rfl) rfl ?_
      refine nx (xo_alloc rfl z24) rfl ?_
      rintro _ _ ⟨g15, rfl, rfl⟩
      refine nu (by first | exact xo_storeA 0 rfl a24 rfl rfl (ones_cons (by first | rfl | exact AS.one) (ones_cons (by first | rfl | exact AS.one) (ones_cons (by first | rfl | exact AS.one) ones_nil))) rfl rfl rfl rfl | exact xo_storeA 1 rfl a24 rfl rfl (ones_cons (by first | rfl | exact AS.one) (ones_cons (by first | rfl | exact AS.one) (ones_cons (by first | rfl | exact AS.one) ones_nil))) rfl rfl rfl rfl | exact xo_storeA 2 rfl a24 rfl rfl (ones_cons (by first | rfl | exact AS.one) (ones_cons (by first | rfl | exact AS.one) (ones_cons (by first | rfl | exact AS.one) ones_nil))) rfl rfl rfl rfl | exact xo_storeA 3 rfl a24 rfl rfl (ones_cons (by first | rfl | exact AS.one) (ones_cons (by first | rfl | exact AS.one) (ones_cons (by first | rfl | exact AS.one) ones_nil))) rfl rfl rfl rfl | exact xo_storeA 4 rfl a24 rfl rfl (ones_cons (by first | rfl | exact AS.one) (ones_cons (by first | rfl | exact AS.one) (ones_cons (by first | rfl | exact AS.one) ones_nil))) rfl rfl rfl rfl | exact xo_storeA 5 rfl a24 rfl rfl (ones_cons (by first | rfl | exact AS.one) (ones_cons (by first | rfl | exact AS.one) (ones_cons (by first | rfl | exact AS.one) ones_nil))) rfl rfl rfl rfl | exact xo_storeA 6 rfl a24 rfl rfl (ones_cons (by first | rfl | exact AS.one) (ones_cons (by first | rfl | exact AS.one) (ones_cons (by first | rfl | exact AS.one) ones_nil))) rfl rfl rfl rfl | exact xo_storeA 7 rfl a24 rfl rfl (ones_cons (by first | rfl | exact AS.one) (ones_cons (by first | rfl | exact AS.one) (ones_cons (by first | rfl | exact AS.one) ones_nil))) rfl rfl rfl rfl | exact xo_storeA 8 rfl a24 rfl rfl (ones_cons (by first | rfl | exact AS.one) (ones_cons (by first | rfl | exact AS.one) (ones_cons (by first | rfl | exact AS.one) ones_nil))) rfl rfl rfl rfl | exact xo_storeA 9 rfl a24 rfl rfl (ones_cons (by first | rfl | exact AS.one) (ones_cons (by first | rfl | exact AS.one) (ones_cons (by first | rfl | exact AS.one) ones_nil))) rfl rfl rfl rfl) ?_
      rintro _ _ ⟨rfl, rfl⟩
      refine ne (eo_as rfl rfl) rfl ?_
      refine go_nil ?_
      refine gq_next ?_
      refine gc_seq ?_
      refine gc_region ?_
      refine ne (by first | exact eo_loadA 0 rfl a24 rfl rfl rfl rfl | exact eo_loadA 1 rfl a24 rfl rfl rfl rfl | exact eo_loadA 2 rfl a24 rfl rfl rfl rfl | exact eo_loadA 3 rfl a24 rfl rfl rfl rfl | exact eo_loadA 4 rfl a24 rfl rfl rfl rfl | exact eo_loadA 5 rfl a24 rfl rfl rfl rfl | exact eo_loadA 6 rfl a24 rfl rfl rfl rfl | exact eo_loadA 7 rfl a24 rfl rfl rfl rfl | exact eo_loadA 8 rfl a24 rfl rfl rfl rfl | exact eo_loadA 9 rfl a24 rfl rfl rfl rfl) rfl ?_
      refine ne (by first | exact eo_loadA 0 rfl a24 rfl rfl rfl rfl | exact eo_loadA 1 rfl a24 rfl rfl rfl rfl | exact eo_loadA 2 rfl a24 rfl rfl rfl rfl | exact eo_loadA 3 rfl a24 rfl rfl rfl rfl | exact eo_loadA 4 rfl a24 rfl rfl rfl rfl | exact eo_loadA 5 rfl a24 rfl rfl rfl rfl | exact eo_loadA 6 rfl a24 rfl rfl rfl rfl | exact eo_loadA 7 rfl a24 rfl rfl rfl rfl | exact eo_loadA 8 rfl a24 rfl rfl rfl rfl | exact eo_loadA 9 rfl a24 rfl rfl rfl rfl) rfl ?_
      refine ne (eo_call rfl en16 rfl (fun W' hO => same_c _ _ _ _ _ _ _ _ _ _ (fun _ => false) (fun _ => false) W' (by omega) (by simpa using Rd.nil) (by simpa using Rd.nil))) rfl ?_
      refine ne (eo_not rfl rfl) rfl ?_
      refine ne (eo_mv rfl rfl) rfl ?_
      refine ng rfl rfl (fun h => eo_mv rfl rfl) rfl ?_
      refine ng rfl rfl (fun h => eo_mv rfl rfl) rfl ?_
      refine ng rfl rfl (fun h => eo_neq rfl (ev_if h rfl) (ev_if h rfl)) rfl ?_
      refine ne (eo_or rfl rfl (fun hb => ev_if hb rfl)) rfl ?_
      refine go_nil ?_
      refine gq_next ?_
      refine gc_cond rfl (fun hc63 => ?_) (fun hc63 => ?_)
      ·
        exact absurd hc63 (by simp [eqM_rf])
      ·
        refine gc_skip ?_
        refine gq_next ?_
        refine gc_seq ?_
        refine gc_draw [] [0, 1, 2, 3, 4, 5, 6, 7, 8, 9, 10, 11, 12, 13, 14, 15, 16, 17, 18, 19, 20, 21, 22, 23, 24, 25, 26, 27, 28, 29, 30, 31, 32, 33, 34, 35, 36, 37, 38, 39, 40, 41, 42, 43, 44, 45, 46, 47, 48, 49, 50, 51, 52, 53, 54] [] [] (by kernel_rfl) (by kernel_rfl) ?_
        refine gp_nil ?_
        refine de rfl (by first | exact eo_loadA 0 rfl a24 rfl rfl rfl rfl | exact eo_loadA 1 rfl a24 rfl rfl rfl rfl | exact eo_loadA 2 rfl a24 rfl rfl rfl rfl | exact eo_loadA 3 rfl a24 rfl rfl rfl rfl | exact eo_loadA 4 rfl a24 rfl rfl rfl rfl | exact eo_loadA 5 rfl a24 rfl rfl rfl rfl | exact eo_loadA 6 rfl a24 rfl rfl rfl rfl | exact eo_loadA 7 rfl a24 rfl rfl rfl rfl | exact eo_loadA 8 rfl a24 rfl rfl rfl rfl | exact eo_loadA 9 rfl a24 rfl rfl rfl rfl) rfl ?_
        refine de rfl (eo_call rfl en23 rfl (fun W _ => check_c _ _ _ _ _ W)) rfl ?_
        refine de rfl (by first | exact eo_loadA 0 rfl a24 rfl rfl rfl rfl | exact eo_loadA 1 rfl a24 rfl rfl rfl rfl | exact eo_loadA 2 rfl a24 rfl rfl rfl rfl | exact eo_loadA 3 rfl a24 rfl rfl rfl rfl | exact eo_loadA 4 rfl a24 rfl rfl rfl rfl | exact eo_loadA 5 rfl a24 rfl rfl rfl rfl | exact eo_loadA 6 rfl a24 rfl rfl rfl rfl | exact eo_loadA 7 rfl a24 rfl rfl rfl rfl | exact eo_loadA 8 rfl a24 rfl rfl rfl rfl | exact eo_loadA 9 rfl a24 rfl rfl rfl rfl) rfl ?_
        refine de rfl (eo_call rfl en28 rfl (fun W _ => rcheck_c _ _ _ _ _ W)) rfl ?_
        refine de rfl (eo_eql rfl rfl rfl) rfl ?_
        refine de rfl (eo_mv rfl rfl) rfl ?_
        refine dg rfl rfl rfl (fun h => by first | exact eo_loadA 0 rfl a55 rfl rfl rfl rfl | exact eo_loadA 1 rfl a55 rfl rfl rfl rfl | exact eo_loadA 2 rfl a55 rfl rfl rfl rfl | exact eo_loadA 3 rfl a55 rfl rfl rfl rfl | exact eo_loadA 4 rfl a55 rfl rfl rfl rfl | exact eo_loadA 5 rfl a55 rfl rfl rfl rfl | exact eo_loadA 6 rfl a55 rfl rfl rfl rfl | exact eo_loadA 7 rfl a55 rfl rfl rfl rfl | exact eo_loadA 8 rfl a55 rfl rfl rfl rfl | exact eo_loadA 9 rfl a55 rfl rfl rfl rfl) rfl ?_
        refine dg rfl rfl rfl (fun h => eo_call rfl en29 (evs_cons (ev_if h rfl) evs_nil) (fun W _ => checkim_c _ _ _ _ _ W)) rfl ?_
        refine dg rfl rfl rfl (fun h => by first | exact eo_loadA 0 rfl a55 rfl rfl rfl rfl | exact eo_loadA 1 rfl a55 rfl rfl rfl rfl | exact eo_loadA 2 rfl a55 rfl rfl rfl rfl | exact eo_loadA 3 rfl a55 rfl rfl rfl rfl | exact eo_loadA 4 rfl a55 rfl rfl rfl rfl | exact eo_loadA 5 rfl a55 rfl rfl rfl rfl | exact eo_loadA 6 rfl a55 rfl rfl rfl rfl | exact eo_loadA 7 rfl a55 rfl rfl rfl rfl | exact eo_loadA 8 rfl a55 rfl rfl rfl rfl | exact eo_loadA 9 rfl a55 rfl rfl rfl rfl) rfl ?_
        refine dg rfl rfl rfl (fun h => eo_call rfl en30 (evs_cons (ev_if h rfl) evs_nil) (fun W _ => rcheckim_c _ _ _ _ _ W)) rfl ?_
        refine dg rfl rfl rfl (fun h => eo_eql rfl (ev_if h rfl) (ev_if h rfl)) rfl ?_
        refine de rfl (eo_and rfl rfl (fun hb => ev_if hb rfl)) rfl ?_
        refine de rfl (eo_mv rfl rfl) rfl ?_
        refine dg rfl rfl rfl (fun h => by first | exact eo_loadA 0 rfl a24 rfl rfl rfl rfl | exact eo_loadA 1 rfl a24 rfl rfl rfl rfl | exact eo_loadA 2 rfl a24 rfl rfl rfl rfl | exact eo_loadA 3 rfl a24 rfl rfl rfl rfl | exact eo_loadA 4 rfl a24 rfl rfl rfl rfl | exact eo_loadA 5 rfl a24 rfl rfl rfl rfl | exact eo_loadA 6 rfl a24 rfl rfl rfl rfl | exact eo_loadA 7 rfl a24 rfl rfl rfl rfl | exact eo_loadA 8 rfl a24 rfl rfl rfl rfl | exact eo_loadA 9 rfl a24 rfl rfl rfl rfl) rfl ?_
        refine dg rfl rfl rfl (fun h => eo_mv rfl rfl) rfl ?_
        refine dg rfl rfl rfl (fun h => eo_mv rfl rfl) rfl ?_
        refine dg rfl rfl rfl (fun h => eo_call rfl en31 (evs_cons (ev_if h rfl) (evs_cons (ev_if h rfl) (evs_cons (ev_if h rfl) evs_nil))) (fun W' hO => at_c _ _ _ _ _ _ _ _ W' (hr0.old0 hO))) rfl ?_
        refine dg rfl rfl rfl (fun h => by first | exact eo_loadA 0 rfl a24 rfl rfl rfl rfl | exact eo_loadA 1 rfl a24 rfl rfl rfl rfl | exact eo_loadA 2 rfl a24 rfl rfl rfl rfl | exact eo_loadA 3 rfl a24 rfl rfl rfl rfl | exact eo_loadA 4 rfl a24 rfl rfl rfl rfl | exact eo_loadA 5 rfl a24 rfl rfl rfl rfl | exact eo_loadA 6 rfl a24 rfl rfl rfl rfl | exact eo_loadA 7 rfl a24 rfl rfl rfl rfl | exact eo_loadA 8 rfl a24 rfl rfl rfl rfl | exact eo_loadA 9 rfl a24 rfl rfl rfl rfl) rfl ?_
        refine dg rfl rfl rfl (fun h => eo_mv rfl rfl) rfl ?_
        refine dg rfl rfl rfl (fun h => eo_mv rfl rfl) rfl ?_
        refine dg rfl rfl rfl (fun h => eo_call rfl en32 (evs_cons (ev_if h rfl) (evs_cons (ev_if h rfl) (evs_cons (ev_if h rfl) evs_nil))) (fun W' hO => rat_c _ _ _ _ _ _ _ _ W' (hr0.old0 hO))) rfl ?_
        refine dg rfl rfl rfl (fun h => eo_beql rfl (ev_if h rfl) (ev_if h rfl) Try.underlying4) rfl ?_
        refine de rfl (eo_and rfl rfl (fun hb => ev_if hb rfl)) rfl ?_
        refine de rfl (eo_mv rfl rfl) rfl ?_
        refine dg rfl rfl rfl (fun h => by first | exact eo_loadA 0 rfl a24 rfl rfl rfl rfl | exact eo_loadA 1 rfl a24 rfl rfl rfl rfl | exact eo_loadA 2 rfl a24 rfl rfl rfl rfl | exact eo_loadA 3 rfl a24 rfl rfl rfl rfl | exact eo_loadA 4 rfl a24 rfl rfl rfl rfl | exact eo_loadA 5 rfl a24 rfl rfl rfl rfl | exact eo_loadA 6 rfl a24 rfl rfl rfl rfl | exact eo_loadA 7 rfl a24 rfl rfl rfl rfl | exact eo_loadA 8 rfl a24 rfl rfl rfl rfl | exact eo_loadA 9 rfl a24 rfl rfl rfl rfl) rfl ?_
        refine dg rfl rfl rfl (fun h => by first | exact eo_loadA 0 rfl a24 rfl rfl rfl rfl | exact eo_loadA 1 rfl a24 rfl rfl rfl rfl | exact eo_loadA 2 rfl a24 rfl rfl rfl rfl | exact eo_loadA 3 rfl a24 rfl rfl rfl rfl | exact eo_loadA 4 rfl a24 rfl rfl rfl rfl | exact eo_loadA 5 rfl a24 rfl rfl rfl rfl | exact eo_loadA 6 rfl a24 rfl rfl rfl rfl | exact eo_loadA 7 rfl a24 rfl rfl rfl rfl | exact eo_loadA 8 rfl a24 rfl rfl rfl rfl | exact eo_loadA 9 rfl a24 rfl rfl rfl rfl) rfl ?_
        refine dg rfl rfl rfl (fun h => eo_call rfl en33 (evs_cons (ev_if h rfl) (evs_cons (ev_if h rfl) evs_nil)) (fun W' hO => equal_c _ _ _ _ _ _ _ _ _ _ _ _ W' (by omega) (hr0.old0 hO) (hr1.old0 hO))) rfl ?_
        refine dg rfl rfl rfl (fun h => by first | exact eo_loadA 0 rfl a24 rfl rfl rfl rfl | exact eo_loadA 1 rfl a24 rfl rfl rfl rfl | exact eo_loadA 2 rfl a24 rfl rfl rfl rfl | exact eo_loadA 3 rfl a24 rfl rfl rfl rfl | exact eo_loadA 4 rfl a24 rfl rfl rfl rfl | exact eo_loadA 5 rfl a24 rfl rfl rfl rfl | exact eo_loadA 6 rfl a24 rfl rfl rfl rfl | exact eo_loadA 7 rfl a24 rfl rfl rfl rfl | exact eo_loadA 8 rfl a24 rfl rfl rfl rfl | exact eo_loadA 9 rfl a24 rfl rfl rfl rfl) rfl ?_
        refine dg rfl rfl rfl (fun h => by first | exact eo_loadA 0 rfl a24 rfl rfl rfl rfl | exact eo_loadA 1 rfl a24 rfl rfl rfl rfl | exact eo_loadA 2 rfl a24 rfl rfl rfl rfl | exact eo_loadA 3 rfl a24 rfl rfl rfl rfl | exact eo_loadA 4 rfl a24 rfl rfl rfl rfl | exact eo_loadA 5 rfl a24 rfl rfl rfl rfl | exact eo_loadA 6 rfl a24 rfl rfl rfl rfl | exact eo_loadA 7 rfl a24 rfl rfl rfl rfl | exact eo_loadA 8 rfl a24 rfl rfl rfl rfl | exact eo_loadA 9 rfl a24 rfl rfl rfl rfl) rfl ?_
        refine dg rfl rfl rfl (fun h => eo_call rfl en16 (evs_cons (ev_if h rfl) (evs_cons (ev_if h rfl) evs_nil)) (fun W' hO => same_c _ _ _ _ _ _ _ _ _ _ _ _ W' (by omega) (hr0.old0 hO) (hr1.old0 hO))) rfl ?_
        refine dg rfl rfl rfl (fun h => eo_beql rfl (ev_if h rfl) (ev_if h rfl) Try.underlying4) rfl ?_
        refine de rfl (eo_and rfl rfl (fun hb => ev_if hb rfl)) rfl ?_
        refine de rfl (eo_mv rfl rfl) rfl ?_
        refine dg rfl rfl rfl (fun h => by first | exact eo_loadA 0 rfl a55 rfl rfl rfl rfl | exact eo_loadA 1 rfl a55 rfl rfl rfl rfl | exact eo_loadA 2 rfl a55 rfl rfl rfl rfl | exact eo_loadA 3 rfl a55 rfl rfl rfl rfl | exact eo_loadA 4 rfl a55 rfl rfl rfl rfl | exact eo_loadA 5 rfl a55 rfl rfl rfl rfl | exact eo_loadA 6 rfl a55 rfl rfl rfl rfl | exact eo_loadA 7 rfl a55 rfl rfl rfl rfl | exact eo_loadA 8 rfl a55 rfl rfl rfl rfl | exact eo_loadA 9 rfl a55 rfl rfl rfl rfl) rfl ?_
        refine dg rfl rfl rfl (fun h => by first | exact eo_loadA 0 rfl a55 rfl rfl rfl rfl | exact eo_loadA 1 rfl a55 rfl rfl rfl rfl | exact eo_loadA 2 rfl a55 rfl rfl rfl rfl | exact eo_loadA 3 rfl a55 rfl rfl rfl rfl | exact eo_loadA 4 rfl a55 rfl rfl rfl rfl | exact eo_loadA 5 rfl a55 rfl rfl rfl rfl | exact eo_loadA 6 rfl a55 rfl rfl rfl rfl | exact eo_loadA 7 rfl a55 rfl rfl rfl rfl | exact eo_loadA 8 rfl a55 rfl rfl rfl rfl | exact eo_loadA 9 rfl a55 rfl rfl rfl rfl) rfl ?_
        refine dg rfl rfl rfl (fun h => eo_call rfl en34 (evs_cons (ev_if h rfl) (evs_cons (ev_if h rfl) evs_nil)) (fun W' hO => equalim_c _ _ _ _ _ _ _ _ _ _ _ _ W' (by omega) (hr2.old0 hO) (hr3.old0 hO))) rfl ?_
        refine dg rfl rfl rfl (fun h => by first | exact eo_loadA 0 rfl a55 rfl rfl rfl rfl | exact eo_loadA 1 rfl a55 rfl rfl rfl rfl | exact eo_loadA 2 rfl a55 rfl rfl rfl rfl | exact eo_loadA 3 rfl a55 rfl rfl rfl rfl | exact eo_loadA 4 rfl a55 rfl rfl rfl rfl | exact eo_loadA 5 rfl a55 rfl rfl rfl rfl | exact eo_loadA 6 rfl a55 rfl rfl rfl rfl | exact eo_loadA 7 rfl a55 rfl rfl rfl rfl | exact eo_loadA 8 rfl a55 rfl rfl rfl rfl | exact eo_loadA 9 rfl a55 rfl rfl rfl rfl) rfl ?_
        refine dg rfl rfl rfl (fun h => by first | exact eo_loadA 0 rfl a55 rfl rfl rfl rfl | exact eo_loadA 1 rfl a55 rfl rfl rfl rfl | exact eo_loadA 2 rfl a55 rfl rfl rfl rfl | exact eo_loadA 3 rfl a55 rfl rfl rfl rfl | exact eo_loadA 4 rfl a55 rfl rfl rfl rfl | exact eo_loadA 5 rfl a55 rfl rfl rfl rfl | exact eo_loadA 6 rfl a55 rfl rfl rfl rfl | exact eo_loadA 7 rfl a55 rfl rfl rfl rfl | exact eo_loadA 8 rfl a55 rfl rfl rfl rfl | exact eo_loadA 9 rfl a55 rfl rfl rfl rfl) rfl ?_
        refine dg rfl rfl rfl (fun h => eo_call rfl en35 (evs_cons (ev_if h rfl) (evs_cons (ev_if h rfl) evs_nil)) (fun W' hO => requalim_c _ _ _ _ _ _ _ _ _ _ _ _ W' (by omega) (hr2.old0 hO) (hr3.old0 hO))) rfl ?_
        refine dg rfl rfl rfl (fun h => eo_beql rfl (ev_if h rfl) (ev_if h rfl) Try.underlying4) rfl ?_
        refine de rfl (eo_and rfl rfl (fun hb => ev_if hb rfl)) rfl ?_
        refine de rfl (eo_mv rfl rfl) rfl ?_
        refine dg rfl rfl rfl (fun h => by first | exact eo_loadA 0 rfl a24 rfl rfl rfl rfl | exact eo_loadA 1 rfl a24 rfl rfl rfl rfl | exact eo_loadA 2 rfl a24 rfl rfl rfl rfl | exact eo_loadA 3 rfl a24 rfl rfl rfl rfl | exact eo_loadA 4 rfl a24 rfl rfl rfl rfl | exact eo_loadA 5 rfl a24 rfl rfl rfl rfl | exact eo_loadA 6 rfl a24 rfl rfl rfl rfl | exact eo_loadA 7 rfl a24 rfl rfl rfl rfl | exact eo_loadA 8 rfl a24 rfl rfl rfl rfl | exact eo_loadA 9 rfl a24 rfl rfl rfl rfl) rfl ?_
        refine dg rfl rfl rfl (fun h => by first | exact eo_loadA 0 rfl a24 rfl rfl rfl rfl | exact eo_loadA 1 rfl a24 rfl rfl rfl rfl | exact eo_loadA 2 rfl a24 rfl rfl rfl rfl | exact eo_loadA 3 rfl a24 rfl rfl rfl rfl | exact eo_loadA 4 rfl a24 rfl rfl rfl rfl | exact eo_loadA 5 rfl a24 rfl rfl rfl rfl | exact eo_loadA 6 rfl a24 rfl rfl rfl rfl | exact eo_loadA 7 rfl a24 rfl rfl rfl rfl | exact eo_loadA 8 rfl a24 rfl rfl rfl rfl | exact eo_loadA 9 rfl a24 rfl rfl rfl rfl) rfl ?_
        refine dg rfl rfl rfl (fun h => eo_call rfl en33 (evs_cons (ev_if h rfl) (evs_cons (ev_if h rfl) evs_nil)) (fun W' hO => equal_c _ _ _ _ _ _ _ _ _ _ _ _ W' (by omega) (hr0.old0 hO) (hr0.old0 hO))) rfl ?_
        refine de rfl (eo_and rfl rfl (fun hb => ev_if hb rfl)) rfl ?_
        refine de rfl (eo_mv rfl rfl) rfl ?_
        refine dg rfl rfl rfl (fun h => by first | exact eo_loadA 0 rfl a55 rfl rfl rfl rfl | exact eo_loadA 1 rfl a55 rfl rfl rfl rfl | exact eo_loadA 2 rfl a55 rfl rfl rfl rfl | exact eo_loadA 3 rfl a55 rfl rfl rfl rfl | exact eo_loadA 4 rfl a55 rfl rfl rfl rfl | exact eo_loadA 5 rfl a55 rfl rfl rfl rfl | exact eo_loadA 6 rfl a55 rfl rfl rfl rfl | exact eo_loadA 7 rfl a55 rfl rfl rfl rfl | exact eo_loadA 8 rfl a55 rfl rfl rfl rfl | exact eo_loadA 9 rfl a55 rfl rfl rfl rfl) rfl ?_
        refine dg rfl rfl rfl (fun h => by first | exact eo_loadA 0 rfl a55 rfl rfl rfl rfl | exact eo_loadA 1 rfl a55 rfl rfl rfl rfl | exact eo_loadA 2 rfl a55 rfl rfl rfl rfl | exact eo_loadA 3 rfl a55 rfl rfl rfl rfl | exact eo_loadA 4 rfl a55 rfl rfl rfl rfl | exact eo_loadA 5 rfl a55 rfl rfl rfl rfl | exact eo_loadA 6 rfl a55 rfl rfl rfl rfl | exact eo_loadA 7 rfl a55 rfl rfl rfl rfl | exact eo_loadA 8 rfl a55 rfl rfl rfl rfl | exact eo_loadA 9 rfl a55 rfl rfl rfl rfl) rfl ?_
        refine dg rfl rfl rfl (fun h => eo_call rfl en34 (evs_cons (ev_if h rfl) (evs_cons (ev_if h rfl) evs_nil)) (fun W' hO => equalim_c _ _ _ _ _ _ _ _ _ _ _ _ W' (by omega) (hr2.old0 hO) (hr2.old0 hO))) rfl ?_
        refine de rfl (eo_and rfl rfl (fun hb => ev_if hb rfl)) rfl ?_
        refine de rfl (eo_mv rfl rfl) rfl ?_
        refine dg rfl rfl rfl (fun h => eo_call rfl en13 rfl (fun W _ => examples_c W)) rfl ?_
        refine de rfl (eo_and rfl rfl (fun hb => ev_if hb rfl)) rfl ?_
        refine de rfl (eo_as rfl rfl) rfl ?_
        refine ge_nil ?_
        refine ga_nil ?_
        refine gi_nil ?_
        refine gq_nq ?_
        refine gq_next ?_
        refine gc_ret ?_
        refine gq_results (res1 rfl rfl) ?_
        first
          | exact fun W' hO => ⟨rfl, hO.toExt⟩
          | exact fun W' hO => ⟨ret_bool (by simp [eqM_rf]), hO.toExt⟩
    ·
      refine gc_skip ?_
      refine gq_next ?_
      refine gc_seq ?_
      refine gc_draw [] [0, 1, 2, 3, 4, 5, 6, 7, 8, 9, 10, 11, 12, 13, 14, 15, 16, 17, 18, 19, 20, 21, 22, 23, 24, 25, 26, 27, 28, 29, 30, 31, 32, 33, 34, 35, 36, 37, 38, 39, 40, 41, 42, 43, 44, 45, 46, 47, 48, 49, 50, 51, 52, 53, 54] [] [] (by kernel_rfl) (by kernel_rfl) ?_
      refine gp_nil ?_
      refine de rfl (by first | exact eo_loadA 0 rfl a24 rfl rfl rfl rfl | exact eo_loadA 1 rfl a24 rfl rfl rfl rfl | exact eo_loadA 2 rfl a24 rfl rfl rfl rfl | exact eo_loadA 3 rfl a24 rfl rfl rfl rfl | exact eo_loadA 4 rfl a24 rfl rfl rfl rfl | exact eo_loadA 5 rfl a24 rfl rfl rfl rfl | exact eo_loadA 6 rfl a24 rfl rfl rfl rfl | exact eo_loadA 7 rfl a24 rfl rfl rfl rfl | exact eo_loadA 8 rfl a24 rfl rfl rfl rfl | exact eo_loadA 9 rfl a24 rfl rfl rfl rfl) rfl ?_
      refine de rfl (eo_call rfl en23 rfl (fun W _ => check_c _ _ _ _ _ W)) rfl ?_
      refine de rfl (by first | exact eo_loadA 0 rfl a24 rfl rfl rfl rfl | exact eo_loadA 1 rfl a24 rfl rfl rfl rfl | exact eo_loadA 2 rfl a24 rfl rfl rfl rfl | exact eo_loadA 3 rfl a24 rfl rfl rfl rfl | exact eo_loadA 4 rfl a24 rfl rfl rfl rfl | exact eo_loadA 5 rfl a24 rfl rfl rfl rfl | exact eo_loadA 6 rfl a24 rfl rfl rfl rfl | exact eo_loadA 7 rfl a24 rfl rfl rfl rfl | exact eo_loadA 8 rfl a24 rfl rfl rfl rfl | exact eo_loadA 9 rfl a24 rfl rfl rfl rfl) rfl ?_
      refine de rfl (eo_call rfl en28 rfl (fun W _ => rcheck_c _ _ _ _ _ W)) rfl ?_
      refine de rfl (eo_eql rfl rfl rfl) rfl ?_
      refine de rfl (eo_mv rfl rfl) rfl ?_
      refine dg rfl rfl rfl (fun h => by first | exact eo_loadA 0 rfl a55 rfl rfl rfl rfl | exact eo_loadA 1 rfl a55 rfl rfl rfl rfl | exact eo_loadA 2 rfl a55 rfl rfl rfl rfl | exact eo_loadA 3 rfl a55 rfl rfl rfl rfl | exact eo_loadA 4 rfl a55 rfl rfl rfl rfl | exact eo_loadA 5 rfl a55 rfl rfl rfl rfl | exact eo_loadA 6 rfl a55 rfl rfl rfl rfl | exact eo_loadA 7 rfl a55 rfl rfl rfl rfl | exact eo_loadA 8 rfl a55 rfl rfl rfl rfl | exact eo_loadA 9 rfl a55 rfl rfl rfl rfl) rfl ?_
      refine dg rfl rfl rfl (fun h => eo_call rfl en29 (evs_cons (ev_if h rfl) evs_nil) (fun W _ => checkim_c _ _ _ _ _ W)) rfl ?_
      refine dg rfl rfl rfl (fun h => by first | exact eo_loadA 0 rfl a55 rfl rfl rfl rfl | exact eo_loadA 1 rfl a55 rfl rfl rfl rfl | exact eo_loadA 2 rfl a55 rfl rfl rfl rfl | exact eo_loadA 3 rfl a55 rfl rfl rfl rfl | exact eo_loadA 4 rfl a55 rfl rfl rfl rfl | exact eo_loadA 5 rfl a55 rfl rfl rfl rfl | exact eo_loadA 6 rfl a55 rfl rfl rfl rfl | exact eo_loadA 7 rfl a55 rfl rfl rfl rfl | exact eo_loadA 8 rfl a55 rfl rfl rfl rfl | exact eo_loadA 9 rfl a55 rfl rfl rfl rfl) rfl ?_
      refine dg rfl rfl rfl (fun h => eo_call rfl en30 (evs_cons (ev_if h rfl) evs_nil) (fun W _ => rcheckim_c _ _ _ _ _ W)) rfl ?_
      refine dg rfl rfl rfl (fun h => eo_eql rfl (ev_if h rfl) (ev_if h rfl)) rfl ?_
      refine de rfl (eo_and rfl rfl (fun hb => ev_if hb rfl)) rfl ?_
      refine de rfl (eo_mv rfl rfl) rfl ?_
      refine dg rfl rfl rfl (fun h => by first | exact eo_loadA 0 rfl a24 rfl rfl rfl rfl | exact eo_loadA 1 rfl a24 rfl rfl rfl rfl | exact eo_loadA 2 rfl a24 rfl rfl rfl rfl | exact eo_loadA 3 rfl a24 rfl rfl rfl rfl | exact eo_loadA 4 rfl a24 rfl rfl rfl rfl | exact eo_loadA 5 rfl a24 rfl rfl rfl rfl | exact eo_loadA 6 rfl a24 rfl rfl rfl rfl | exact eo_loadA 7 rfl a24 rfl rfl rfl rfl | exact eo_loadA 8 rfl a24 rfl rfl rfl rfl | exact eo_loadA 9 rfl a24 rfl rfl rfl rfl) rfl ?_
      refine dg rfl rfl rfl (fun h => eo_mv rfl rfl) rfl ?_
      refine dg rfl rfl rfl (fun h => eo_mv rfl rfl) rfl ?_
      refine dg rfl rfl rfl (fun h => eo_call rfl en31 (evs_cons (ev_if h rfl) (evs_cons (ev_if h rfl) (evs_cons (ev_if h rfl) evs_nil))) (fun W' hO => at_c _ _ _ _ _ _ _ _ W' (hr0.old0 hO))) rfl ?_
      refine dg rfl rfl rfl (fun h => by first | exact eo_loadA 0 rfl a24 rfl rfl rfl rfl | exact eo_loadA 1 rfl a24 rfl rfl rfl rfl | exact eo_loadA 2 rfl a24 rfl rfl rfl rfl | exact eo_loadA 3 rfl a24 rfl rfl rfl rfl | exact eo_loadA 4 rfl a24 rfl rfl rfl rfl | exact eo_loadA 5 rfl a24 rfl rfl rfl rfl | exact eo_loadA 6 rfl a24 rfl rfl rfl rfl | exact eo_loadA 7 rfl a24 rfl rfl rfl rfl | exact eo_loadA 8 rfl a24 rfl rfl rfl rfl | exact eo_loadA 9 rfl a24 rfl rfl rfl rfl) rfl ?_
      refine dg rfl rfl rfl (fun h => eo_mv rfl rfl) rfl ?_
      refine dg rfl rfl rfl (fun h => eo_mv rfl rfl) rfl ?_
      refine dg rfl rfl rfl (fun h => eo_call rfl en32 (evs_cons (ev_if h rfl) (evs_cons (ev_if h rfl) (evs_cons (ev_if h rfl) evs_nil))) (fun W' hO => rat_c _ _ _ _ _ _ _ _ W' (hr0.old0 hO))) rfl ?_
      refine dg rfl rfl rfl (fun h => eo_beql rfl (ev_if h rfl) (ev_if h rfl) Try.underlying4) rfl ?_
      refine de rfl (eo_and rfl rfl (fun hb => ev_if hb rfl)) rfl ?_
      refine de rfl (eo_mv rfl rfl) rfl ?_
      refine dg rfl rfl rfl (fun h => by first | exact eo_loadA 0 rfl a24 rfl rfl rfl rfl | exact eo_loadA 1 rfl a24 rfl rfl rfl rfl | exact eo_loadA 2 rfl a24 rfl rfl rfl rfl | exact eo_loadA 3 rfl a24 rfl rfl rfl rfl | exact eo_loadA 4 rfl a24 rfl rfl rfl rfl | exact eo_loadA 5 rfl a24 rfl rfl rfl rfl | exact eo_loadA 6 rfl a24 rfl rfl rfl rfl | exact eo_loadA 7 rfl a24 rfl rfl rfl rfl | exact eo_loadA 8 rfl a24 rfl rfl rfl rfl | exact eo_loadA 9 rfl a24 rfl rfl rfl rfl) rfl ?_
      refine dg rfl rfl rfl (fun h => by first | exact eo_loadA 0 rfl a24 rfl rfl rfl rfl | exact eo_loadA 1 rfl a24 rfl rfl rfl rfl | exact eo_loadA 2 rfl a24 rfl rfl rfl rfl | exact eo_loadA 3 rfl a24 rfl rfl rfl rfl | exact eo_loadA 4 rfl a24 rfl rfl rfl rfl | exact eo_loadA 5 rfl a24 rfl rfl rfl rfl | exact eo_loadA 6 rfl a24 rfl rfl rfl rfl | exact eo_loadA 7 rfl a24 rfl rfl rfl rfl | exact eo_loadA 8 rfl a24 rfl rfl rfl rfl | exact eo_loadA 9 rfl a24 rfl rfl rfl rfl) rfl ?_
      refine dg rfl rfl rfl (fun h => eo_call rfl en33 (evs_cons (ev_if h rfl) (evs_cons (ev_if h rfl) evs_nil)) (fun W' hO => equal_c _ _ _ _ _ _ _ _ _ _ _ _ W' (by omega) (hr0.old0 hO) (hr1.old0 hO))) rfl ?_
      refine dg rfl rfl rfl (fun h => by first | exact eo_loadA 0 rfl a24 rfl rfl rfl rfl | exact eo_loadA 1 rfl a24 rfl rfl rfl rfl | exact eo_loadA 2 rfl a24 rfl rfl rfl rfl | exact eo_loadA 3 rfl a24 rfl rfl rfl rfl | exact eo_loadA 4 rfl a24 rfl rfl rfl rfl | exact eo_loadA 5 rfl a24 rfl rfl rfl rfl | exact eo_loadA 6 rfl a24 rfl rfl rfl rfl | exact eo_loadA 7 rfl a24 rfl rfl rfl rfl | exact eo_loadA 8 rfl a24 rfl rfl rfl rfl | exact eo_loadA 9 rfl a24 rfl rfl rfl rfl) rfl ?_
      refine dg rfl rfl rfl (fun h => by first | exact eo_loadA 0 rfl a24 rfl rfl rfl rfl | exact eo_loadA 1 rfl a24 rfl rfl rfl rfl | exact eo_loadA 2 rfl a24 rfl rfl rfl rfl | exact eo_loadA 3 rfl a24 rfl rfl rfl rfl | exact eo_loadA 4 rfl a24 rfl rfl rfl rfl | exact eo_loadA 5 rfl a24 rfl rfl rfl rfl | exact eo_loadA 6 rfl a24 rfl rfl rfl rfl | exact eo_loadA 7 rfl a24 rfl rfl rfl rfl | exact eo_loadA 8 rfl a24 rfl rfl rfl rfl | exact eo_loadA 9 rfl a24 rfl rfl rfl rfl) rfl ?_
      refine dg rfl rfl rfl (fun h => eo_call rfl en16 (evs_cons (ev_if h rfl) (evs_cons (ev_if h rfl) evs_nil)) (fun W' hO => same_c _ _ _ _ _ _ _ _ _ _ _ _ W' (by omega) (hr0.old0 hO) (hr1.old0 hO))) rfl ?_
      refine dg rfl rfl rfl (fun h => eo_beql rfl (ev_if h rfl) (ev_if h rfl) Try.underlying4) rfl ?_
      refine de rfl (eo_and rfl rfl (fun hb => ev_if hb rfl)) rfl ?_
      refine de rfl (eo_mv rfl rfl) rfl ?_
      refine dg rfl rfl rfl (fun h => by first | exact eo_loadA 0 rfl a55 rfl rfl rfl rfl | exact eo_loadA 1 rfl a55 rfl rfl rfl rfl | exact eo_loadA 2 rfl a55 rfl rfl rfl rfl | exact eo_loadA 3 rfl a55 rfl rfl rfl rfl | exact eo_loadA 4 rfl a55 rfl rfl rfl rfl | exact eo_loadA 5 rfl a55 rfl rfl rfl rfl | exact eo_loadA 6 rfl a55 rfl rfl rfl rfl | exact eo_loadA 7 rfl a55 rfl rfl rfl rfl | exact eo_loadA 8 rfl a55 rfl rfl rfl rfl | exact eo_loadA 9 rfl a55 rfl rfl rfl rfl) rfl ?_
      refine dg rfl rfl rfl (fun h => by first | exact eo_loadA 0 rfl a55 rfl rfl rfl rfl | exact eo_loadA 1 rfl a55 rfl rfl rfl rfl | exact eo_loadA 2 rfl a55 rfl rfl rfl rfl | exact eo_loadA 3 rfl a55 rfl rfl rfl rfl | exact eo_loadA 4 rfl a55 rfl rfl rfl rfl | exact eo_loadA 5 rfl a55 rfl rfl rfl rfl | exact eo_loadA 6 rfl a55 rfl rfl rfl rfl | exact eo_loadA 7 rfl a55 rfl rfl rfl rfl | exact eo_loadA 8 rfl a55 rfl rfl rfl rfl | exact eo_loadA 9 rfl a55 rfl rfl rfl rfl) rfl ?_
      refine dg rfl rfl rfl (fun h => eo_call rfl en34 (evs_cons (ev_if h rfl) (evs_cons (ev_if h rfl) evs_nil)) (fun W' hO => equalim_c _ _ _ _ _ _ _ _ _ _ _ _ W' (by omega) (hr2.old0 hO) (hr3.old0 hO))) rfl ?_
      refine dg rfl rfl rfl (fun h => by first | exact eo_loadA 0 rfl a55 rfl rfl rfl rfl | exact eo_loadA 1 rfl a55 rfl rfl rfl rfl | exact eo_loadA 2 rfl a55 rfl rfl rfl rfl | exact eo_loadA 3 rfl a55 rfl rfl rfl rfl | exact eo_loadA 4 rfl a55 rfl rfl rfl rfl | exact eo_loadA 5 rfl a55 rfl rfl rfl rfl | exact eo_loadA 6 rfl a55 rfl rfl rfl rfl | exact eo_loadA 7 rfl a55 rfl rfl rfl rfl | exact eo_loadA 8 rfl a55 rfl rfl rfl rfl | exact eo_loadA 9 rfl a55 rfl rfl rfl rfl) rfl ?_
      refine dg rfl rfl rfl (fun h => by first | exact eo_loadA 0 rfl a55 rfl rfl rfl rfl | exact eo_loadA 1 rfl a55 rfl rfl rfl rfl | exact eo_loadA 2 rfl a55 rfl rfl rfl rfl | exact eo_loadA 3 rfl a55 rfl rfl rfl rfl | exact eo_loadA 4 rfl a55 rfl rfl rfl rfl | exact eo_loadA 5 rfl a55 rfl rfl rfl rfl | exact eo_loadA 6 rfl a55 rfl rfl rfl rfl | exact eo_loadA 7 rfl a55 rfl rfl rfl rfl | exact eo_loadA 8 rfl a55 rfl rfl rfl rfl | exact eo_loadA 9 rfl a55 rfl rfl rfl rfl) rfl ?_
      refine dg rfl rfl rfl (fun h => eo_call rfl en35 (evs_cons (ev_if h rfl) (evs_cons (ev_if h rfl) evs_nil)) (fun W' hO => requalim_c _ _ _ _ _ _ _ _ _ _ _ _ W' (by omega) (hr2.old0 hO) (hr3.old0 hO))) rfl ?_
      refine dg rfl rfl rfl (fun h => eo_beql rfl (ev_if h rfl) (ev_if h rfl) Try.underlying4) rfl ?_
      refine de rfl (eo_and rfl rfl (fun hb => ev_if hb rfl)) rfl ?_
      refine de rfl (eo_mv rfl rfl) rfl ?_
      refine dg rfl rfl rfl (fun h => by first | exact eo_loadA 0 rfl a24 rfl rfl rfl rfl | exact eo_loadA 1 rfl a24 rfl rfl rfl rfl | exact eo_loadA 2 rfl a24 rfl rfl rfl rfl | exact eo_loadA 3 rfl a24 rfl rfl rfl rfl | exact eo_loadA 4 rfl a24 rfl rfl rfl rfl | exact eo_loadA 5 rfl a24 rfl rfl rfl rfl | exact eo_loadA 6 rfl a24 rfl rfl rfl rfl | exact eo_loadA 7 rfl a24 rfl rfl rfl rfl | exact eo_loadA 8 rfl a24 rfl rfl rfl rfl | exact eo_loadA 9 rfl a24 rfl rfl rfl rfl) rfl ?_
      refine dg rfl rfl rfl (fun h => by first | exact eo_loadA 0 rfl a24 rfl rfl rfl rfl | exact eo_loadA 1 rfl a24 rfl rfl rfl rfl | exact eo_loadA 2 rfl a24 rfl rfl rfl rfl | exact eo_loadA 3 rfl a24 rfl rfl rfl rfl | exact eo_loadA 4 rfl a24 rfl rfl rfl rfl | exact eo_loadA 5 rfl a24 rfl rfl rfl rfl | exact eo_loadA 6 rfl a24 rfl rfl rfl rfl | exact eo_loadA 7 rfl a24 rfl rfl rfl rfl | exact eo_loadA 8 rfl a24 rfl rfl rfl rfl | exact eo_loadA 9 rfl a24 rfl rfl rfl rfl) rfl ?_
      refine dg rfl rfl rfl (fun h => eo_call rfl en33 (evs_cons (ev_if h rfl) (evs_cons (ev_if h rfl) evs_nil)) (fun W' hO => equal_c _ _ _ _ _ _ _ _ _ _ _ _ W' (by omega) (hr0.old0 hO) (hr0.old0 hO))) rfl ?_
      refine de rfl (eo_and rfl rfl (fun hb => ev_if hb rfl)) rfl ?_
      refine de rfl (eo_mv rfl rfl) rfl ?_
      refine dg rfl rfl rfl (fun h => by first | exact eo_loadA 0 rfl a55 rfl rfl rfl rfl | exact eo_loadA 1 rfl a55 rfl rfl rfl rfl | exact eo_loadA 2 rfl a55 rfl rfl rfl rfl | exact eo_loadA 3 rfl a55 rfl rfl rfl rfl | exact eo_loadA 4 rfl a55 rfl rfl rfl rfl | exact eo_loadA 5 rfl a55 rfl rfl rfl rfl | exact eo_loadA 6 rfl a55 rfl rfl rfl rfl | exact eo_loadA 7 rfl a55 rfl rfl rfl rfl | exact eo_loadA 8 rfl a55 rfl rfl rfl rfl | exact eo_loadA 9 rfl a55 rfl rfl rfl rfl) rfl ?_
      refine dg rfl rfl rfl (fun h => by first | exact eo_loadA 0 rfl a55 rfl rfl rfl rfl | exact eo_loadA 1 rfl a55 rfl rfl rfl rfl | exact eo_loadA 2 rfl a55 rfl rfl rfl rfl | exact eo_loadA 3 rfl a55 rfl rfl rfl rfl | exact eo_loadA 4 rfl a55 rfl rfl rfl rfl | exact eo_loadA 5 rfl a55 rfl rfl rfl rfl | exact eo_loadA 6 rfl a55 rfl rfl rfl rfl | exact eo_loadA 7 rfl a55 rfl rfl rfl rfl | exact eo_loadA 8 rfl a55 rfl rfl rfl rfl | exact eo_loadA 9 rfl a55 rfl rfl rfl rfl) rfl ?_
      refine dg rfl rfl rfl (fun h => eo_call rfl en34 (evs_cons (ev_if h rfl) (evs_cons (ev_if h rfl) evs_nil)) (fun W' hO => equalim_c _ _ _ _ _ _ _ _ _ _ _ _ W' (by omega) (hr2.old0 hO) (hr2.old0 hO))) rfl ?_
      refine de rfl (eo_and rfl rfl (fun hb => ev_if hb rfl)) rfl ?_
      refine de rfl (eo_mv rfl rfl) rfl ?_
      refine dg rfl rfl rfl (fun h => eo_call rfl en13 rfl (fun W _ => examples_c W)) rfl ?_
      refine de rfl (eo_and rfl rfl (fun hb => ev_if hb rfl)) rfl ?_
      refine de rfl (eo_as rfl rfl) rfl ?_
      refine ge_nil ?_
      refine ga_nil ?_
      refine gi_nil ?_
      refine gq_nq ?_
      refine gq_next ?_
      refine gc_ret ?_
      refine gq_results (res1 rfl rfl) ?_
      first
        | exact fun W' hO => ⟨rfl, hO.toExt⟩
        | exact fun W' hO => ⟨ret_bool (by simp [eqM_rf]), hO.toExt⟩

theorem makes_c (W0 H0 : Int) (A0 : Option Addr) (n0 c0 : Nat) (f0 : Nat → Bool) (W1 H1 : Int) (A1 : Option Addr) (n1 c1 : Nat) (f1 : Nat → Bool) (W2 H2 : Int) (A2 : Option Addr) (n2 c2 : Nat) (f2 : Nat → Int) (W3 H3 : Int) (A3 : Option Addr) (n3 c3 : Nat) (f3 : Nat → Int) (x y : Int) (w : World) (hr0 : Rd w A0 (tab n0 (bv f0))) (hr1 : Rd w A1 (tab n1 (bv f1))) (hr2 : Rd w A2 (tab n2 (iv .u8 f2))) (hr3 : Rd w A3 (tab n3 (iv .u8 f3))) :
    Calls Try.prog 8 #[.agg #[.int .i64 W0, .int .i64 H0, .slice A0 n0 c0], .agg #[.int .i64 W1, .int .i64 H1, .slice A1 n1 c1], .agg #[.int .i64 W2, .int .i64 H2, .slice A2 n2 c2], .agg #[.int .i64 W3, .int .i64 H3, .slice A3 n3 c3], .int .i64 x, .int .i64 y] w (fun e w' => e = .returned (.bool true) ∧ Ext w w') := by
  cases hf : fitsB x y
  · exact makes_no _ _ _ _ _ _ _ _ _ _ _ _ _ _ _ _ _ _ _ _ _ _ _ _ _ _ w hr0 hr1 hr2 hr3 hf
  · exact makes_ok _ _ _ _ _ _ _ _ _ _ _ _ _ _ _ _ _ _ _ _ _ _ _ _ _ _ w hr0 hr1 hr2 hr3 hf

end Go.Proofs.Ytefblgildcaldaa
