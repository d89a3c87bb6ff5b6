/-
  The walks of the functions of package raster and of the document's answer (part G): what each call returns, at every argument.
-/
import Derived.Test.YtefblgildcaldaaWF
namespace Go.Proofs.Ytefblgildcaldaa
open Go.RowKit Go.Eng

open Go.Bs
theorem en13 : Ent Try.prog 13 := ent_of Try.func13 (by kernel_rfl) rfl
theorem en21 : Ent Try.prog 21 := ent_of Try.func21 (by kernel_rfl) rfl
theorem en22 : Ent Try.prog 22 := ent_of Try.func22 (by kernel_rfl) rfl
theorem en16 : Ent Try.prog 16 := ent_of Try.func16 (by kernel_rfl) rfl

/-- barscan/barscanlaw31.RasterPastes -/
theorem pastes_ok (x y W H pW pH : Int) (A A' : Option Addr) (n c pn pc : Nat) (f p : Nat → Bool) (w : World) (hr : Rd w A (tab n (bv f))) (hr' : Rd w A' (tab pn (bv p))) (hpc : pn ≤ pc) (hv : vldB W H n = true) (hpv : vldB pW pH pn = true) :
    Calls Try.prog 5 #[.agg #[.int .i64 W, .int .i64 H, .slice A n c], .agg #[.int .i64 pW, .int .i64 pH, .slice A' pn pc], .int .i64 x, .int .i64 y] w fun e w' => e = .returned (.bool true) ∧ Ext w w' := by
  refine calls_enter (N := ⟨51, []⟩) ([]) ([]) Try.func5 rfl rfl rfl (Ow.start _) ?_
  refine gc_seq ?_
  refine gc_region ?_
  refine nx (xo_boxA rfl rfl) rfl ?_
  rintro _ _ ⟨g4, rfl, rfl⟩
  refine nx (xo_boxA rfl rfl) rfl ?_
  rintro _ _ ⟨g5, rfl, rfl⟩
  refine ne (eo_as rfl rfl) rfl ?_
  refine go_nil ?_
  refine gq_next ?_
  refine gc_seq ?_
  refine gc_seq ?_
  refine gc_region ?_
  refine ne (eo_field rfl f24_2 rfl) rfl ?_
  refine ne (by first | exact eo_load 0 rfl s22 rfl rfl rfl rfl | exact eo_load 1 rfl s22 rfl rfl rfl rfl | exact eo_load 2 rfl s22 rfl rfl rfl rfl | exact eo_load 3 rfl s22 rfl rfl rfl rfl | exact eo_load 4 rfl s22 rfl rfl rfl rfl | exact eo_load 5 rfl s22 rfl rfl rfl rfl | exact eo_load 6 rfl s22 rfl rfl rfl rfl | exact eo_load 7 rfl s22 rfl rfl rfl rfl | exact eo_load 8 rfl s22 rfl rfl rfl rfl | exact eo_load 9 rfl s22 rfl rfl rfl rfl) rfl ?_
  refine ne (eo_len rfl Try.underlying22 rfl) rfl ?_
  refine ne (eo_gtr rfl rfl rfl) rfl ?_
  refine ne (eo_mv rfl rfl) rfl ?_
  refine ng rfl rfl (fun h => eo_field rfl f24_2 rfl) rfl ?_
  refine ng rfl rfl (fun h => by first | exact eo_load 0 rfl s22 (ev_if h rfl) rfl rfl rfl | exact eo_load 1 rfl s22 (ev_if h rfl) rfl rfl rfl | exact eo_load 2 rfl s22 (ev_if h rfl) rfl rfl rfl | exact eo_load 3 rfl s22 (ev_if h rfl) rfl rfl rfl | exact eo_load 4 rfl s22 (ev_if h rfl) rfl rfl rfl | exact eo_load 5 rfl s22 (ev_if h rfl) rfl rfl rfl | exact eo_load 6 rfl s22 (ev_if h rfl) rfl rfl rfl | exact eo_load 7 rfl s22 (ev_if h rfl) rfl rfl rfl | exact eo_load 8 rfl s22 (ev_if h rfl) rfl rfl rfl | exact eo_load 9 rfl s22 (ev_if h rfl) rfl rfl rfl) rfl ?_
  refine ng rfl rfl (fun h => eo_len rfl Try.underlying22 (ev_if h rfl)) rfl ?_
  refine ng rfl rfl (fun h => eo_gtr rfl (ev_if h rfl) rfl) rfl ?_
  refine ne (eo_or rfl rfl (fun hb => ev_if hb rfl)) rfl ?_
  refine go_nil ?_
  refine gq_next ?_
  refine gc_cond rfl (fun hc22 => ?_) (fun hc22 => ?_)
  ·
    refine gc_seq ?_
    refine gc_region ?_
    refine ne (eo_call rfl en13 rfl (fun W _ => examples_c W)) rfl ?_
    refine ne (eo_as rfl rfl) rfl ?_
    refine go_nil ?_
    refine gq_next ?_
    refine gc_ret ?_
    refine gq_then_ret ?_
    refine gq_results (res1 rfl rfl) ?_
    first
      | exact fun W' hO => ⟨rfl, hO.toExt⟩
      | exact fun W' hO => ⟨ret_bool (by simp [eqM_yes rfl rfl rfl (fun j hj => paste_eq hv hpv hj)]), hO.toExt⟩
  ·
    have hq := hc22
    simp only [Bool.or_eq_false_iff, decide_eq_false_iff_not] at hq
    refine gc_skip ?_
    refine gq_next ?_
    refine gc_seq ?_
    refine gc_region ?_
    refine ne (by first | exact eo_loadA 0 rfl a24 rfl rfl rfl rfl | exact eo_loadA 1 rfl a24 rfl rfl rfl rfl | exact eo_loadA 2 rfl a24 rfl rfl rfl rfl | exact eo_loadA 3 rfl a24 rfl rfl rfl rfl | exact eo_loadA 4 rfl a24 rfl rfl rfl rfl | exact eo_loadA 5 rfl a24 rfl rfl rfl rfl | exact eo_loadA 6 rfl a24 rfl rfl rfl rfl | exact eo_loadA 7 rfl a24 rfl rfl rfl rfl | exact eo_loadA 8 rfl a24 rfl rfl rfl rfl | exact eo_loadA 9 rfl a24 rfl rfl rfl rfl) rfl ?_
    refine ne (by first | exact eo_loadA 0 rfl a24 rfl rfl rfl rfl | exact eo_loadA 1 rfl a24 rfl rfl rfl rfl | exact eo_loadA 2 rfl a24 rfl rfl rfl rfl | exact eo_loadA 3 rfl a24 rfl rfl rfl rfl | exact eo_loadA 4 rfl a24 rfl rfl rfl rfl | exact eo_loadA 5 rfl a24 rfl rfl rfl rfl | exact eo_loadA 6 rfl a24 rfl rfl rfl rfl | exact eo_loadA 7 rfl a24 rfl rfl rfl rfl | exact eo_loadA 8 rfl a24 rfl rfl rfl rfl | exact eo_loadA 9 rfl a24 rfl rfl rfl rfl) rfl ?_
    refine ne (eo_mv rfl rfl) rfl ?_
    refine ne (eo_mv rfl rfl) rfl ?_
    refine nx (xo_fresh rfl en21 rfl (fun W' hO => paste_ok _ _ _ _ _ _ _ _ _ _ _ _ _ _ W' (hr.old0 hO) (hr'.old0 hO) hpc hv hpv)) rfl ?_
    rintro _ _ ⟨_, ⟨ga, ca, spa, rfl, rfl, hca⟩, rfl⟩
    refine ne (eo_mv rfl rfl) rfl ?_
    refine ne (eo_extract rfl rfl rfl) rfl ?_
    refine ne (eo_extract rfl rfl rfl) rfl ?_
    refine nx (xo_alloc rfl z24) rfl ?_
    rintro _ _ ⟨g9, rfl, rfl⟩
    refine nu (by first | exact xo_storeA 0 rfl a24 rfl rfl (ones_cons (by first | rfl | exact AS.one) (ones_cons (by first | rfl | exact AS.one) (ones_cons (by first | rfl | exact AS.one) ones_nil))) rfl rfl rfl rfl | exact xo_storeA 1 rfl a24 rfl rfl (ones_cons (by first | rfl | exact AS.one) (ones_cons (by first | rfl | exact AS.one) (ones_cons (by first | rfl | exact AS.one) ones_nil))) rfl rfl rfl rfl | exact xo_storeA 2 rfl a24 rfl rfl (ones_cons (by first | rfl | exact AS.one) (ones_cons (by first | rfl | exact AS.one) (ones_cons (by first | rfl | exact AS.one) ones_nil))) rfl rfl rfl rfl | exact xo_storeA 3 rfl a24 rfl rfl (ones_cons (by first | rfl | exact AS.one) (ones_cons (by first | rfl | exact AS.one) (ones_cons (by first | rfl | exact AS.one) ones_nil))) rfl rfl rfl rfl | exact xo_storeA 4 rfl a24 rfl rfl (ones_cons (by first | rfl | exact AS.one) (ones_cons (by first | rfl | exact AS.one) (ones_cons (by first | rfl | exact AS.one) ones_nil))) rfl rfl rfl rfl | exact xo_storeA 5 rfl a24 rfl rfl (ones_cons (by first | rfl | exact AS.one) (ones_cons (by first | rfl | exact AS.one) (ones_cons (by first | rfl | exact AS.one) ones_nil))) rfl rfl rfl rfl | exact xo_storeA 6 rfl a24 rfl rfl (ones_cons (by first | rfl | exact AS.one) (ones_cons (by first | rfl | exact AS.one) (ones_cons (by first | rfl | exact AS.one) ones_nil))) rfl rfl rfl rfl | exact xo_storeA 7 rfl a24 rfl rfl (ones_cons (by first | rfl | exact AS.one) (ones_cons (by first | rfl | exact AS.one) (ones_cons (by first | rfl | exact AS.one) ones_nil))) rfl rfl rfl rfl | exact xo_storeA 8 rfl a24 rfl rfl (ones_cons (by first | rfl | exact AS.one) (ones_cons (by first | rfl | exact AS.one) (ones_cons (by first | rfl | exact AS.one) ones_nil))) rfl rfl rfl rfl | exact xo_storeA 9 rfl a24 rfl rfl (ones_cons (by first | rfl | exact AS.one) (ones_cons (by first | rfl | exact AS.one) (ones_cons (by first | rfl | exact AS.one) ones_nil))) rfl rfl rfl rfl) ?_
    rintro _ _ ⟨rfl, rfl⟩
    refine ne (eo_as rfl rfl) rfl ?_
    refine go_nil ?_
    refine gq_next ?_
    refine gc_seq ?_
    refine gc_region ?_
    refine ne (by first | exact eo_loadA 0 rfl a24 rfl rfl rfl rfl | exact eo_loadA 1 rfl a24 rfl rfl rfl rfl | exact eo_loadA 2 rfl a24 rfl rfl rfl rfl | exact eo_loadA 3 rfl a24 rfl rfl rfl rfl | exact eo_loadA 4 rfl a24 rfl rfl rfl rfl | exact eo_loadA 5 rfl a24 rfl rfl rfl rfl | exact eo_loadA 6 rfl a24 rfl rfl rfl rfl | exact eo_loadA 7 rfl a24 rfl rfl rfl rfl | exact eo_loadA 8 rfl a24 rfl rfl rfl rfl | exact eo_loadA 9 rfl a24 rfl rfl rfl rfl) rfl ?_
    refine ne (by first | exact eo_loadA 0 rfl a24 rfl rfl rfl rfl | exact eo_loadA 1 rfl a24 rfl rfl rfl rfl | exact eo_loadA 2 rfl a24 rfl rfl rfl rfl | exact eo_loadA 3 rfl a24 rfl rfl rfl rfl | exact eo_loadA 4 rfl a24 rfl rfl rfl rfl | exact eo_loadA 5 rfl a24 rfl rfl rfl rfl | exact eo_loadA 6 rfl a24 rfl rfl rfl rfl | exact eo_loadA 7 rfl a24 rfl rfl rfl rfl | exact eo_loadA 8 rfl a24 rfl rfl rfl rfl | exact eo_loadA 9 rfl a24 rfl rfl rfl rfl) rfl ?_
    refine ne (eo_mv rfl rfl) rfl ?_
    refine ne (eo_mv rfl rfl) rfl ?_
    refine nx (xo_fresh rfl en22 rfl (fun W' hO => rpaste_ok _ _ _ _ _ _ _ _ _ _ _ _ _ _ W' (hr.old0 hO) (hr'.old0 hO) hv hpv)) rfl ?_
    rintro _ _ ⟨_, ⟨gb, cb, spb, rfl, rfl, hcb⟩, rfl⟩
    refine ne (eo_mv rfl rfl) rfl ?_
    refine ne (eo_extract rfl rfl rfl) rfl ?_
    refine ne (eo_extract rfl rfl rfl) rfl ?_
    refine nx (xo_alloc rfl z24) rfl ?_
    rintro _ _ ⟨g11, rfl, rfl⟩
    refine nu (by first | exact xo_storeA 0 rfl a24 rfl rfl (ones_cons (by first | rfl | exact AS.one) (ones_cons (by first | rfl | exact AS.one) (ones_cons (by first | rfl | exact AS.one) ones_nil))) rfl rfl rfl rfl | exact xo_storeA 1 rfl a24 rfl rfl (ones_cons (by first | rfl | exact AS.one) (ones_cons (by first | rfl | exact AS.one) (ones_cons (by first | rfl | exact AS.one) ones_nil))) rfl rfl rfl rfl | exact xo_storeA 2 rfl a24 rfl rfl (ones_cons (by first | rfl | exact AS.one) (ones_cons (by first | rfl | exact AS.one) (ones_cons (by first | rfl | exact AS.one) ones_nil))) rfl rfl rfl rfl | exact xo_storeA 3 rfl a24 rfl rfl (ones_cons (by first | rfl | exact AS.one) (ones_cons (by first | rfl | exact AS.one) (ones_cons (by first | rfl | exact AS.one) ones_nil))) rfl rfl rfl rfl | exact xo_storeA 4 rfl a24 rfl rfl (ones_cons (by first | rfl | exact AS.one) (ones_cons (by first | rfl | exact AS.one) (ones_cons (by first | rfl | exact AS.one) ones_nil))) rfl rfl rfl rfl | exact xo_storeA 5 rfl a24 rfl rfl (ones_cons (by first | rfl | exact AS.one) (ones_cons (by first | rfl | exact AS.one) (ones_cons (by first | rfl | exact AS.one) ones_nil))) rfl rfl rfl rfl | exact xo_storeA 6 rfl a24 rfl rfl (ones_cons (by first | rfl | exact AS.one) (ones_cons (by first | rfl | exact AS.one) (ones_cons (by first | rfl | exact AS.one) ones_nil))) rfl rfl rfl rfl | exact xo_storeA 7 rfl a24 rfl rfl (ones_cons (by first | rfl | exact AS.one) (ones_cons (by first | rfl | exact AS.one) (ones_cons (by first | rfl | exact AS.one) ones_nil))) rfl rfl rfl rfl | exact xo_storeA 8 rfl a24 rfl rfl (ones_cons (by first | rfl | exact AS.one) (ones_cons (by first | rfl | exact AS.one) (ones_cons (by first | rfl | exact AS.one) ones_nil))) rfl rfl rfl rfl | exact xo_storeA 9 rfl a24 rfl rfl (ones_cons (by first | rfl | exact AS.one) (ones_cons (by first | rfl | exact AS.one) (ones_cons (by first | rfl | exact AS.one) ones_nil))) rfl rfl rfl rfl) ?_
    rintro _ _ ⟨rfl, rfl⟩
    refine ne (eo_as rfl rfl) rfl ?_
    refine go_nil ?_
    refine gq_next ?_
    refine gc_seq ?_
    refine gc_region ?_
    refine ne (by first | exact eo_loadA 0 rfl a24 rfl rfl rfl rfl | exact eo_loadA 1 rfl a24 rfl rfl rfl rfl | exact eo_loadA 2 rfl a24 rfl rfl rfl rfl | exact eo_loadA 3 rfl a24 rfl rfl rfl rfl | exact eo_loadA 4 rfl a24 rfl rfl rfl rfl | exact eo_loadA 5 rfl a24 rfl rfl rfl rfl | exact eo_loadA 6 rfl a24 rfl rfl rfl rfl | exact eo_loadA 7 rfl a24 rfl rfl rfl rfl | exact eo_loadA 8 rfl a24 rfl rfl rfl rfl | exact eo_loadA 9 rfl a24 rfl rfl rfl rfl) rfl ?_
    refine ne (by first | exact eo_loadA 0 rfl a24 rfl rfl rfl rfl | exact eo_loadA 1 rfl a24 rfl rfl rfl rfl | exact eo_loadA 2 rfl a24 rfl rfl rfl rfl | exact eo_loadA 3 rfl a24 rfl rfl rfl rfl | exact eo_loadA 4 rfl a24 rfl rfl rfl rfl | exact eo_loadA 5 rfl a24 rfl rfl rfl rfl | exact eo_loadA 6 rfl a24 rfl rfl rfl rfl | exact eo_loadA 7 rfl a24 rfl rfl rfl rfl | exact eo_loadA 8 rfl a24 rfl rfl rfl rfl | exact eo_loadA 9 rfl a24 rfl rfl rfl rfl) rfl ?_
    refine ne (eo_call rfl en16 rfl (fun W' hO => same_c _ _ _ _ _ _ _ _ _ _ _ _ W' (by omega) (tabs_rd hO 3 rfl) (tabs_rd hO 1 rfl))) rfl ?_
    refine ne (eo_mv rfl rfl) rfl ?_
    refine ng rfl rfl (fun h => eo_mv rfl rfl) rfl ?_
    refine ng rfl rfl (fun h => eo_mv rfl rfl) rfl ?_
    refine ng rfl rfl (fun h => eo_eql rfl (ev_if h rfl) (ev_if h rfl)) rfl ?_
    refine ne (eo_and rfl rfl (fun hb => ev_if hb rfl)) rfl ?_
    refine ne (eo_mv rfl rfl) rfl ?_
    refine ng rfl rfl (fun h => eo_call rfl en13 rfl (fun W _ => examples_c W)) rfl ?_
    refine ne (eo_and rfl rfl (fun hb => ev_if hb rfl)) rfl ?_
    refine ne (eo_as rfl rfl) rfl ?_
    refine go_nil ?_
    refine gq_next ?_
    refine gc_ret ?_
    refine gq_results (res1 rfl rfl) ?_
    first
      | exact fun W' hO => ⟨rfl, hO.toExt⟩
      | exact fun W' hO => ⟨ret_bool (by simp [eqM_yes rfl rfl rfl (fun j hj => paste_eq hv hpv hj)]), hO.toExt⟩

/-- barscan/barscanlaw31.RasterPastes -/
theorem pastes_no (x y W H pW pH : Int) (A A' : Option Addr) (n c pn pc : Nat) (f p : Nat → Bool) (w : World) (hr : Rd w A (tab n (bv f))) (hr' : Rd w A' (tab pn (bv p))) (_hpc : pn ≤ pc) (hb : (vldB W H n && vldB pW pH pn) = false) :
    Calls Try.prog 5 #[.agg #[.int .i64 W, .int .i64 H, .slice A n c], .agg #[.int .i64 pW, .int .i64 pH, .slice A' pn pc], .int .i64 x, .int .i64 y] w fun e w' => e = .returned (.bool true) ∧ Ext w w' := by
  refine calls_enter (N := ⟨51, []⟩) ([]) ([]) Try.func5 rfl rfl rfl (Ow.start _) ?_
  refine gc_seq ?_
  refine gc_region ?_
  refine nx (xo_boxA rfl rfl) rfl ?_
  rintro _ _ ⟨g4, rfl, rfl⟩
  refine nx (xo_boxA rfl rfl) rfl ?_
  rintro _ _ ⟨g5, rfl, rfl⟩
  refine ne (eo_as rfl rfl) rfl ?_
  refine go_nil ?_
  refine gq_next ?_
  refine gc_seq ?_
  refine gc_seq ?_
  refine gc_region ?_
  refine ne (eo_field rfl f24_2 rfl) rfl ?_
  refine ne (by first | exact eo_load 0 rfl s22 rfl rfl rfl rfl | exact eo_load 1 rfl s22 rfl rfl rfl rfl | exact eo_load 2 rfl s22 rfl rfl rfl rfl | exact eo_load 3 rfl s22 rfl rfl rfl rfl | exact eo_load 4 rfl s22 rfl rfl rfl rfl | exact eo_load 5 rfl s22 rfl rfl rfl rfl | exact eo_load 6 rfl s22 rfl rfl rfl rfl | exact eo_load 7 rfl s22 rfl rfl rfl rfl | exact eo_load 8 rfl s22 rfl rfl rfl rfl | exact eo_load 9 rfl s22 rfl rfl rfl rfl) rfl ?_
  refine ne (eo_len rfl Try.underlying22 rfl) rfl ?_
  refine ne (eo_gtr rfl rfl rfl) rfl ?_
  refine ne (eo_mv rfl rfl) rfl ?_
  refine ng rfl rfl (fun h => eo_field rfl f24_2 rfl) rfl ?_
  refine ng rfl rfl (fun h => by first | exact eo_load 0 rfl s22 (ev_if h rfl) rfl rfl rfl | exact eo_load 1 rfl s22 (ev_if h rfl) rfl rfl rfl | exact eo_load 2 rfl s22 (ev_if h rfl) rfl rfl rfl | exact eo_load 3 rfl s22 (ev_if h rfl) rfl rfl rfl | exact eo_load 4 rfl s22 (ev_if h rfl) rfl rfl rfl | exact eo_load 5 rfl s22 (ev_if h rfl) rfl rfl rfl | exact eo_load 6 rfl s22 (ev_if h rfl) rfl rfl rfl | exact eo_load 7 rfl s22 (ev_if h rfl) rfl rfl rfl | exact eo_load 8 rfl s22 (ev_if h rfl) rfl rfl rfl | exact eo_load 9 rfl s22 (ev_if h rfl) rfl rfl rfl) rfl ?_
  refine ng rfl rfl (fun h => eo_len rfl Try.underlying22 (ev_if h rfl)) rfl ?_
  refine ng rfl rfl (fun h => eo_gtr rfl (ev_if h rfl) rfl) rfl ?_
  refine ne (eo_or rfl rfl (fun hb => ev_if hb rfl)) rfl ?_
  refine go_nil ?_
  refine gq_next ?_
  refine gc_cond rfl (fun hc22 => ?_) (fun hc22 => ?_)
  ·
    refine gc_seq ?_
    refine gc_region ?_
    refine ne (eo_call rfl en13 rfl (fun W _ => examples_c W)) rfl ?_
    refine ne (eo_as rfl rfl) rfl ?_
    refine go_nil ?_
    refine gq_next ?_
    refine gc_ret ?_
    refine gq_then_ret ?_
    refine gq_results (res1 rfl rfl) ?_
    first
      | exact fun W' hO => ⟨rfl, hO.toExt⟩
      | exact fun W' hO => ⟨ret_bool (by simp [eqM_yes rfl rfl rfl (fun j hj => rfl)]), hO.toExt⟩
  ·
    have hq := hc22
    simp only [Bool.or_eq_false_iff, decide_eq_false_iff_not] at hq
    refine gc_skip ?_
    refine gq_next ?_
    refine gc_seq ?_
    refine gc_region ?_
    refine ne (by first | exact eo_loadA 0 rfl a24 rfl rfl rfl rfl | exact eo_loadA 1 rfl a24 rfl rfl rfl rfl | exact eo_loadA 2 rfl a24 rfl rfl rfl rfl | exact eo_loadA 3 rfl a24 rfl rfl rfl rfl | exact eo_loadA 4 rfl a24 rfl rfl rfl rfl | exact eo_loadA 5 rfl a24 rfl rfl rfl rfl | exact eo_loadA 6 rfl a24 rfl rfl rfl rfl | exact eo_loadA 7 rfl a24 rfl rfl rfl rfl | exact eo_loadA 8 rfl a24 rfl rfl rfl rfl | exact eo_loadA 9 rfl a24 rfl rfl rfl rfl) rfl ?_
    refine ne (by first | exact eo_loadA 0 rfl a24 rfl rfl rfl rfl | exact eo_loadA 1 rfl a24 rfl rfl rfl rfl | exact eo_loadA 2 rfl a24 rfl rfl rfl rfl | exact eo_loadA 3 rfl a24 rfl rfl rfl rfl | exact eo_loadA 4 rfl a24 rfl rfl rfl rfl | exact eo_loadA 5 rfl a24 rfl rfl rfl rfl | exact eo_loadA 6 rfl a24 rfl rfl rfl rfl | exact eo_loadA 7 rfl a24 rfl rfl rfl rfl | exact eo_loadA 8 rfl a24 rfl rfl rfl rfl | exact eo_loadA 9 rfl a24 rfl rfl rfl rfl) rfl ?_
    refine ne (eo_mv rfl rfl) rfl ?_
    refine ne (eo_mv rfl rfl) rfl ?_
    refine ne (eo_call rfl en21 rfl (fun W' hO => paste_no _ _ _ _ _ _ _ _ _ _ _ _ _ _ W' (hr.old0 hO) (hr'.old0 hO) hb)) rfl ?_
    refine ne (eo_mv rfl rfl) rfl ?_
    refine ne (eo_extract rfl rfl rfl) rfl ?_
    refine ne (eo_extract rfl rfl rfl) rfl ?_
    refine nx (xo_alloc rfl z24) rfl ?_
    rintro _ _ ⟨g9, rfl, rfl⟩
    refine nu (by first | exact xo_storeA 0 rfl a24 rfl rfl (ones_cons (by first | rfl | exact AS.one) (ones_cons (by first | rfl | exact AS.one) (ones_cons (by first | rfl | exact AS.one) ones_nil))) rfl rfl rfl rfl | exact xo_storeA 1 rfl a24 rfl rfl (ones_cons (by first | rfl | exact AS.one) (ones_cons (by first | rfl | exact AS.one) (ones_cons (by first | rfl | exact AS.one) ones_nil))) rfl rfl rfl rfl | exact xo_storeA 2 rfl a24 rfl rfl (ones_cons (by first | rfl | exact AS.one) (ones_cons (by first | rfl | exact AS.one) (ones_cons (by first | rfl | exact AS.one) ones_nil))) rfl rfl rfl rfl | exact xo_storeA 3 rfl a24 rfl rfl (ones_cons (by first | rfl | exact AS.one) (ones_cons (by first | rfl | exact AS.one) (ones_cons (by first | rfl | exact AS.one) ones_nil))) rfl rfl rfl rfl | exact xo_storeA 4 rfl a24 rfl rfl (ones_cons (by first | rfl | exact AS.one) (ones_cons (by first | rfl | exact AS.one) (ones_cons (by first | rfl | exact AS.one) ones_nil))) rfl rfl rfl rfl | exact xo_storeA 5 rfl a24 rfl rfl (ones_cons (by first | rfl | exact AS.one) (ones_cons (by first | rfl | exact AS.one) (ones_cons (by first | rfl | exact AS.one) ones_nil))) rfl rfl rfl rfl | exact xo_storeA 6 rfl a24 rfl rfl (ones_cons (by first | rfl | exact AS.one) (ones_cons (by first | rfl | exact AS.one) (ones_cons (by first | rfl | exact AS.one) ones_nil))) rfl rfl rfl rfl | exact xo_storeA 7 rfl a24 rfl rfl (ones_cons (by first | rfl | exact AS.one) (ones_cons (by first | rfl | exact AS.one) (ones_cons (by first | rfl | exact AS.one) ones_nil))) rfl rfl rfl rfl | exact xo_storeA 8 rfl a24 rfl rfl (ones_cons (by first | rfl | exact AS.one) (ones_cons (by first | rfl | exact AS.one) (ones_cons (by first | rfl | exact AS.one) ones_nil))) rfl rfl rfl rfl | exact xo_storeA 9 rfl a24 rfl rfl (ones_cons (by first | rfl | exact AS.one) (ones_cons (by first | rfl | exact AS.one) (ones_cons (by first | rfl | exact AS.one) ones_nil))) rfl rfl rfl rfl) ?_
    rintro _ _ ⟨rfl, rfl⟩
    refine ne (eo_as rfl rfl) rfl ?_
    refine go_nil ?_
    refine gq_next ?_
    refine gc_seq ?_
    refine gc_region ?_
    refine ne (by first | exact eo_loadA 0 rfl a24 rfl rfl rfl rfl | exact eo_loadA 1 rfl a24 rfl rfl rfl rfl | exact eo_loadA 2 rfl a24 rfl rfl rfl rfl | exact eo_loadA 3 rfl a24 rfl rfl rfl rfl | exact eo_loadA 4 rfl a24 rfl rfl rfl rfl | exact eo_loadA 5 rfl a24 rfl rfl rfl rfl | exact eo_loadA 6 rfl a24 rfl rfl rfl rfl | exact eo_loadA 7 rfl a24 rfl rfl rfl rfl | exact eo_loadA 8 rfl a24 rfl rfl rfl rfl | exact eo_loadA 9 rfl a24 rfl rfl rfl rfl) rfl ?_
    refine ne (by first | exact eo_loadA 0 rfl a24 rfl rfl rfl rfl | exact eo_loadA 1 rfl a24 rfl rfl rfl rfl | exact eo_loadA 2 rfl a24 rfl rfl rfl rfl | exact eo_loadA 3 rfl a24 rfl rfl rfl rfl | exact eo_loadA 4 rfl a24 rfl rfl rfl rfl | exact eo_loadA 5 rfl a24 rfl rfl rfl rfl | exact eo_loadA 6 rfl a24 rfl rfl rfl rfl | exact eo_loadA 7 rfl a24 rfl rfl rfl rfl | exact eo_loadA 8 rfl a24 rfl rfl rfl rfl | exact eo_loadA 9 rfl a24 rfl rfl rfl rfl) rfl ?_
    refine ne (eo_mv rfl rfl) rfl ?_
    refine ne (eo_mv rfl rfl) rfl ?_
    refine ne (eo_call rfl en22 rfl (fun W' hO => rpaste_no _ _ _ _ _ _ _ _ _ _ _ _ _ _ W' (hr.old0 hO) (hr'.old0 hO) hb)) rfl ?_
    refine ne (eo_mv rfl rfl) rfl ?_
    refine ne (eo_extract rfl rfl rfl) rfl ?_
    refine ne (eo_extract rfl rfl rfl) rfl ?_
    refine nx (xo_alloc rfl z24) rfl ?_
    rintro _ _ ⟨g11, rfl, rfl⟩
    refine nu (by first | exact xo_storeA 0 rfl a24 rfl rfl (ones_cons (by first | rfl | exact AS.one) (ones_cons (by first | rfl | exact AS.one) (ones_cons (by first | rfl | exact AS.one) ones_nil))) rfl rfl rfl rfl | exact xo_storeA 1 rfl a24 rfl rfl (ones_cons (by first | rfl | exact AS.one) (ones_cons (by first | rfl | exact AS.one) (ones_cons (by first | rfl | exact AS.one) ones_nil))) rfl rfl rfl rfl | exact xo_storeA 2 rfl a24 rfl rfl (ones_cons (by first | rfl | exact AS.one) (ones_cons (by first | rfl | exact AS.one) (ones_cons (by first | rfl | exact AS.one) ones_nil))) rfl rfl rfl rfl | exact xo_storeA 3 rfl a24 rfl rfl (ones_cons (by first | rfl | exact AS.one) (ones_cons (by first | rfl | exact AS.one) (ones_cons (by first | rfl | exact AS.one) ones_nil))) rfl rfl rfl rfl | exact xo_storeA 4 rfl a24 rfl rfl (ones_cons (by first | rfl | exact AS.one) (ones_cons (by first | rfl | exact AS.one) (ones_cons (by first | rfl | exact AS.one) ones_nil))) rfl rfl rfl rfl | exact xo_storeA 5 rfl a24 rfl rfl (ones_cons (by first | rfl | exact AS.one) (ones_cons (by first | rfl | exact AS.one) (ones_cons (by first | rfl | exact AS.one) ones_nil))) rfl rfl rfl rfl | exact xo_storeA 6 rfl a24 rfl rfl (ones_cons (by first | rfl | exact AS.one) (ones_cons (by first | rfl | exact AS.one) (ones_cons (by first | rfl | exact AS.one) ones_nil))) rfl rfl rfl rfl | exact xo_storeA 7 rfl a24 rfl rfl (ones_cons (by first | rfl | exact AS.one) (ones_cons (by first | rfl | exact AS.one) (ones_cons (by first | rfl | exact AS.one) ones_nil))) rfl rfl rfl rfl | exact xo_storeA 8 rfl a24 rfl rfl (ones_cons (by first | rfl | exact AS.one) (ones_cons (by first | rfl | exact AS.one) (ones_cons (by first | rfl | exact AS.one) ones_nil))) rfl rfl rfl rfl | exact xo_storeA 9 rfl a24 rfl rfl (ones_cons (by first | rfl | exact AS.one) (ones_cons (by first | rfl | exact AS.one) (ones_cons (by first | rfl | exact AS.one) ones_nil))) rfl rfl rfl rfl) ?_
    rintro _ _ ⟨rfl, rfl⟩
    refine ne (eo_as rfl rfl) rfl ?_
    refine go_nil ?_
    refine gq_next ?_
    refine gc_seq ?_
    refine gc_region ?_
    refine ne (by first | exact eo_loadA 0 rfl a24 rfl rfl rfl rfl | exact eo_loadA 1 rfl a24 rfl rfl rfl rfl | exact eo_loadA 2 rfl a24 rfl rfl rfl rfl | exact eo_loadA 3 rfl a24 rfl rfl rfl rfl | exact eo_loadA 4 rfl a24 rfl rfl rfl rfl | exact eo_loadA 5 rfl a24 rfl rfl rfl rfl | exact eo_loadA 6 rfl a24 rfl rfl rfl rfl | exact eo_loadA 7 rfl a24 rfl rfl rfl rfl | exact eo_loadA 8 rfl a24 rfl rfl rfl rfl | exact eo_loadA 9 rfl a24 rfl rfl rfl rfl) rfl ?_
    refine ne (by first | exact eo_loadA 0 rfl a24 rfl rfl rfl rfl | exact eo_loadA 1 rfl a24 rfl rfl rfl rfl | exact eo_loadA 2 rfl a24 rfl rfl rfl rfl | exact eo_loadA 3 rfl a24 rfl rfl rfl rfl | exact eo_loadA 4 rfl a24 rfl rfl rfl rfl | exact eo_loadA 5 rfl a24 rfl rfl rfl rfl | exact eo_loadA 6 rfl a24 rfl rfl rfl rfl | exact eo_loadA 7 rfl a24 rfl rfl rfl rfl | exact eo_loadA 8 rfl a24 rfl rfl rfl rfl | exact eo_loadA 9 rfl a24 rfl rfl rfl rfl) rfl ?_
    refine ne (eo_call rfl en16 rfl (fun W' hO => same_c _ _ _ _ _ _ _ _ _ _ (fun _ => false) (fun _ => false) W' (by omega) (by simpa using Rd.nil) (by simpa using Rd.nil))) rfl ?_
    refine ne (eo_mv rfl rfl) rfl ?_
    refine ng rfl rfl (fun h => eo_mv rfl rfl) rfl ?_
    refine ng rfl rfl (fun h => eo_mv rfl rfl) rfl ?_
    refine ng rfl rfl (fun h => eo_eql rfl (ev_if h rfl) (ev_if h rfl)) rfl ?_
    refine ne (eo_and rfl rfl (fun hb => ev_if hb rfl)) rfl ?_
    refine ne (eo_mv rfl rfl) rfl ?_
    refine ng rfl rfl (fun h => eo_call rfl en13 rfl (fun W _ => examples_c W)) rfl ?_
    refine ne (eo_and rfl rfl (fun hb => ev_if hb rfl)) rfl ?_
    refine ne (eo_as rfl rfl) rfl ?_
    refine go_nil ?_
    refine gq_next ?_
    refine gc_ret ?_
    refine gq_results (res1 rfl rfl) ?_
    first
      | exact fun W' hO => ⟨rfl, hO.toExt⟩
      | exact fun W' hO => ⟨ret_bool (by simp [eqM_yes rfl rfl rfl (fun j hj => rfl)]), hO.toExt⟩

theorem pastes_c (x y W H pW pH : Int) (A A' : Option Addr) (n c pn pc : Nat) (f p : Nat → Bool) (w : World) (hr : Rd w A (tab n (bv f))) (hr' : Rd w A' (tab pn (bv p))) (hpc : pn ≤ pc) :
    Calls Try.prog 5 #[.agg #[.int .i64 W, .int .i64 H, .slice A n c], .agg #[.int .i64 pW, .int .i64 pH, .slice A' pn pc], .int .i64 x, .int .i64 y] w (fun e w' => e = .returned (.bool true) ∧ Ext w w') := by
  cases hb : (vldB W H n && vldB pW pH pn)
  · exact pastes_no _ _ _ _ _ _ _ _ _ _ _ _ _ _ w hr hr' hpc hb
  · simp only [Bool.and_eq_true] at hb
    exact pastes_ok _ _ _ _ _ _ _ _ _ _ _ _ _ _ w hr hr' hpc hb.1 hb.2

end Go.Proofs.Ytefblgildcaldaa
