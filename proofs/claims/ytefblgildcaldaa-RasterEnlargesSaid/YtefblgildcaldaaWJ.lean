/-
  The walks of the functions of package raster and of the document's answer (part J): what each call returns, at every argument.
-/
import Derived.Test.YtefblgildcaldaaWH
namespace Go.Proofs.Ytefblgildcaldaa
open Go.RowKit Go.Eng

open Go.Bs
theorem en12 : Ent Try.prog 12 := ent_of Try.func12 (by kernel_rfl) rfl
theorem en13 : Ent Try.prog 13 := ent_of Try.func13 (by kernel_rfl) rfl
theorem en37 : Ent Try.prog 37 := ent_of Try.func37 (by kernel_rfl) rfl
theorem en38 : Ent Try.prog 38 := ent_of Try.func38 (by kernel_rfl) rfl
theorem en16 : Ent Try.prog 16 := ent_of Try.func16 (by kernel_rfl) rfl

/-- barscan/barscanlaw31.RasterEnlarges -/
theorem enlarges_c (W H : Int) (A : Option Addr) (n c : Nat) (f : Nat → Bool) (k : Int) (w : World) (hr : Rd w A (tab n (bv f)))  :
    Calls Try.prog 9 #[.agg #[.int .i64 W, .int .i64 H, .slice A n c], .int .i64 k] w (fun e w' => e = .returned (.bool true) ∧ Ext w w') := by
  refine calls_enter (N := ⟨61, []⟩) [] ([]) Try.func9 rfl rfl rfl (Ow.start _) ?_
  refine gc_seq ?_
  refine gc_region ?_
  refine nx (xo_boxA rfl rfl) rfl ?_
  rintro _ _ ⟨g2, rfl, rfl⟩
  refine ne (eo_as rfl rfl) rfl ?_
  refine go_nil ?_
  refine gq_next ?_
  refine gc_seq ?_
  refine gc_seq ?_
  refine gc_region ?_
  refine ne (eo_field rfl f24_2 rfl) rfl ?_
  refine ne (eo_load 0 rfl s22 rfl rfl rfl rfl) rfl ?_
  refine ne (eo_len rfl Try.underlying22 rfl) rfl ?_
  refine ne (eo_gtr rfl rfl rfl) rfl ?_
  refine ne (eo_mv rfl rfl) rfl ?_
  refine ng rfl rfl (fun h => eo_mv rfl rfl) rfl ?_
  refine ng rfl rfl (fun h => eo_gtr rfl (ev_if h rfl) rfl) rfl ?_
  refine ng rfl rfl (fun h => eo_mv rfl (ev_if h rfl)) rfl ?_
  refine ngc rfl rfl (fun h => eo_mv rfl rfl) rfl ?_
  refine ngc rfl rfl (fun h => eo_leq rfl (ev_if h rfl) rfl) rfl ?_
  refine ng rfl rfl (fun h => eo_and rfl (ev_if h rfl) (fun hb => ev_if ⟨h, hb⟩ rfl)) rfl ?_
  refine ng rfl rfl (fun h => eo_mv rfl (ev_if h rfl)) rfl ?_
  refine ngc rfl rfl (fun h => eo_loadA 0 rfl a24 rfl rfl rfl rfl) rfl ?_
  refine ngc rfl rfl (fun h => eo_call rfl en36 (evs_cons (ev_if h rfl) evs_nil) (fun W1 hO => valid_c _ _ _ _ _ W1  )) rfl ?_
  refine ng rfl rfl (fun h => eo_and rfl (ev_if h rfl) (fun hb => ev_if ⟨h, hb⟩ rfl)) rfl ?_
  refine ng rfl rfl (fun h => eo_mv rfl (ev_if h rfl)) rfl ?_
  refine ngc rfl rfl (fun h => eo_mv rfl rfl) rfl ?_
  refine ngc rfl rfl (fun h => eo_field rfl f24_0 rfl) rfl ?_
  refine ngc rfl rfl (fun h => eo_load 0 rfl s3 (ev_if h rfl) rfl rfl rfl) rfl ?_
  refine ngc rfl rfl (fun h => eo_mul rfl (ev_if h rfl) (ev_if h rfl) (by have h2 := h.2; simp only [Bool.and_eq_true, decide_eq_true_eq] at h2; have := vldB_iff.1 h2.2; have := mul_in (a := k) (b := W) (by omega) (by omega) (by omega) (by omega); omega) (by have h2 := h.2; simp only [Bool.and_eq_true, decide_eq_true_eq] at h2; have := vldB_iff.1 h2.2; have := mul_in (a := k) (b := W) (by omega) (by omega) (by omega) (by omega); omega)) rfl ?_
  refine ngc rfl rfl (fun h => eo_mv rfl rfl) rfl ?_
  refine ngc rfl rfl (fun h => eo_field rfl f24_1 rfl) rfl ?_
  refine ngc rfl rfl (fun h => eo_load 0 rfl s3 (ev_if h rfl) rfl rfl rfl) rfl ?_
  refine ngc rfl rfl (fun h => eo_mul rfl (ev_if h rfl) (ev_if h rfl) (by have h2 := h.2; simp only [Bool.and_eq_true, decide_eq_true_eq] at h2; have := vldB_iff.1 h2.2; have := mul_in (a := k) (b := H) (by omega) (by omega) (by omega) (by omega); omega) (by have h2 := h.2; simp only [Bool.and_eq_true, decide_eq_true_eq] at h2; have := vldB_iff.1 h2.2; have := mul_in (a := k) (b := H) (by omega) (by omega) (by omega) (by omega); omega)) rfl ?_
  refine ngc rfl rfl (fun h => eo_call rfl en12 (evs_cons (ev_if h rfl) (evs_cons (ev_if h rfl) evs_nil)) (fun W1 hO => small_c _ _ W1  )) rfl ?_
  refine ngc rfl rfl (fun h => eo_not rfl (ev_if h rfl)) rfl ?_
  refine ng rfl rfl (fun h => eo_and rfl (ev_if h rfl) (fun hb => ev_if ⟨h, hb⟩ rfl)) rfl ?_
  refine ne (eo_or rfl rfl (fun hb => ev_if hb rfl)) rfl ?_
  refine go_nil ?_
  refine gq_next ?_
  refine gc_cond rfl (fun hc0 => ?_) (fun hc0 => ?_)
  ·
    have hd0 := (or_t hc0).imp (fun h => of_decide_eq_true h) (fun h => (and_t h).imp (fun h => (and_t h).imp (fun h => (and_t h).imp (fun h => of_decide_eq_true h) (fun h => of_decide_eq_true h)) (fun h => h)) (fun h => (not_t h)))
    refine gc_seq ?_
    refine gc_region ?_
    refine ne (eo_call rfl en13 rfl (fun W1 hO => examples_c W1  )) rfl ?_
    refine ne (eo_as rfl rfl) rfl ?_
    refine go_nil ?_
    refine gq_next ?_
    refine gc_ret ?_
    refine gq_then_ret ?_
    refine gq_results (res1 rfl rfl) ?_
    first
      | exact fun W1 hO => ⟨rfl, hO.toExt⟩
      | exact fun W1 hO => ⟨ret_bool (by simp [eqM_rf]), hO.toExt⟩
  ·
    have hd0 := (or_f hc0).imp (fun h => of_decide_eq_false h) (fun h => (and_f h).imp (fun h => (and_f h).imp (fun h => (and_f h).imp (fun h => of_decide_eq_false h) (fun h => of_decide_eq_false h)) (fun h => h)) (fun h => (not_f h)))
    refine gc_skip ?_
    refine gq_next ?_
    refine gc_seq ?_
    refine gc_region ?_
    refine ne (eo_loadA 0 rfl a24 rfl rfl rfl rfl) rfl ?_
    refine ne (eo_mv rfl rfl) rfl ?_
    refine nx (xo_freshT rfl en37 rfl (fun W1 hO => enl_x _ _ _ _ _ _ _ W1 (hr.old0 hO) )) rfl ?_
    rintro _ _ ⟨S41, ⟨A41, k41, rfl, hk41, hS41⟩, rfl⟩
    refine ne (eo_mv rfl rfl) rfl ?_
    refine ne (eo_extract rfl rfl rfl) rfl ?_
    refine ne (eo_extract rfl rfl rfl) rfl ?_
    refine nx (xo_alloc rfl z24) rfl ?_
    rintro _ _ ⟨g5, rfl, rfl⟩
    refine nu (xo_storeA 0 rfl a24 rfl rfl (ones_cons (by first | rfl | exact AS.one) (ones_cons (by first | rfl | exact AS.one) (ones_cons (by first | rfl | exact AS.one) ones_nil))) rfl rfl rfl rfl) ?_
    rintro _ _ ⟨rfl, rfl⟩
    refine ne (eo_as rfl rfl) rfl ?_
    refine go_nil ?_
    refine gq_next ?_
    refine gc_seq ?_
    refine gc_region ?_
    refine ne (eo_loadA 1 rfl a24 rfl rfl rfl rfl) rfl ?_
    refine ne (eo_mv rfl rfl) rfl ?_
    refine nx (xo_freshT rfl en38 rfl (fun W1 hO => renl_x _ _ _ _ _ _ _ W1 (hr.old0 hO) )) rfl ?_
    rintro _ _ ⟨S47, ⟨A47, k47, rfl, hk47, hS47⟩, rfl⟩
    refine ne (eo_mv rfl rfl) rfl ?_
    refine ne (eo_extract rfl rfl rfl) rfl ?_
    refine ne (eo_extract rfl rfl rfl) rfl ?_
    refine nx (xo_alloc rfl z24) rfl ?_
    rintro _ _ ⟨g7, rfl, rfl⟩
    refine nu (xo_storeA 0 rfl a24 rfl rfl (ones_cons (by first | rfl | exact AS.one) (ones_cons (by first | rfl | exact AS.one) (ones_cons (by first | rfl | exact AS.one) ones_nil))) rfl rfl rfl rfl) ?_
    rintro _ _ ⟨rfl, rfl⟩
    refine ne (eo_as rfl rfl) rfl ?_
    refine go_nil ?_
    refine gq_next ?_
    refine gc_seq ?_
    refine gc_region ?_
    refine ne (eo_loadA 1 rfl a24 rfl rfl rfl rfl) rfl ?_
    refine ne (eo_loadA 0 rfl a24 rfl rfl rfl rfl) rfl ?_
    refine ne (eo_call rfl en16 rfl (fun W1 hO => same_c _ _ _ _ _ _ _ _ _ _ _ _ W1 (Nat.le_trans enlR_le (by decide)) (hS41.rd (hO.tl 3 rfl (List.sublist_append_left _ _))) (hS47.rd (hO.tl 3 rfl (List.sublist_append_right _ _))))) rfl ?_
    refine ne (eo_mv rfl rfl) rfl ?_
    refine ng rfl rfl (fun h => eo_mv rfl rfl) rfl ?_
    refine ng rfl rfl (fun h => eo_mv rfl rfl) rfl ?_
    refine ng rfl rfl (fun h => eo_eql rfl (ev_if h rfl) (ev_if h rfl)) rfl ?_
    refine ne (eo_and rfl rfl (fun hb => ev_if hb rfl)) rfl ?_
    refine ne (eo_mv rfl rfl) rfl ?_
    refine ng rfl rfl (fun h => eo_call rfl en13 rfl (fun W1 hO => examples_c W1  )) rfl ?_
    refine ne (eo_and rfl rfl (fun hb => ev_if hb rfl)) rfl ?_
    refine ne (eo_as rfl rfl) rfl ?_
    refine go_nil ?_
    refine gq_next ?_
    refine gc_ret ?_
    refine gq_results (res1 rfl rfl) ?_
    first
      | exact fun W1 hO => ⟨rfl, hO.toExt⟩
      | exact fun W1 hO => ⟨ret_bool (by simp [eqM_rf]), hO.toExt⟩

end Go.Proofs.Ytefblgildcaldaa
