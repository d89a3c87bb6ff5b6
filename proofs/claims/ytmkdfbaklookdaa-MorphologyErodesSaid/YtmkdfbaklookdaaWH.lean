/-
  The walks of the functions of package morphology and of the document's answer (part H): what each call returns, at every argument.
-/
import Derived.Test.YtmkdfbaklookdaaWG
namespace Go.Proofs.Ytmkdfbaklookdaa
open Go.RowKit Go.Eng

open Go.Bs
theorem en11 : Ent Try.prog 11 := ent_of Try.func11 (by kernel_rfl) rfl
theorem en16 : Ent Try.prog 16 := ent_of Try.func16 (by kernel_rfl) rfl

/-- barscan/barscanlaw37.MorphologyErodes -/
theorem erodes_c (W H : Int) (A : Option Addr) (n c : Nat) (f : Nat → Bool) (rx : Int) (ry : Int) (w : World) (hr : Rd w A (tab n (bv f))) (hnc : n ≤ c) :
    Calls Try.prog 3 #[.agg #[.int .i64 W, .int .i64 H, .slice A n c], .int .i64 rx, .int .i64 ry] w (fun e w' => e = .returned (.bool true) ∧ Ext w w') := by
  refine calls_enter (N := ⟨69, []⟩) [] ([]) Try.func3 rfl rfl rfl (Ow.start _) ?_
  refine gc_seq ?_
  refine gc_region ?_
  refine nx (xo_boxA rfl rfl) rfl ?_
  rintro _ _ ⟨g3, rfl, rfl⟩
  refine ne (eo_as rfl rfl) rfl ?_
  refine go_nil ?_
  refine gq_next ?_
  refine gc_seq ?_
  refine gc_seq ?_
  refine gc_region ?_
  refine ne (eo_field rfl f24_2 rfl) rfl ?_
  refine ne (eo_load 0 rfl s22 rfl rfl rfl rfl) rfl ?_
  refine ne (eo_len rfl Try.underlying22 rfl) rfl ?_
  refine ne (eo_gtr rfl rfl rfl) rfl ?_
  refine go_nil ?_
  refine gq_next ?_
  refine gc_cond rfl (fun hc0 => ?_) (fun hc0 => ?_)
  ·
    replace hc0 := of_decide_eq_true hc0
    refine gc_seq ?_
    refine gc_region ?_
    refine ne (eo_call rfl en11 rfl (fun W1 hO => exam_c W1  )) rfl ?_
    refine ne (eo_as rfl rfl) rfl ?_
    refine go_nil ?_
    refine gq_next ?_
    refine gc_ret ?_
    refine gq_then_ret ?_
    refine gq_results (res1 rfl rfl) ?_
    exact fun W1 hO => ⟨rfl, hO.toExt⟩
  ·
    replace hc0 := of_decide_eq_false hc0
    refine gc_skip ?_
    refine gq_next ?_
    refine gc_seq ?_
    refine gc_region ?_
    refine ne (eo_loadA 0 rfl a24 rfl rfl rfl rfl) rfl ?_
    refine ne (eo_mv rfl rfl) rfl ?_
    refine ne (eo_mv rfl rfl) rfl ?_
    refine nx (xo_freshT rfl en12 rfl (fun W1 hO => erode_x _ _ _ _ _ _ _ _ W1 (hr.old0 hO) hnc)) rfl ?_
    rintro _ _ ⟨S24, ⟨A24, k24, rfl, hk24, hS24⟩, rfl⟩
    refine ne (eo_mv rfl rfl) rfl ?_
    refine ne (eo_extract rfl rfl rfl) rfl ?_
    refine ne (eo_extract rfl rfl rfl) rfl ?_
    refine nx (xo_alloc rfl z24) rfl ?_
    rintro _ _ ⟨g7, rfl, rfl⟩
    refine nu (xo_storeA 0 rfl a24 rfl rfl (ones_cons (by first | rfl | exact AS.one) (ones_cons (by first | rfl | exact AS.one) (ones_cons (by first | rfl | exact AS.one) ones_nil))) rfl rfl rfl rfl) ?_
    rintro _ _ ⟨rfl, rfl⟩
    refine ne (eo_as rfl rfl) rfl ?_
    refine go_nil ?_
    refine gq_next ?_
    refine gc_seq ?_
    refine gc_region ?_
    refine ne (eo_loadA 1 rfl a24 rfl rfl rfl rfl) rfl ?_
    refine ne (eo_mv rfl rfl) rfl ?_
    refine ne (eo_mv rfl rfl) rfl ?_
    refine nx (xo_freshT rfl en13 rfl (fun W1 hO => rerode_x _ _ _ _ _ _ _ _ W1 (hr.old0 hO) )) rfl ?_
    rintro _ _ ⟨S31, ⟨A31, k31, rfl, hk31, hS31⟩, rfl⟩
    refine ne (eo_mv rfl rfl) rfl ?_
    refine ne (eo_extract rfl rfl rfl) rfl ?_
    refine ne (eo_extract rfl rfl rfl) rfl ?_
    refine nx (xo_alloc rfl z24) rfl ?_
    rintro _ _ ⟨g9, rfl, rfl⟩
    refine nu (xo_storeA 0 rfl a24 rfl rfl (ones_cons (by first | rfl | exact AS.one) (ones_cons (by first | rfl | exact AS.one) (ones_cons (by first | rfl | exact AS.one) ones_nil))) rfl rfl rfl rfl) ?_
    rintro _ _ ⟨rfl, rfl⟩
    refine ne (eo_as rfl rfl) rfl ?_
    refine go_nil ?_
    refine gq_next ?_
    refine gc_seq ?_
    refine gc_region ?_
    refine ne (eo_loadA 2 rfl a24 rfl rfl rfl rfl) rfl ?_
    refine ne (eo_mv rfl rfl) rfl ?_
    refine ne (eo_mv rfl rfl) rfl ?_
    refine nx (xo_freshT rfl en14 rfl (fun W1 hO => dilate_x _ _ _ _ _ _ _ _ W1 (hr.old0 hO) hnc)) rfl ?_
    rintro _ _ ⟨S38, ⟨A38, k38, rfl, hk38, hS38⟩, rfl⟩
    refine ne (eo_mv rfl rfl) rfl ?_
    refine ne (eo_extract rfl rfl rfl) rfl ?_
    refine ne (eo_extract rfl rfl rfl) rfl ?_
    refine nx (xo_alloc rfl z24) rfl ?_
    rintro _ _ ⟨g11, rfl, rfl⟩
    refine nu (xo_storeA 0 rfl a24 rfl rfl (ones_cons (by first | rfl | exact AS.one) (ones_cons (by first | rfl | exact AS.one) (ones_cons (by first | rfl | exact AS.one) ones_nil))) rfl rfl rfl rfl) ?_
    rintro _ _ ⟨rfl, rfl⟩
    refine ne (eo_as rfl rfl) rfl ?_
    refine go_nil ?_
    refine gq_next ?_
    refine gc_seq ?_
    refine gc_region ?_
    refine ne (eo_loadA 3 rfl a24 rfl rfl rfl rfl) rfl ?_
    refine ne (eo_mv rfl rfl) rfl ?_
    refine ne (eo_mv rfl rfl) rfl ?_
    refine nx (xo_freshT rfl en15 rfl (fun W1 hO => rdilate_x _ _ _ _ _ _ _ _ W1 (hr.old0 hO) )) rfl ?_
    rintro _ _ ⟨S45, ⟨A45, k45, rfl, hk45, hS45⟩, rfl⟩
    refine ne (eo_mv rfl rfl) rfl ?_
    refine ne (eo_extract rfl rfl rfl) rfl ?_
    refine ne (eo_extract rfl rfl rfl) rfl ?_
    refine nx (xo_alloc rfl z24) rfl ?_
    rintro _ _ ⟨g13, rfl, rfl⟩
    refine nu (xo_storeA 0 rfl a24 rfl rfl (ones_cons (by first | rfl | exact AS.one) (ones_cons (by first | rfl | exact AS.one) (ones_cons (by first | rfl | exact AS.one) ones_nil))) rfl rfl rfl rfl) ?_
    rintro _ _ ⟨rfl, rfl⟩
    refine ne (eo_as rfl rfl) rfl ?_
    refine go_nil ?_
    refine gq_next ?_
    refine gc_seq ?_
    refine gc_region ?_
    refine ne (eo_loadA 3 rfl a24 rfl rfl rfl rfl) rfl ?_
    refine ne (eo_loadA 2 rfl a24 rfl rfl rfl rfl) rfl ?_
    refine ne (eo_call rfl en16 rfl (fun W1 hO => same37_c _ _ _ _ _ _ _ _ _ _ _ _ W1 (hS24.rd (hO.tl 5 rfl (((List.sublist_append_left _ _).trans (List.sublist_append_left _ _)).trans (List.sublist_append_left _ _)))) (hS31.rd (hO.tl 5 rfl (((List.sublist_append_right _ _).trans (List.sublist_append_left _ _)).trans (List.sublist_append_left _ _)))) (Nat.le_trans erodeR_le (by decide)))) rfl ?_
    refine ne (eo_mv rfl rfl) rfl ?_
    refine ng rfl rfl (fun h => eo_mv rfl rfl) rfl ?_
    refine ng rfl rfl (fun h => eo_mv rfl rfl) rfl ?_
    refine ng rfl rfl (fun h => eo_eql rfl (ev_if h rfl) (ev_if h rfl)) rfl ?_
    refine ne (eo_and rfl rfl (fun hb => ev_if hb rfl)) rfl ?_
    refine ne (eo_mv rfl rfl) rfl ?_
    refine ng rfl rfl (fun h => eo_loadA 1 rfl a24 rfl rfl rfl rfl) rfl ?_
    refine ng rfl rfl (fun h => eo_loadA 0 rfl a24 rfl rfl rfl rfl) rfl ?_
    refine ng rfl rfl (fun h => eo_call rfl en16 (evs_cons (ev_if h rfl) (evs_cons (ev_if h rfl) evs_nil)) (fun W1 hO => same37_c _ _ _ _ _ _ _ _ _ _ _ _ W1 (hS38.rd (hO.tl 5 rfl ((List.sublist_append_right _ _).trans (List.sublist_append_left _ _)))) (hS45.rd (hO.tl 5 rfl (List.sublist_append_right _ _))) (Nat.le_trans dilateR_le (by decide)))) rfl ?_
    refine ne (eo_and rfl rfl (fun hb => ev_if hb rfl)) rfl ?_
    refine ne (eo_mv rfl rfl) rfl ?_
    refine ng rfl rfl (fun h => eo_mv rfl rfl) rfl ?_
    refine ng rfl rfl (fun h => eo_mv rfl rfl) rfl ?_
    refine ng rfl rfl (fun h => eo_eql rfl (ev_if h rfl) (ev_if h rfl)) rfl ?_
    refine ne (eo_and rfl rfl (fun hb => ev_if hb rfl)) rfl ?_
    refine ne (eo_mv rfl rfl) rfl ?_
    refine ng rfl rfl (fun h => eo_call rfl en11 rfl (fun W1 hO => exam_c W1  )) rfl ?_
    refine ne (eo_and rfl rfl (fun hb => ev_if hb rfl)) rfl ?_
    refine ne (eo_as rfl rfl) rfl ?_
    refine go_nil ?_
    refine gq_next ?_
    refine gc_ret ?_
    refine gq_results (res1 rfl rfl) ?_
    exact fun W1 hO => ⟨ret_bool (show (((((eqP (erodeR ⟨W, H, n, f⟩ rx ry).1 (rerodeR ⟨W, H, n, f⟩ rx ry).1) && decide ((erodeR ⟨W, H, n, f⟩ rx ry).2 = (rerodeR ⟨W, H, n, f⟩ rx ry).2)) && (eqP (dilateR ⟨W, H, n, f⟩ rx ry).1 (rdilateR ⟨W, H, n, f⟩ rx ry).1)) && decide ((dilateR ⟨W, H, n, f⟩ rx ry).2 = (rdilateR ⟨W, H, n, f⟩ rx ry).2)) && true) = true from by simp [eqP_of erode_eq.1, eqP_of dilate_eq.1, erode_eq.2, dilate_eq.2]), hO.toExt⟩

end Go.Proofs.Ytmkdfbaklookdaa
