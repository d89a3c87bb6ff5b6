/-
  The walks of the functions of package morphology and of the document's answer (part J): what each call returns, at every argument.
-/
import Derived.Test.YtmkdfbaklookdaaWG
namespace Go.Proofs.Ytmkdfbaklookdaa
open Go.RowKit Go.Eng

open Go.Bs
theorem en11 : Ent Try.prog 11 := ent_of Try.func11 (by kernel_rfl) rfl
theorem en23 : Ent Try.prog 23 := ent_of Try.func23 (by kernel_rfl) rfl
theorem en25 : Ent Try.prog 25 := ent_of Try.func25 (by kernel_rfl) rfl
theorem en16 : Ent Try.prog 16 := ent_of Try.func16 (by kernel_rfl) rfl

/-- barscan/barscanlaw37.MorphologyMajority -/
theorem majority_c (W H : Int) (A : Option Addr) (n c : Nat) (f : Nat → Bool) (r : Int) (w : World) (hr : Rd w A (tab n (bv f))) (hnc : n ≤ c) :
    Calls Try.prog 5 #[.agg #[.int .i64 W, .int .i64 H, .slice A n c], .int .i64 r] w (fun e w' => e = .returned (.bool true) ∧ Ext w w') := by
  refine calls_enter (N := ⟨61, []⟩) [] ([]) Try.func5 rfl rfl rfl (Ow.start _) ?_
  refine gc_seq ?_
  refine gc_region ?_
  refine nx (xo_boxA rfl rfl) rfl ?_
  rintro _ _ ⟨g2, rfl, rfl⟩
  refine ne (eo_as rfl rfl) rfl ?_
  refine go_nil ?_
  refine gq_next ?_
  refine gc_seq ?_
  refine gc_seq ?_
  refine gc_region ?_
  refine ne (eo_field rfl f24_2 rfl) rfl ?_
  refine ne (eo_load 0 rfl s22 rfl rfl rfl rfl) rfl ?_
  refine ne (eo_len rfl Try.underlying22 rfl) rfl ?_
  refine ne (eo_gtr rfl rfl rfl) rfl ?_
  refine go_nil ?_
  refine gq_next ?_
  refine gc_cond rfl (fun hc0 => ?_) (fun hc0 => ?_)
  ·
    replace hc0 := of_decide_eq_true hc0
    refine gc_seq ?_
    refine gc_region ?_
    refine ne (eo_call rfl en11 rfl (fun W1 hO => exam_c W1  )) rfl ?_
    refine ne (eo_as rfl rfl) rfl ?_
    refine go_nil ?_
    refine gq_next ?_
    refine gc_ret ?_
    refine gq_then_ret ?_
    refine gq_results (res1 rfl rfl) ?_
    exact fun W1 hO => ⟨rfl, hO.toExt⟩
  ·
    replace hc0 := of_decide_eq_false hc0
    refine gc_skip ?_
    refine gq_next ?_
    refine gc_seq ?_
    refine gc_region ?_
    refine ne (eo_loadA 0 rfl a24 rfl rfl rfl rfl) rfl ?_
    refine ne (eo_mv rfl rfl) rfl ?_
    refine nx (xo_freshT rfl en22 rfl (fun W1 hO => maj_x _ _ _ _ _ _ _ W1 (hr.old0 hO) )) rfl ?_
    rintro _ _ ⟨S21, ⟨A21, k21, rfl, hk21, hS21⟩, rfl⟩
    refine ne (eo_mv rfl rfl) rfl ?_
    refine ne (eo_extract rfl rfl rfl) rfl ?_
    refine ne (eo_extract rfl rfl rfl) rfl ?_
    refine nx (xo_alloc rfl z24) rfl ?_
    rintro _ _ ⟨g5, rfl, rfl⟩
    refine nu (xo_storeA 0 rfl a24 rfl rfl (ones_cons (by first | rfl | exact AS.one) (ones_cons (by first | rfl | exact AS.one) (ones_cons (by first | rfl | exact AS.one) ones_nil))) rfl rfl rfl rfl) ?_
    rintro _ _ ⟨rfl, rfl⟩
    refine ne (eo_as rfl rfl) rfl ?_
    refine go_nil ?_
    refine gq_next ?_
    refine gc_seq ?_
    refine gc_region ?_
    refine ne (eo_loadA 1 rfl a24 rfl rfl rfl rfl) rfl ?_
    refine ne (eo_mv rfl rfl) rfl ?_
    refine nx (xo_freshT rfl en23 rfl (fun W1 hO => rmaj_x _ _ _ _ _ _ _ W1 (hr.old0 hO) )) rfl ?_
    rintro _ _ ⟨S27, ⟨A27, k27, rfl, hk27, hS27⟩, rfl⟩
    refine ne (eo_mv rfl rfl) rfl ?_
    refine ne (eo_extract rfl rfl rfl) rfl ?_
    refine ne (eo_extract rfl rfl rfl) rfl ?_
    refine nx (xo_alloc rfl z24) rfl ?_
    rintro _ _ ⟨g7, rfl, rfl⟩
    refine nu (xo_storeA 0 rfl a24 rfl rfl (ones_cons (by first | rfl | exact AS.one) (ones_cons (by first | rfl | exact AS.one) (ones_cons (by first | rfl | exact AS.one) ones_nil))) rfl rfl rfl rfl) ?_
    rintro _ _ ⟨rfl, rfl⟩
    refine ne (eo_as rfl rfl) rfl ?_
    refine go_nil ?_
    refine gq_next ?_
    refine gc_seq ?_
    refine gc_region ?_
    refine ne (eo_loadA 2 rfl a24 rfl rfl rfl rfl) rfl ?_
    refine nx (xo_freshT rfl en24 rfl (fun W1 hO => outl_x _ _ _ _ _ _ W1 (hr.old0 hO) )) rfl ?_
    rintro _ _ ⟨S32, ⟨A32, k32, rfl, hk32, hS32⟩, rfl⟩
    refine ne (eo_mv rfl rfl) rfl ?_
    refine ne (eo_extract rfl rfl rfl) rfl ?_
    refine ne (eo_extract rfl rfl rfl) rfl ?_
    refine nx (xo_alloc rfl z24) rfl ?_
    rintro _ _ ⟨g9, rfl, rfl⟩
    refine nu (xo_storeA 0 rfl a24 rfl rfl (ones_cons (by first | rfl | exact AS.one) (ones_cons (by first | rfl | exact AS.one) (ones_cons (by first | rfl | exact AS.one) ones_nil))) rfl rfl rfl rfl) ?_
    rintro _ _ ⟨rfl, rfl⟩
    refine ne (eo_as rfl rfl) rfl ?_
    refine go_nil ?_
    refine gq_next ?_
    refine gc_seq ?_
    refine gc_region ?_
    refine ne (eo_loadA 3 rfl a24 rfl rfl rfl rfl) rfl ?_
    refine nx (xo_freshT rfl en25 rfl (fun W1 hO => routl_x _ _ _ _ _ _ W1 (hr.old0 hO) )) rfl ?_
    rintro _ _ ⟨S37, ⟨A37, k37, rfl, hk37, hS37⟩, rfl⟩
    refine ne (eo_mv rfl rfl) rfl ?_
    refine ne (eo_extract rfl rfl rfl) rfl ?_
    refine ne (eo_extract rfl rfl rfl) rfl ?_
    refine nx (xo_alloc rfl z24) rfl ?_
    rintro _ _ ⟨g11, rfl, rfl⟩
    refine nu (xo_storeA 0 rfl a24 rfl rfl (ones_cons (by first | rfl | exact AS.one) (ones_cons (by first | rfl | exact AS.one) (ones_cons (by first | rfl | exact AS.one) ones_nil))) rfl rfl rfl rfl) ?_
    rintro _ _ ⟨rfl, rfl⟩
    refine ne (eo_as rfl rfl) rfl ?_
    refine go_nil ?_
    refine gq_next ?_
    refine gc_seq ?_
    refine gc_region ?_
    refine ne (eo_loadA 3 rfl a24 rfl rfl rfl rfl) rfl ?_
    refine ne (eo_loadA 2 rfl a24 rfl rfl rfl rfl) rfl ?_
    refine ne (eo_call rfl en16 rfl (fun W1 hO => same37_c _ _ _ _ _ _ _ _ _ _ _ _ W1 (hS21.rd (hO.tl 5 rfl (((List.sublist_append_left _ _).trans (List.sublist_append_left _ _)).trans (List.sublist_append_left _ _)))) (hS27.rd (hO.tl 5 rfl (((List.sublist_append_right _ _).trans (List.sublist_append_left _ _)).trans (List.sublist_append_left _ _)))) (Nat.le_trans majR_le (by decide)))) rfl ?_
    refine ne (eo_mv rfl rfl) rfl ?_
    refine ng rfl rfl (fun h => eo_mv rfl rfl) rfl ?_
    refine ng rfl rfl (fun h => eo_mv rfl rfl) rfl ?_
    refine ng rfl rfl (fun h => eo_eql rfl (ev_if h rfl) (ev_if h rfl)) rfl ?_
    refine ne (eo_and rfl rfl (fun hb => ev_if hb rfl)) rfl ?_
    refine ne (eo_mv rfl rfl) rfl ?_
    refine ng rfl rfl (fun h => eo_loadA 1 rfl a24 rfl rfl rfl rfl) rfl ?_
    refine ng rfl rfl (fun h => eo_loadA 0 rfl a24 rfl rfl rfl rfl) rfl ?_
    refine ng rfl rfl (fun h => eo_call rfl en16 (evs_cons (ev_if h rfl) (evs_cons (ev_if h rfl) evs_nil)) (fun W1 hO => same37_c _ _ _ _ _ _ _ _ _ _ _ _ W1 (hS32.rd (hO.tl 5 rfl ((List.sublist_append_right _ _).trans (List.sublist_append_left _ _)))) (hS37.rd (hO.tl 5 rfl (List.sublist_append_right _ _))) (Nat.le_trans outlR_le (by decide)))) rfl ?_
    refine ne (eo_and rfl rfl (fun hb => ev_if hb rfl)) rfl ?_
    refine ne (eo_mv rfl rfl) rfl ?_
    refine ng rfl rfl (fun h => eo_mv rfl rfl) rfl ?_
    refine ng rfl rfl (fun h => eo_mv rfl rfl) rfl ?_
    refine ng rfl rfl (fun h => eo_eql rfl (ev_if h rfl) (ev_if h rfl)) rfl ?_
    refine ne (eo_and rfl rfl (fun hb => ev_if hb rfl)) rfl ?_
    refine ne (eo_mv rfl rfl) rfl ?_
    refine ng rfl rfl (fun h => eo_call rfl en11 rfl (fun W1 hO => exam_c W1  )) rfl ?_
    refine ne (eo_and rfl rfl (fun hb => ev_if hb rfl)) rfl ?_
    refine ne (eo_as rfl rfl) rfl ?_
    refine go_nil ?_
    refine gq_next ?_
    refine gc_ret ?_
    refine gq_results (res1 rfl rfl) ?_
    exact fun W1 hO => ⟨ret_bool (show (((((eqP (majR ⟨W, H, n, f⟩ r).1 (rmajR ⟨W, H, n, f⟩ r).1) && decide ((majR ⟨W, H, n, f⟩ r).2 = (rmajR ⟨W, H, n, f⟩ r).2)) && (eqP (outlR ⟨W, H, n, f⟩).1 (outlR ⟨W, H, n, f⟩).1)) && decide ((outlR ⟨W, H, n, f⟩).2 = (outlR ⟨W, H, n, f⟩).2)) && true) = true from by simp [eqP_of maj_eq.1, maj_eq.2, eqP_rf]), hO.toExt⟩

end Go.Proofs.Ytmkdfbaklookdaa
