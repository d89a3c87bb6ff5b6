/-
  The walks of the functions of package raster and of the document's answer (part M): what each call returns, at every argument.
-/
import Derived.Test.YtefblgildcaldaaWH
import Derived.Test.YtefblgildcaldaaPd
namespace Go.Proofs.Ytefblgildcaldaa
open Go.RowKit Go.Eng

open Go.Bs
theorem en13 : Ent Try.prog 13 := ent_of Try.func13 (by kernel_rfl) rfl
theorem en25 : Ent Try.prog 25 := ent_of Try.func25 (by kernel_rfl) rfl
theorem en16 : Ent Try.prog 16 := ent_of Try.func16 (by kernel_rfl) rfl

/-- barscan/barscanlaw31.RasterGroup -/
theorem group_c (W H : Int) (A : Option Addr) (n c : Nat) (f : Nat → Bool) (a : Int) (b : Int) (w : World) (hr : Rd w A (tab n (bv f))) (ha0 : -128 ≤ a) (ha1 : a ≤ 127) (hb0 : -128 ≤ b) (hb1 : b ≤ 127) :
    Calls Try.prog 7 #[.agg #[.int .i64 W, .int .i64 H, .slice A n c], .int .i8 a, .int .i8 b] w (fun e w' => e = .returned (.bool true) ∧ Ext w w') := by
  refine calls_enter (N := ⟨173, []⟩) [] ([]) Try.func7 rfl rfl rfl (Ow.start _) ?_
  refine gc_seq ?_
  refine gc_region ?_
  refine nx (xo_boxA rfl rfl) rfl ?_
  rintro _ _ ⟨g3, rfl, rfl⟩
  refine ne (eo_as rfl rfl) rfl ?_
  refine go_nil ?_
  refine gq_next ?_
  refine gc_seq ?_
  refine gc_seq ?_
  refine gc_region ?_
  refine ne (eo_field rfl f24_2 rfl) rfl ?_
  refine ne (eo_load 0 rfl s22 rfl rfl rfl rfl) rfl ?_
  refine ne (eo_len rfl Try.underlying22 rfl) rfl ?_
  refine ne (eo_gtr rfl rfl rfl) rfl ?_
  refine go_nil ?_
  refine gq_next ?_
  refine gc_cond rfl (fun hc0 => ?_) (fun hc0 => ?_)
  ·
    replace hc0 := of_decide_eq_true hc0
    refine gc_seq ?_
    refine gc_region ?_
    refine ne (eo_call rfl en13 rfl (fun W1 hO => examples_c W1  )) rfl ?_
    refine ne (eo_as rfl rfl) rfl ?_
    refine go_nil ?_
    refine gq_next ?_
    refine gc_ret ?_
    refine gq_then_ret ?_
    refine gq_results (res1 rfl rfl) ?_
    exact fun W2 hO => ⟨rfl, hO.toExt⟩
  ·
    replace hc0 := of_decide_eq_false hc0
    refine gc_skip ?_
    refine gq_next ?_
    refine gc_seq ?_
    refine gc_region ?_
    refine ne (eo_loadA 0 rfl a24 rfl rfl rfl rfl) rfl ?_
    refine ne (eo_mv rfl rfl) rfl ?_
    refine ne (eo_convi rfl rfl ⟨_, Try.underlying49⟩ Try.underlying3 (by omega) (by omega)) rfl ?_
    refine nx (xo_freshT rfl en24 rfl (fun W1 hO => turn_x _ _ _ _ _ _ _ W1 (hr.old0 hO) )) rfl ?_
    rintro _ _ ⟨S36, ⟨A36, k36, rfl, hk36, hS36⟩, rfl⟩
    refine ne (eo_mv rfl rfl) rfl ?_
    refine ne (eo_extract rfl rfl rfl) rfl ?_
    refine ne (eo_extract rfl rfl rfl) rfl ?_
    refine nx (xo_alloc rfl z24) rfl ?_
    rintro _ _ ⟨g7, rfl, rfl⟩
    refine nu (xo_storeA 0 rfl a24 rfl rfl (ones_cons (by first | rfl | exact AS.one) (ones_cons (by first | rfl | exact AS.one) (ones_cons (by first | rfl | exact AS.one) ones_nil))) rfl rfl rfl rfl) ?_
    rintro _ _ ⟨rfl, rfl⟩
    refine ne (eo_as rfl rfl) rfl ?_
    refine go_nil ?_
    refine gq_next ?_
    refine gc_seq ?_
    refine gc_seq ?_
    refine gc_region ?_
    refine ne (eo_mv rfl rfl) rfl ?_
    refine ne (eo_neq rfl rfl rfl) rfl ?_
    refine go_nil ?_
    refine gq_next ?_
    refine gc_cond rfl (fun hc1 => ?_) (fun hc1 => ?_)
    ·
      replace hc1 := of_decide_eq_true hc1
      have h2 := turnR_two hc1
      refine gc_seq ?_
      refine gc_region ?_
      refine ne (eo_mv rfl rfl) rfl ?_
      refine ne (eo_eql rfl rfl rfl) rfl ?_
      refine ne (eo_mv rfl rfl) rfl ?_
      refine ng rfl rfl (fun h => eo_loadA 1 rfl a24 rfl rfl rfl rfl) rfl ?_
      refine ng rfl rfl (fun h => eo_call rfl en23 (evs_cons (ev_if h rfl) evs_nil) (fun W1 hO => check_c _ _ _ _ _ W1  )) rfl ?_
      refine ng rfl rfl (fun h => eo_eql rfl (ev_if h rfl) rfl) rfl ?_
      refine ne (eo_and rfl rfl (fun hb => ev_if hb rfl)) rfl ?_
      refine ne (eo_mv rfl rfl) rfl ?_
      refine ng rfl rfl (fun h => eo_call rfl en13 rfl (fun W1 hO => examples_c W1  )) rfl ?_
      refine ne (eo_and rfl rfl (fun hb => ev_if hb rfl)) rfl ?_
      refine ne (eo_as rfl rfl) rfl ?_
      refine go_nil ?_
      refine gq_next ?_
      refine gc_ret ?_
      refine gq_then_ret ?_
      refine gq_results (res1 rfl rfl) ?_
      exact fun W2 hO => ⟨ret_bool (by rw [h2.2, chk_no h2.1]; rfl), hO.toExt⟩
    ·
      replace hc1 := of_decide_eq_false hc1
      have hv := turnR_zero hc1
      have e1 := turn_err hv a
      have e2 := mirror_err hv
      have e3 := turn_err hv (-a)
      refine gc_skip ?_
      refine gq_next ?_
      refine gc_seq ?_
      refine gc_region ?_
      refine ne (eo_loadA 0 rfl a24 rfl rfl rfl rfl) rfl ?_
      refine ne (eo_mv rfl rfl) rfl ?_
      refine ne (eo_convi rfl rfl ⟨_, Try.underlying49⟩ Try.underlying3 (by omega) (by omega)) rfl ?_
      refine nx (xo_freshT rfl en24 rfl (fun W1 hO => turn_x _ _ _ _ _ _ _ W1 (hS36.rd (hO.tl 2 rfl (List.Sublist.refl _))) )) rfl ?_
      rintro _ _ ⟨S55, ⟨A55, k55, rfl, hk55, hS55⟩, rfl⟩
      refine ne (eo_mv rfl rfl) rfl ?_
      refine ne (eo_extract rfl rfl rfl) rfl ?_
      refine ne (eo_extract rfl rfl rfl) rfl ?_
      refine nx (xo_alloc rfl z24) rfl ?_
      rintro _ _ ⟨g9, rfl, rfl⟩
      refine nu (xo_storeA 0 rfl a24 rfl rfl (ones_cons (by first | rfl | exact AS.one) (ones_cons (by first | rfl | exact AS.one) (ones_cons (by first | rfl | exact AS.one) ones_nil))) rfl rfl rfl rfl) ?_
      rintro _ _ ⟨rfl, rfl⟩
      refine ne (eo_as rfl rfl) rfl ?_
      refine go_nil ?_
      refine gq_next ?_
      refine gc_seq ?_
      refine gc_region ?_
      refine ne (eo_loadA 2 rfl a24 rfl rfl rfl rfl) rfl ?_
      refine ne (eo_mv rfl rfl) rfl ?_
      refine ne (eo_convi rfl rfl ⟨_, Try.underlying49⟩ Try.underlying3 (by omega) (by omega)) rfl ?_
      refine ne (eo_mv rfl rfl) rfl ?_
      refine ne (eo_convi rfl rfl ⟨_, Try.underlying49⟩ Try.underlying3 (by omega) (by omega)) rfl ?_
      refine ne (eo_add rfl rfl rfl (by omega) (by omega)) rfl ?_
      refine nx (xo_freshT rfl en24 rfl (fun W1 hO => turn_x _ _ _ _ _ _ _ W1 (hr.old0 hO) )) rfl ?_
      rintro _ _ ⟨S65, ⟨A65, k65, rfl, hk65, hS65⟩, rfl⟩
      refine ne (eo_mv rfl rfl) rfl ?_
      refine ne (eo_extract rfl rfl rfl) rfl ?_
      refine ne (eo_extract rfl rfl rfl) rfl ?_
      refine nx (xo_alloc rfl z24) rfl ?_
      rintro _ _ ⟨g11, rfl, rfl⟩
      refine nu (xo_storeA 0 rfl a24 rfl rfl (ones_cons (by first | rfl | exact AS.one) (ones_cons (by first | rfl | exact AS.one) (ones_cons (by first | rfl | exact AS.one) ones_nil))) rfl rfl rfl rfl) ?_
      rintro _ _ ⟨rfl, rfl⟩
      refine ne (eo_as rfl rfl) rfl ?_
      refine go_nil ?_
      refine gq_next ?_
      refine gc_seq ?_
      refine gc_region ?_
      refine ne (eo_loadA 2 rfl a24 rfl rfl rfl rfl) rfl ?_
      refine ne (eo_mv rfl rfl) rfl ?_
      refine ne (eo_convi rfl rfl ⟨_, Try.underlying49⟩ Try.underlying3 (by omega) (by omega)) rfl ?_
      refine ne (eo_neg rfl rfl (by omega) (by omega)) rfl ?_
      refine nx (xo_freshT rfl en24 rfl (fun W1 hO => turn_x _ _ _ _ _ _ _ W1 (hS36.rd (hO.tl 4 rfl ((List.sublist_append_left _ _).trans (List.sublist_append_left _ _)))) )) rfl ?_
      rintro _ _ ⟨S73, ⟨A73, k73, rfl, hk73, hS73⟩, rfl⟩
      refine ne (eo_mv rfl rfl) rfl ?_
      refine ne (eo_extract rfl rfl rfl) rfl ?_
      refine ne (eo_extract rfl rfl rfl) rfl ?_
      refine nx (xo_alloc rfl z24) rfl ?_
      rintro _ _ ⟨g13, rfl, rfl⟩
      refine nu (xo_storeA 0 rfl a24 rfl rfl (ones_cons (by first | rfl | exact AS.one) (ones_cons (by first | rfl | exact AS.one) (ones_cons (by first | rfl | exact AS.one) ones_nil))) rfl rfl rfl rfl) ?_
      rintro _ _ ⟨rfl, rfl⟩
      refine ne (eo_as rfl rfl) rfl ?_
      refine go_nil ?_
      refine gq_next ?_
      refine gc_seq ?_
      refine gc_region ?_
      refine ne (eo_loadA 4 rfl a24 rfl rfl rfl rfl) rfl ?_
      refine nx (xo_freshT rfl en24 rfl (fun W1 hO => turn_x _ _ _ _ _ _ _ W1 (hr.old0 hO) )) rfl ?_
      rintro _ _ ⟨S78, ⟨A78, k78, rfl, hk78, hS78⟩, rfl⟩
      refine ne (eo_mv rfl rfl) rfl ?_
      refine ne (eo_extract rfl rfl rfl) rfl ?_
      refine ne (eo_extract rfl rfl rfl) rfl ?_
      refine nx (xo_alloc rfl z24) rfl ?_
      rintro _ _ ⟨g15, rfl, rfl⟩
      refine nu (xo_storeA 0 rfl a24 rfl rfl (ones_cons (by first | rfl | exact AS.one) (ones_cons (by first | rfl | exact AS.one) (ones_cons (by first | rfl | exact AS.one) ones_nil))) rfl rfl rfl rfl) ?_
      rintro _ _ ⟨rfl, rfl⟩
      refine ne (eo_as rfl rfl) rfl ?_
      refine go_nil ?_
      refine gq_next ?_
      refine gc_seq ?_
      refine gc_region ?_
      refine ne (eo_loadA 5 rfl a24 rfl rfl rfl rfl) rfl ?_
      refine nx (xo_freshT rfl en25 rfl (fun W1 hO => mirror_x _ _ _ _ _ _ W1 (hr.old0 hO) )) rfl ?_
      rintro _ _ ⟨S83, ⟨A83, k83, rfl, hk83, hS83⟩, rfl⟩
      refine ne (eo_mv rfl rfl) rfl ?_
      refine ne (eo_extract rfl rfl rfl) rfl ?_
      refine ne (eo_extract rfl rfl rfl) rfl ?_
      refine nx (xo_alloc rfl z24) rfl ?_
      rintro _ _ ⟨g17, rfl, rfl⟩
      refine nu (xo_storeA 0 rfl a24 rfl rfl (ones_cons (by first | rfl | exact AS.one) (ones_cons (by first | rfl | exact AS.one) (ones_cons (by first | rfl | exact AS.one) ones_nil))) rfl rfl rfl rfl) ?_
      rintro _ _ ⟨rfl, rfl⟩
      refine ne (eo_as rfl rfl) rfl ?_
      refine go_nil ?_
      refine gq_next ?_
      refine gc_seq ?_
      refine gc_region ?_
      refine ne (eo_loadA 0 rfl a24 rfl rfl rfl rfl) rfl ?_
      refine nx (xo_freshT rfl en25 rfl (fun W1 hO => mirror_x _ _ _ _ _ _ W1 (hS83.rd (hO.tl 7 rfl (List.sublist_append_right _ _))) )) rfl ?_
      rintro _ _ ⟨S88, ⟨A88, k88, rfl, hk88, hS88⟩, rfl⟩
      refine ne (eo_mv rfl rfl) rfl ?_
      refine ne (eo_extract rfl rfl rfl) rfl ?_
      refine ne (eo_extract rfl rfl rfl) rfl ?_
      refine nx (xo_alloc rfl z24) rfl ?_
      rintro _ _ ⟨g19, rfl, rfl⟩
      refine nu (xo_storeA 0 rfl a24 rfl rfl (ones_cons (by first | rfl | exact AS.one) (ones_cons (by first | rfl | exact AS.one) (ones_cons (by first | rfl | exact AS.one) ones_nil))) rfl rfl rfl rfl) ?_
      rintro _ _ ⟨rfl, rfl⟩
      refine ne (eo_as rfl rfl) rfl ?_
      refine go_nil ?_
      refine gq_next ?_
      refine gc_seq ?_
      refine gc_region ?_
      refine ne (eo_loadA 1 rfl a24 rfl rfl rfl rfl) rfl ?_
      refine ne (eo_mv rfl rfl) rfl ?_
      refine ne (eo_convi rfl rfl ⟨_, Try.underlying49⟩ Try.underlying3 (by omega) (by omega)) rfl ?_
      refine nx (xo_freshT rfl en24 rfl (fun W1 hO => turn_x _ _ _ _ _ _ _ W1 (hS83.rd (hO.tl 8 rfl ((List.sublist_append_right _ _).trans (List.sublist_append_left _ _)))) )) rfl ?_
      rintro _ _ ⟨S95, ⟨A95, k95, rfl, hk95, hS95⟩, rfl⟩
      refine ne (eo_mv rfl rfl) rfl ?_
      refine ne (eo_extract rfl rfl rfl) rfl ?_
      refine ne (eo_extract rfl rfl rfl) rfl ?_
      refine nx (xo_alloc rfl z24) rfl ?_
      rintro _ _ ⟨g21, rfl, rfl⟩
      refine nu (xo_storeA 0 rfl a24 rfl rfl (ones_cons (by first | rfl | exact AS.one) (ones_cons (by first | rfl | exact AS.one) (ones_cons (by first | rfl | exact AS.one) ones_nil))) rfl rfl rfl rfl) ?_
      rintro _ _ ⟨rfl, rfl⟩
      refine ne (eo_as rfl rfl) rfl ?_
      refine go_nil ?_
      refine gq_next ?_
      refine gc_seq ?_
      refine gc_region ?_
      refine ne (eo_loadA 8 rfl a24 rfl rfl rfl rfl) rfl ?_
      refine ne (eo_mv rfl rfl) rfl ?_
      refine ne (eo_convi rfl rfl ⟨_, Try.underlying49⟩ Try.underlying3 (by omega) (by omega)) rfl ?_
      refine ne (eo_neg rfl rfl (by omega) (by omega)) rfl ?_
      refine nx (xo_freshT rfl en24 rfl (fun W1 hO => turn_x _ _ _ _ _ _ _ W1 (hr.old0 hO) )) rfl ?_
      rintro _ _ ⟨S103, ⟨A103, k103, rfl, hk103, hS103⟩, rfl⟩
      refine ne (eo_mv rfl rfl) rfl ?_
      refine ne (eo_extract rfl rfl rfl) rfl ?_
      refine ne (eo_extract rfl rfl rfl) rfl ?_
      refine nx (xo_alloc rfl z24) rfl ?_
      rintro _ _ ⟨g23, rfl, rfl⟩
      refine nu (xo_storeA 0 rfl a24 rfl rfl (ones_cons (by first | rfl | exact AS.one) (ones_cons (by first | rfl | exact AS.one) (ones_cons (by first | rfl | exact AS.one) ones_nil))) rfl rfl rfl rfl) ?_
      rintro _ _ ⟨rfl, rfl⟩
      refine ne (eo_as rfl rfl) rfl ?_
      refine go_nil ?_
      refine gq_next ?_
      refine gc_seq ?_
      refine gc_region ?_
      refine ne (eo_loadA 0 rfl a24 rfl rfl rfl rfl) rfl ?_
      refine nx (xo_freshT rfl en25 rfl (fun W1 hO => mirror_x _ _ _ _ _ _ W1 (hS103.rd (hO.tl 10 rfl (List.sublist_append_right _ _))) )) rfl ?_
      rintro _ _ ⟨S108, ⟨A108, k108, rfl, hk108, hS108⟩, rfl⟩
      refine ne (eo_mv rfl rfl) rfl ?_
      refine ne (eo_extract rfl rfl rfl) rfl ?_
      refine ne (eo_extract rfl rfl rfl) rfl ?_
      refine nx (xo_alloc rfl z24) rfl ?_
      rintro _ _ ⟨g25, rfl, rfl⟩
      refine nu (xo_storeA 0 rfl a24 rfl rfl (ones_cons (by first | rfl | exact AS.one) (ones_cons (by first | rfl | exact AS.one) (ones_cons (by first | rfl | exact AS.one) ones_nil))) rfl rfl rfl rfl) ?_
      rintro _ _ ⟨rfl, rfl⟩
      refine ne (eo_as rfl rfl) rfl ?_
      refine go_nil ?_
      refine gq_next ?_
      refine gc_seq ?_
      refine gc_region ?_
      refine ne (eo_mv rfl rfl) rfl ?_
      refine ne (eo_eql rfl rfl rfl) rfl ?_
      refine ne (eo_mv rfl rfl) rfl ?_
      refine ng rfl rfl (fun h => eo_mv rfl rfl) rfl ?_
      refine ng rfl rfl (fun h => eo_eql rfl (ev_if h rfl) rfl) rfl ?_
      refine ne (eo_and rfl rfl (fun hb => ev_if hb rfl)) rfl ?_
      refine ne (eo_mv rfl rfl) rfl ?_
      refine ng rfl rfl (fun h => eo_mv rfl rfl) rfl ?_
      refine ng rfl rfl (fun h => eo_eql rfl (ev_if h rfl) rfl) rfl ?_
      refine ne (eo_and rfl rfl (fun hb => ev_if hb rfl)) rfl ?_
      refine ne (eo_mv rfl rfl) rfl ?_
      refine ng rfl rfl (fun h => eo_mv rfl rfl) rfl ?_
      refine ng rfl rfl (fun h => eo_eql rfl (ev_if h rfl) rfl) rfl ?_
      refine ne (eo_and rfl rfl (fun hb => ev_if hb rfl)) rfl ?_
      refine ne (eo_mv rfl rfl) rfl ?_
      refine ng rfl rfl (fun h => eo_mv rfl rfl) rfl ?_
      refine ng rfl rfl (fun h => eo_eql rfl (ev_if h rfl) rfl) rfl ?_
      refine ne (eo_and rfl rfl (fun hb => ev_if hb rfl)) rfl ?_
      refine ne (eo_mv rfl rfl) rfl ?_
      refine ng rfl rfl (fun h => eo_mv rfl rfl) rfl ?_
      refine ng rfl rfl (fun h => eo_eql rfl (ev_if h rfl) rfl) rfl ?_
      refine ne (eo_and rfl rfl (fun hb => ev_if hb rfl)) rfl ?_
      refine ne (eo_mv rfl rfl) rfl ?_
      refine ng rfl rfl (fun h => eo_mv rfl rfl) rfl ?_
      refine ng rfl rfl (fun h => eo_eql rfl (ev_if h rfl) rfl) rfl ?_
      refine ne (eo_and rfl rfl (fun hb => ev_if hb rfl)) rfl ?_
      refine ne (eo_mv rfl rfl) rfl ?_
      refine ng rfl rfl (fun h => eo_mv rfl rfl) rfl ?_
      refine ng rfl rfl (fun h => eo_eql rfl (ev_if h rfl) rfl) rfl ?_
      refine ne (eo_and rfl rfl (fun hb => ev_if hb rfl)) rfl ?_
      refine ne (eo_mv rfl rfl) rfl ?_
      refine ng rfl rfl (fun h => eo_mv rfl rfl) rfl ?_
      refine ng rfl rfl (fun h => eo_eql rfl (ev_if h rfl) rfl) rfl ?_
      refine ne (eo_and rfl rfl (fun hb => ev_if hb rfl)) rfl ?_
      refine ne (eo_mv rfl rfl) rfl ?_
      refine ng rfl rfl (fun h => eo_loadA 8 rfl a24 rfl rfl rfl rfl) rfl ?_
      refine ng rfl rfl (fun h => eo_loadA 7 rfl a24 rfl rfl rfl rfl) rfl ?_
      refine ng rfl rfl (fun h => eo_call rfl en16 (evs_cons (ev_if h rfl) (evs_cons (ev_if h rfl) evs_nil)) (fun W1 hO => same_c _ _ _ _ _ _ _ _ _ _ _ _ W1 (Nat.le_trans turnR_le (by decide)) (hS55.rd (hO.tl 11 rfl (((((((((List.sublist_append_right _ _).trans (List.sublist_append_left _ _)).trans (List.sublist_append_left _ _)).trans (List.sublist_append_left _ _)).trans (List.sublist_append_left _ _)).trans (List.sublist_append_left _ _)).trans (List.sublist_append_left _ _)).trans (List.sublist_append_left _ _)).trans (List.sublist_append_left _ _)))) (hS65.rd (hO.tl 11 rfl ((((((((List.sublist_append_right _ _).trans (List.sublist_append_left _ _)).trans (List.sublist_append_left _ _)).trans (List.sublist_append_left _ _)).trans (List.sublist_append_left _ _)).trans (List.sublist_append_left _ _)).trans (List.sublist_append_left _ _)).trans (List.sublist_append_left _ _)))))) rfl ?_
      refine ne (eo_and rfl rfl (fun hb => ev_if hb rfl)) rfl ?_
      refine ne (eo_mv rfl rfl) rfl ?_
      refine ng rfl rfl (fun h => eo_loadA 6 rfl a24 rfl rfl rfl rfl) rfl ?_
      refine ng rfl rfl (fun h => eo_loadA 10 rfl a24 rfl rfl rfl rfl) rfl ?_
      refine ng rfl rfl (fun h => eo_call rfl en16 (evs_cons (ev_if h rfl) (evs_cons (ev_if h rfl) evs_nil)) (fun W1 hO => same_c _ _ _ _ _ _ _ _ _ _ _ _ W1 (Nat.le_trans turnR_le (by decide)) (hS73.rd (hO.tl 11 rfl (((((((List.sublist_append_right _ _).trans (List.sublist_append_left _ _)).trans (List.sublist_append_left _ _)).trans (List.sublist_append_left _ _)).trans (List.sublist_append_left _ _)).trans (List.sublist_append_left _ _)).trans (List.sublist_append_left _ _)))) (hr.old0 hO))) rfl ?_
      refine ne (eo_and rfl rfl (fun hb => ev_if hb rfl)) rfl ?_
      refine ne (eo_mv rfl rfl) rfl ?_
      refine ng rfl rfl (fun h => eo_loadA 5 rfl a24 rfl rfl rfl rfl) rfl ?_
      refine ng rfl rfl (fun h => eo_loadA 10 rfl a24 rfl rfl rfl rfl) rfl ?_
      refine ng rfl rfl (fun h => eo_call rfl en16 (evs_cons (ev_if h rfl) (evs_cons (ev_if h rfl) evs_nil)) (fun W1 hO => same_c _ _ _ _ _ _ _ _ _ _ _ _ W1 (Nat.le_trans turnR_le (by decide)) (hS78.rd (hO.tl 11 rfl ((((((List.sublist_append_right _ _).trans (List.sublist_append_left _ _)).trans (List.sublist_append_left _ _)).trans (List.sublist_append_left _ _)).trans (List.sublist_append_left _ _)).trans (List.sublist_append_left _ _)))) (hr.old0 hO))) rfl ?_
      refine ne (eo_and rfl rfl (fun hb => ev_if hb rfl)) rfl ?_
      refine ne (eo_mv rfl rfl) rfl ?_
      refine ng rfl rfl (fun h => eo_loadA 3 rfl a24 rfl rfl rfl rfl) rfl ?_
      refine ng rfl rfl (fun h => eo_loadA 10 rfl a24 rfl rfl rfl rfl) rfl ?_
      refine ng rfl rfl (fun h => eo_call rfl en16 (evs_cons (ev_if h rfl) (evs_cons (ev_if h rfl) evs_nil)) (fun W1 hO => same_c _ _ _ _ _ _ _ _ _ _ _ _ W1 (Nat.le_trans mirrorR_le (by decide)) (hS88.rd (hO.tl 11 rfl ((((List.sublist_append_right _ _).trans (List.sublist_append_left _ _)).trans (List.sublist_append_left _ _)).trans (List.sublist_append_left _ _)))) (hr.old0 hO))) rfl ?_
      refine ne (eo_and rfl rfl (fun hb => ev_if hb rfl)) rfl ?_
      refine ne (eo_mv rfl rfl) rfl ?_
      refine ng rfl rfl (fun h => eo_loadA 2 rfl a24 rfl rfl rfl rfl) rfl ?_
      refine ng rfl rfl (fun h => eo_loadA 0 rfl a24 rfl rfl rfl rfl) rfl ?_
      refine ng rfl rfl (fun h => eo_call rfl en16 (evs_cons (ev_if h rfl) (evs_cons (ev_if h rfl) evs_nil)) (fun W1 hO => same_c _ _ _ _ _ _ _ _ _ _ _ _ W1 (Nat.le_trans turnR_le (by decide)) (hS95.rd (hO.tl 11 rfl (((List.sublist_append_right _ _).trans (List.sublist_append_left _ _)).trans (List.sublist_append_left _ _)))) (hS108.rd (hO.tl 11 rfl (List.sublist_append_right _ _))))) rfl ?_
      refine ne (eo_and rfl rfl (fun hb => ev_if hb rfl)) rfl ?_
      refine ne (eo_mv rfl rfl) rfl ?_
      refine ng rfl rfl (fun h => eo_call rfl en13 rfl (fun W1 hO => examples_c W1  )) rfl ?_
      refine ne (eo_and rfl rfl (fun hb => ev_if hb rfl)) rfl ?_
      refine ne (eo_as rfl rfl) rfl ?_
      refine go_nil ?_
      refine gq_next ?_
      refine gc_ret ?_
      refine gq_results (res1 rfl rfl) ?_
      exact fun W2 hO => ⟨ret_bool (show ((((((((((((((decide ((turnR (turnR ⟨W, H, n, f⟩ a).1 b).2 = 0) && decide ((turnR ⟨W, H, n, f⟩ (a + b)).2 = 0)) && decide ((turnR (turnR ⟨W, H, n, f⟩ a).1 (-a)).2 = 0)) && decide ((turnR ⟨W, H, n, f⟩ 4).2 = 0)) && decide ((mirrorR ⟨W, H, n, f⟩).2 = 0)) && decide ((mirrorR (mirrorR ⟨W, H, n, f⟩).1).2 = 0)) && decide ((turnR (mirrorR ⟨W, H, n, f⟩).1 a).2 = 0)) && decide ((turnR ⟨W, H, n, f⟩ (-a)).2 = 0)) && decide ((mirrorR (turnR ⟨W, H, n, f⟩ (-a)).1).2 = 0)) && (eqP (turnR (turnR ⟨W, H, n, f⟩ a).1 b).1 (turnR ⟨W, H, n, f⟩ (a + b)).1)) && (eqP (turnR (turnR ⟨W, H, n, f⟩ a).1 (-a)).1 ⟨W, H, n, f⟩)) && (eqP (turnR ⟨W, H, n, f⟩ 4).1 ⟨W, H, n, f⟩)) && (eqP (mirrorR (mirrorR ⟨W, H, n, f⟩).1).1 ⟨W, H, n, f⟩)) && (eqP (turnR (mirrorR ⟨W, H, n, f⟩).1 a).1 (mirrorR (turnR ⟨W, H, n, f⟩ (-a)).1).1)) && true) = true from by
        rw [(turn_err e1.2 b).1, (turn_err hv (a + b)).1, (turn_err e1.2 (-a)).1, (turn_err hv 4).1, e2.1, (mirror_err e2.2).1, (turn_err e2.2 a).1, e3.1, (mirror_err e3.2).1, eqP_of (turn_add hv a b), eqP_of ((turn_add hv a (-a)).tr (turn_zero hv (by omega))), eqP_of (turn_zero hv (t := 4) (by decide)), eqP_of (mirror2 hv), eqP_of (turn_mirror hv a)]
        rfl), hO.toExt⟩

end Go.Proofs.Ytefblgildcaldaa
