/-
  The walks of the functions of package printing and of the document's answer (part H): what each call returns, at every argument.
-/
import Derived.Test.YtibooikbbcilcaaWE
namespace Go.Proofs.Ytibooikbbcilcaa
open Go.RowKit Go.Eng

open Go.Bs
theorem en10 : Ent Try.prog 10 := ent_of Try.func10 (by kernel_rfl) rfl
theorem en18 : Ent Try.prog 18 := ent_of Try.func18 (by kernel_rfl) rfl
theorem en19 : Ent Try.prog 19 := ent_of Try.func19 (by kernel_rfl) rfl
theorem en20 : Ent Try.prog 20 := ent_of Try.func20 (by kernel_rfl) rfl
theorem en21 : Ent Try.prog 21 := ent_of Try.func21 (by kernel_rfl) rfl

/-- barscan/barscanlaw43.PrintingPlaces -/
theorem lplaces_c (W H : Int) (A : Option Addr) (n c : Nat) (f : Nat → Bool) (a : Int) (b : Int) (d : Int) (sd : Int) (w : World) (hr : Rd w A (tab n (bv f))) (hs0 : 0 ≤ sd) (hs1 : sd ≤ 4294967295) :
    Calls Try.prog 5 #[.agg #[.int .i64 W, .int .i64 H, .slice A n c], .int .i64 a, .int .i64 b, .int .i64 d, .int .u32 sd] w (fun e w' => e = .returned (.bool true) ∧ Ext w w') := by
  refine calls_enter (N := ⟨103, []⟩) [] ([]) Try.func5 rfl rfl rfl (Ow.start _) ?_
  refine gc_seq ?_
  refine gc_region ?_
  refine nx (xo_boxA rfl rfl) rfl ?_
  rintro _ _ ⟨g5, rfl, rfl⟩
  refine ne (eo_as rfl rfl) rfl ?_
  refine go_nil ?_
  refine gq_next ?_
  refine gc_seq ?_
  refine gc_seq ?_
  refine gc_region ?_
  refine ne (eo_field rfl f33_2 rfl) rfl ?_
  refine ne (eo_load 0 rfl s31 rfl rfl rfl rfl) rfl ?_
  refine ne (eo_len rfl Try.underlying31 rfl) rfl ?_
  refine ne (eo_gtr rfl rfl rfl) rfl ?_
  refine ne (eo_mv rfl rfl) rfl ?_
  refine ng rfl rfl (fun h => eo_mv rfl rfl) rfl ?_
  refine ng rfl rfl (fun h => eo_geq rfl (ev_if h rfl) rfl) rfl ?_
  refine ng rfl rfl (fun h => eo_mv rfl (ev_if h rfl)) rfl ?_
  refine ngc rfl rfl (fun h => eo_mv rfl rfl) rfl ?_
  refine ngc rfl rfl (fun h => eo_leq rfl (ev_if h rfl) rfl) rfl ?_
  refine ng rfl rfl (fun h => eo_and rfl (ev_if h rfl) (fun hb => ev_if ⟨h, hb⟩ rfl)) rfl ?_
  refine ng rfl rfl (fun h => eo_mv rfl (ev_if h rfl)) rfl ?_
  refine ngc rfl rfl (fun h => eo_mv rfl rfl) rfl ?_
  refine ngc rfl rfl (fun h => eo_geq rfl (ev_if h rfl) rfl) rfl ?_
  refine ng rfl rfl (fun h => eo_and rfl (ev_if h rfl) (fun hb => ev_if ⟨h, hb⟩ rfl)) rfl ?_
  refine ng rfl rfl (fun h => eo_mv rfl (ev_if h rfl)) rfl ?_
  refine ngc rfl rfl (fun h => eo_mv rfl rfl) rfl ?_
  refine ngc rfl rfl (fun h => eo_leq rfl (ev_if h rfl) rfl) rfl ?_
  refine ng rfl rfl (fun h => eo_and rfl (ev_if h rfl) (fun hb => ev_if ⟨h, hb⟩ rfl)) rfl ?_
  refine ng rfl rfl (fun h => eo_mv rfl (ev_if h rfl)) rfl ?_
  refine ngc rfl rfl (fun h => eo_mv rfl rfl) rfl ?_
  refine ngc rfl rfl (fun h => eo_mv rfl rfl) rfl ?_
  refine ngc rfl rfl (fun h => eo_mul rfl (ev_if h rfl) (ev_if h rfl) (by have hg1 := (and_t h.2).imp (fun h => (and_t h).imp (fun h => (and_t h).imp (fun h => of_decide_eq_true h) (fun h => of_decide_eq_true h)) (fun h => of_decide_eq_true h)) (fun h => of_decide_eq_true h); have hg0 := of_decide_eq_false h.1; first | omega | (have hm := mul_in (a := a) (b := b) (by omega) (by omega) (by omega) (by omega); omega)) (by have hg1 := (and_t h.2).imp (fun h => (and_t h).imp (fun h => (and_t h).imp (fun h => of_decide_eq_true h) (fun h => of_decide_eq_true h)) (fun h => of_decide_eq_true h)) (fun h => of_decide_eq_true h); have hg0 := of_decide_eq_false h.1; first | omega | (have hm := mul_in (a := a) (b := b) (by omega) (by omega) (by omega) (by omega); omega))) rfl ?_
  refine ngc rfl rfl (fun h => eo_gtr rfl (ev_if h rfl) rfl) rfl ?_
  refine ng rfl rfl (fun h => eo_and rfl (ev_if h rfl) (fun hb => ev_if ⟨h, hb⟩ rfl)) rfl ?_
  refine ng rfl rfl (fun h => eo_mv rfl (ev_if h rfl)) rfl ?_
  refine ngc rfl rfl (fun h => eo_mv rfl rfl) rfl ?_
  refine ngc rfl rfl (fun h => eo_mv rfl rfl) rfl ?_
  refine ngc rfl rfl (fun h => eo_mul rfl (ev_if h rfl) (ev_if h rfl) (by have hg1 := (and_t h.2).imp (fun h => (and_t h).imp (fun h => (and_t h).imp (fun h => (and_t h).imp (fun h => of_decide_eq_true h) (fun h => of_decide_eq_true h)) (fun h => of_decide_eq_true h)) (fun h => of_decide_eq_true h)) (fun h => of_decide_eq_true h); have hg0 := of_decide_eq_false h.1; first | omega | (have hm := mul_in (a := a) (b := b) (by omega) (by omega) (by omega) (by omega); omega)) (by have hg1 := (and_t h.2).imp (fun h => (and_t h).imp (fun h => (and_t h).imp (fun h => (and_t h).imp (fun h => of_decide_eq_true h) (fun h => of_decide_eq_true h)) (fun h => of_decide_eq_true h)) (fun h => of_decide_eq_true h)) (fun h => of_decide_eq_true h); have hg0 := of_decide_eq_false h.1; first | omega | (have hm := mul_in (a := a) (b := b) (by omega) (by omega) (by omega) (by omega); omega))) rfl ?_
  refine ngc rfl rfl (fun h => eo_leq rfl (ev_if h rfl) rfl) rfl ?_
  refine ng rfl rfl (fun h => eo_and rfl (ev_if h rfl) (fun hb => ev_if ⟨h, hb⟩ rfl)) rfl ?_
  refine ne (eo_or rfl rfl (fun hb => ev_if hb rfl)) rfl ?_
  refine go_nil ?_
  refine gq_next ?_
  refine gc_cond rfl (fun hc0 => ?_) (fun hc0 => ?_)
  ·
    have hd0 := (or_t hc0).imp (fun h => of_decide_eq_true h) (fun h => (and_t h).imp (fun h => (and_t h).imp (fun h => (and_t h).imp (fun h => (and_t h).imp (fun h => (and_t h).imp (fun h => of_decide_eq_true h) (fun h => of_decide_eq_true h)) (fun h => of_decide_eq_true h)) (fun h => of_decide_eq_true h)) (fun h => of_decide_eq_true h)) (fun h => of_decide_eq_true h))
    refine gc_seq ?_
    refine gc_region ?_
    refine ne (eo_call rfl en10 rfl (fun W1 hO => exam43_c W1  )) rfl ?_
    refine ne (eo_as rfl rfl) rfl ?_
    refine go_nil ?_
    refine gq_next ?_
    refine gc_ret ?_
    refine gq_then_ret ?_
    refine gq_results (res1 rfl rfl) ?_
    exact fun W1 hO => ⟨rfl, hO.toExt⟩
  ·
    have hd0 := (or_f hc0).imp (fun h => of_decide_eq_false h) (fun h => (and_f h).imp (fun h => (and_f h).imp (fun h => (and_f h).imp (fun h => (and_f h).imp (fun h => (and_f h).imp (fun h => of_decide_eq_false h) (fun h => of_decide_eq_false h)) (fun h => of_decide_eq_false h)) (fun h => of_decide_eq_false h)) (fun h => of_decide_eq_false h)) (fun h => of_decide_eq_false h))
    refine gc_skip ?_
    refine gq_next ?_
    refine gc_seq ?_
    refine gc_region ?_
    refine ne (eo_mv rfl rfl) rfl ?_
    refine ne (eo_mv rfl rfl) rfl ?_
    refine ne (eo_mv rfl rfl) rfl ?_
    refine ne (eo_mv rfl rfl) rfl ?_
    refine nx (xo_freshT rfl en16 rfl (fun W1 hO => places_x _ _ _ _ W1  (by omega) (by omega))) rfl ?_
    rintro _ _ ⟨S57, ⟨A57, k57, rfl, hk57, hS57⟩, rfl⟩
    refine ne (eo_mv rfl rfl) rfl ?_
    refine ne (eo_extract rfl rfl rfl) rfl ?_
    refine ne (eo_extract rfl rfl rfl) rfl ?_
    refine ne (eo_as rfl rfl) rfl ?_
    refine ne (eo_as rfl rfl) rfl ?_
    refine go_nil ?_
    refine gq_next ?_
    refine gc_seq ?_
    refine gc_region ?_
    refine ne (eo_mv rfl rfl) rfl ?_
    refine ne (eo_mv rfl rfl) rfl ?_
    refine ne (eo_mv rfl rfl) rfl ?_
    refine ne (eo_mv rfl rfl) rfl ?_
    refine nx (xo_freshT rfl en17 rfl (fun W1 hO => rplaces_x _ _ _ _ W1  (by omega) (by omega))) rfl ?_
    rintro _ _ ⟨S65, ⟨A65, k65, rfl, hk65, hS65⟩, rfl⟩
    refine ne (eo_mv rfl rfl) rfl ?_
    refine ne (eo_extract rfl rfl rfl) rfl ?_
    refine ne (eo_extract rfl rfl rfl) rfl ?_
    refine ne (eo_as rfl rfl) rfl ?_
    refine ne (eo_as rfl rfl) rfl ?_
    refine go_nil ?_
    refine gq_next ?_
    refine gc_seq ?_
    refine gc_region ?_
    refine ne (eo_loadA 0 rfl a33 rfl rfl rfl rfl) rfl ?_
    refine ne (eo_mv rfl rfl) rfl ?_
    refine ne (eo_mv rfl rfl) rfl ?_
    refine nx (xo_freshT rfl en18 rfl (fun W1 hO => dirt_x _ _ _ _ _ _ _ _ W1 (hr.old0 hO) (by omega) (by omega))) rfl ?_
    rintro _ _ ⟨S72, ⟨A72, k72, rfl, hk72, hS72⟩, rfl⟩
    refine ne (eo_mv rfl rfl) rfl ?_
    refine ne (eo_extract rfl rfl rfl) rfl ?_
    refine ne (eo_extract rfl rfl rfl) rfl ?_
    refine nx (xo_alloc rfl z33) rfl ?_
    rintro _ _ ⟨g15, rfl, rfl⟩
    refine nu (xo_storeA 0 rfl a33 rfl rfl (ones_cons (by first | rfl | exact AS.one) (ones_cons (by first | rfl | exact AS.one) (ones_cons (by first | rfl | exact AS.one) ones_nil))) rfl rfl rfl rfl) ?_
    rintro _ _ ⟨rfl, rfl⟩
    refine ne (eo_as rfl rfl) rfl ?_
    refine go_nil ?_
    refine gq_next ?_
    refine gc_seq ?_
    refine gc_region ?_
    refine ne (eo_loadA 1 rfl a33 rfl rfl rfl rfl) rfl ?_
    refine ne (eo_mv rfl rfl) rfl ?_
    refine ne (eo_mv rfl rfl) rfl ?_
    refine nx (xo_freshT rfl en19 rfl (fun W1 hO => rdirt_x _ _ _ _ _ _ _ _ W1 (hr.old0 hO) (by omega) (by omega))) rfl ?_
    rintro _ _ ⟨S79, ⟨A79, k79, rfl, hk79, hS79⟩, rfl⟩
    refine ne (eo_mv rfl rfl) rfl ?_
    refine ne (eo_extract rfl rfl rfl) rfl ?_
    refine ne (eo_extract rfl rfl rfl) rfl ?_
    refine nx (xo_alloc rfl z33) rfl ?_
    rintro _ _ ⟨g17, rfl, rfl⟩
    refine nu (xo_storeA 0 rfl a33 rfl rfl (ones_cons (by first | rfl | exact AS.one) (ones_cons (by first | rfl | exact AS.one) (ones_cons (by first | rfl | exact AS.one) ones_nil))) rfl rfl rfl rfl) ?_
    rintro _ _ ⟨rfl, rfl⟩
    refine ne (eo_as rfl rfl) rfl ?_
    refine go_nil ?_
    refine gq_next ?_
    refine gc_seq ?_
    refine gc_region ?_
    refine ne (eo_mv rfl rfl) rfl ?_
    refine ne (eo_mv rfl rfl) rfl ?_
    refine ne (eo_call rfl en20 rfl (fun W1 hO => ints_c _ _ _ _ _ _ _ _ W1 (hS57.rd (hO.tl 3 rfl (((List.sublist_append_left _ _).trans (List.sublist_append_left _ _)).trans (List.sublist_append_left _ _)))) (hS65.rd (hO.tl 3 rfl (((List.sublist_append_right _ _).trans (List.sublist_append_left _ _)).trans (List.sublist_append_left _ _)))) (Nat.le_trans placesR_le (by decide)))) rfl ?_
    refine ne (eo_mv rfl rfl) rfl ?_
    refine ng rfl rfl (fun h => eo_mv rfl rfl) rfl ?_
    refine ng rfl rfl (fun h => eo_mv rfl rfl) rfl ?_
    refine ng rfl rfl (fun h => eo_eql rfl (ev_if h rfl) (ev_if h rfl)) rfl ?_
    refine ne (eo_and rfl rfl (fun hb => ev_if hb rfl)) rfl ?_
    refine ne (eo_mv rfl rfl) rfl ?_
    refine ng rfl rfl (fun h => eo_loadA 1 rfl a33 rfl rfl rfl rfl) rfl ?_
    refine ng rfl rfl (fun h => eo_loadA 0 rfl a33 rfl rfl rfl rfl) rfl ?_
    refine ng rfl rfl (fun h => eo_call rfl en21 (evs_cons (ev_if h rfl) (evs_cons (ev_if h rfl) evs_nil)) (fun W1 hO => same43_c _ _ _ _ _ _ _ _ _ _ _ _ W1 (hS72.rd (hO.tl 3 rfl ((List.sublist_append_right _ _).trans (List.sublist_append_left _ _)))) (hS79.rd (hO.tl 3 rfl (List.sublist_append_right _ _))) (Nat.le_trans dirtR_le (by decide)))) rfl ?_
    refine ne (eo_and rfl rfl (fun hb => ev_if hb rfl)) rfl ?_
    refine ne (eo_mv rfl rfl) rfl ?_
    refine ng rfl rfl (fun h => eo_mv rfl rfl) rfl ?_
    refine ng rfl rfl (fun h => eo_mv rfl rfl) rfl ?_
    refine ng rfl rfl (fun h => eo_eql rfl (ev_if h rfl) (ev_if h rfl)) rfl ?_
    refine ne (eo_and rfl rfl (fun hb => ev_if hb rfl)) rfl ?_
    refine ne (eo_mv rfl rfl) rfl ?_
    refine ng rfl rfl (fun h => eo_call rfl en10 rfl (fun W1 hO => exam43_c W1  )) rfl ?_
    refine ne (eo_and rfl rfl (fun hb => ev_if hb rfl)) rfl ?_
    refine ne (eo_as rfl rfl) rfl ?_
    refine go_nil ?_
    refine gq_next ?_
    refine gc_ret ?_
    refine gq_results (res1 rfl rfl) ?_
    exact fun W1 hO => ⟨ret_bool (show (((((eqT ((placesR a b d sd).1.1) ((placesR a b d sd).1.2) ((placesR a b d sd).1.1) ((placesR a b d sd).1.2)) && decide ((placesR a b d sd).2 = (placesR a b d sd).2)) && (eqP (dirtR ⟨W, H, n, f⟩ d sd).1 (dirtR ⟨W, H, n, f⟩ d sd).1)) && decide ((dirtR ⟨W, H, n, f⟩ d sd).2 = (dirtR ⟨W, H, n, f⟩ d sd).2)) && true) = true from by simp [eqP_rf, eqT_rf]), hO.toExt⟩

end Go.Proofs.Ytibooikbbcilcaa
