/-
  The walks of the functions of package skew and of the document's answer (part F): what each call returns, at every argument.
-/
import Derived.Test.YtmgkpdpmjhgekaaWE
namespace Go.Proofs.Ytmgkpdpmjhgekaa
open Go.RowKit Go.Eng

open Go.Bs
theorem en29 : Ent Try.prog 29 := ent_of Try.func29 (by kernel_rfl) rfl
theorem en17 : Ent Try.prog 17 := ent_of Try.func17 (by kernel_rfl) rfl
theorem en21 : Ent Try.prog 21 := ent_of Try.func21 (by kernel_rfl) rfl
theorem en16 : Ent Try.prog 16 := ent_of Try.func16 (by kernel_rfl) rfl

/-- barscan/barscanlaw45.exampleHolds -/
theorem exam45_c  (w : World)   :
    Calls Try.prog 13 #[] w (fun e w' => e = .returned (.bool true) ∧ Ext w w') := by
  refine calls_enter (N := ⟨100, []⟩) [] ([]) Try.func13 rfl rfl rfl (Ow.start _) ?_
  refine gc_seq ?_
  refine gc_region ?_
  refine ne (eo_as rfl rfl) rfl ?_
  refine go_nil ?_
  refine gq_next ?_
  refine gc_seq ?_
  refine gc_region ?_
  refine nx (xo_freshT rfl en29 rfl (fun W1 hO => bmap_x _ _ _ W1  (by decide))) rfl ?_
  rintro _ _ ⟨S16, ⟨A16, k16, rfl, hk16, hS16⟩, rfl⟩
  refine nx (xo_freshT rfl en29 rfl (fun W1 hO => bmap_x _ _ _ W1  (by decide))) rfl ?_
  rintro _ _ ⟨S17, ⟨A17, k17, rfl, hk17, hS17⟩, rfl⟩
  refine nx (xo_alloc rfl z24) rfl ?_
  rintro _ _ ⟨g1, rfl, rfl⟩
  refine nx (xo_alloc rfl z24) rfl ?_
  rintro _ _ ⟨g2, rfl, rfl⟩
  refine nu (xo_storeA 1 rfl a24 rfl rfl (ones_cons (by first | rfl | exact AS.one) (ones_cons (by first | rfl | exact AS.one) (ones_cons (by first | rfl | exact AS.one) ones_nil))) rfl rfl rfl rfl) ?_
  rintro _ _ ⟨rfl, rfl⟩
  refine nu (xo_storeA 0 rfl a24 rfl rfl (ones_cons (by first | rfl | exact AS.one) (ones_cons (by first | rfl | exact AS.one) (ones_cons (by first | rfl | exact AS.one) ones_nil))) rfl rfl rfl rfl) ?_
  rintro _ _ ⟨rfl, rfl⟩
  refine go_nil ?_
  refine gq_next ?_
  refine gc_seq ?_
  refine gc_region ?_
  refine ne (eo_loadA 1 rfl a24 rfl rfl rfl rfl) rfl ?_
  refine nx (xo_freshT rfl en14 rfl (fun W1 hO => shear_x _ _ _ _ _ _ _ _ W1 (hS16.rd (hO.tl 2 rfl (List.sublist_append_left _ _))) )) rfl ?_
  rintro _ _ ⟨S20, ⟨A20, k20, rfl, hk20, hS20⟩, rfl⟩
  refine ne (eo_mv rfl rfl) rfl ?_
  refine ne (eo_extract rfl rfl rfl) rfl ?_
  refine ne (eo_extract rfl rfl rfl) rfl ?_
  refine nx (xo_alloc rfl z24) rfl ?_
  rintro _ _ ⟨g3, rfl, rfl⟩
  refine nu (xo_storeA 0 rfl a24 rfl rfl (ones_cons (by first | rfl | exact AS.one) (ones_cons (by first | rfl | exact AS.one) (ones_cons (by first | rfl | exact AS.one) ones_nil))) rfl rfl rfl rfl) ?_
  rintro _ _ ⟨rfl, rfl⟩
  refine ne (eo_as rfl rfl) rfl ?_
  refine go_nil ?_
  refine gq_next ?_
  refine gc_seq ?_
  refine gc_region ?_
  refine ne (eo_loadA 2 rfl a24 rfl rfl rfl rfl) rfl ?_
  refine nx (xo_freshT rfl en14 rfl (fun W1 hO => shear_x _ _ _ _ _ _ _ _ W1 (hS16.rd (hO.tl 3 rfl ((List.sublist_append_left _ _).trans (List.sublist_append_left _ _)))) )) rfl ?_
  rintro _ _ ⟨S25, ⟨A25, k25, rfl, hk25, hS25⟩, rfl⟩
  refine ne (eo_mv rfl rfl) rfl ?_
  refine ne (eo_extract rfl rfl rfl) rfl ?_
  refine ne (eo_extract rfl rfl rfl) rfl ?_
  refine nx (xo_alloc rfl z24) rfl ?_
  rintro _ _ ⟨g5, rfl, rfl⟩
  refine nu (xo_storeA 0 rfl a24 rfl rfl (ones_cons (by first | rfl | exact AS.one) (ones_cons (by first | rfl | exact AS.one) (ones_cons (by first | rfl | exact AS.one) ones_nil))) rfl rfl rfl rfl) ?_
  rintro _ _ ⟨rfl, rfl⟩
  refine ne (eo_as rfl rfl) rfl ?_
  refine go_nil ?_
  refine gq_next ?_
  refine gc_seq ?_
  refine gc_region ?_
  refine ne (eo_loadA 3 rfl a24 rfl rfl rfl rfl) rfl ?_
  refine ne (eo_call rfl en17 rfl (fun W1 hO => energy_c _ _ _ _ _ _ _ _ W1 (hS16.rd (hO.tl 4 rfl (((List.sublist_append_left _ _).trans (List.sublist_append_left _ _)).trans (List.sublist_append_left _ _)))) hk16)) rfl ?_
  refine ne (eo_mv rfl rfl) rfl ?_
  refine ne (eo_extract rfl rfl rfl) rfl ?_
  refine ne (eo_extract rfl rfl rfl) rfl ?_
  refine ne (eo_as rfl rfl) rfl ?_
  refine ne (eo_as rfl rfl) rfl ?_
  refine go_nil ?_
  refine gq_next ?_
  refine gc_seq ?_
  refine gc_region ?_
  refine ne (eo_loadA 3 rfl a24 rfl rfl rfl rfl) rfl ?_
  refine ne (eo_call rfl en17 rfl (fun W1 hO => energy_c _ _ _ _ _ _ _ _ W1 (hS16.rd (hO.tl 4 rfl (((List.sublist_append_left _ _).trans (List.sublist_append_left _ _)).trans (List.sublist_append_left _ _)))) hk16)) rfl ?_
  refine ne (eo_mv rfl rfl) rfl ?_
  refine ne (eo_extract rfl rfl rfl) rfl ?_
  refine ne (eo_extract rfl rfl rfl) rfl ?_
  refine ne (eo_as rfl rfl) rfl ?_
  refine ne (eo_as rfl rfl) rfl ?_
  refine go_nil ?_
  refine gq_next ?_
  refine gc_seq ?_
  refine gc_region ?_
  refine ne (eo_loadA 2 rfl a24 rfl rfl rfl rfl) rfl ?_
  refine nx (xo_freshT rfl en21 rfl (fun W1 hO => desk_x _ _ _ _ _ _ _ _ W1 (hS17.rd (hO.tl 4 rfl (((List.sublist_append_right _ _).trans (List.sublist_append_left _ _)).trans (List.sublist_append_left _ _)))) hk17)) rfl ?_
  rintro _ _ ⟨S40, ⟨A40, k40, rfl, hk40, hS40⟩, rfl⟩
  refine ne (eo_mv rfl rfl) rfl ?_
  refine ne (eo_extract rfl rfl rfl) rfl ?_
  refine ne (eo_extract rfl rfl rfl) rfl ?_
  refine ne (eo_extract rfl rfl rfl) rfl ?_
  refine nx (xo_alloc rfl z24) rfl ?_
  rintro _ _ ⟨g11, rfl, rfl⟩
  refine nu (xo_storeA 0 rfl a24 rfl rfl (ones_cons (by first | rfl | exact AS.one) (ones_cons (by first | rfl | exact AS.one) (ones_cons (by first | rfl | exact AS.one) ones_nil))) rfl rfl rfl rfl) ?_
  rintro _ _ ⟨rfl, rfl⟩
  refine ne (eo_as rfl rfl) rfl ?_
  refine ne (eo_as rfl rfl) rfl ?_
  refine go_nil ?_
  refine gq_next ?_
  refine gc_seq ?_
  refine gc_region ?_
  refine ne (eo_loadA 3 rfl a24 rfl rfl rfl rfl) rfl ?_
  refine ne (eo_call rfl en17 rfl (fun W1 hO => energy_c _ _ _ _ _ _ _ _ W1 (hS17.rd (hO.tl 5 rfl ((((List.sublist_append_right _ _).trans (List.sublist_append_left _ _)).trans (List.sublist_append_left _ _)).trans (List.sublist_append_left _ _)))) hk17)) rfl ?_
  refine ne (eo_mv rfl rfl) rfl ?_
  refine ne (eo_extract rfl rfl rfl) rfl ?_
  refine ne (eo_extract rfl rfl rfl) rfl ?_
  refine ne (eo_as rfl rfl) rfl ?_
  refine ne (eo_as rfl rfl) rfl ?_
  refine go_nil ?_
  refine gq_next ?_
  refine gc_seq ?_
  refine gc_seq ?_
  refine gc_region ?_
  refine ne (eo_mv rfl rfl) rfl ?_
  refine ne (eo_neq rfl rfl rfl) rfl ?_
  refine ne (eo_mv rfl rfl) rfl ?_
  refine ng rfl rfl (fun h => eo_mv rfl rfl) rfl ?_
  refine ng rfl rfl (fun h => eo_neq rfl (ev_if h rfl) rfl) rfl ?_
  refine ne (eo_or rfl rfl (fun hb => ev_if hb rfl)) rfl ?_
  refine ne (eo_mv rfl rfl) rfl ?_
  refine ng rfl rfl (fun h => eo_mv rfl rfl) rfl ?_
  refine ng rfl rfl (fun h => eo_neq rfl (ev_if h rfl) rfl) rfl ?_
  refine ne (eo_or rfl rfl (fun hb => ev_if hb rfl)) rfl ?_
  refine ne (eo_mv rfl rfl) rfl ?_
  refine ng rfl rfl (fun h => eo_mv rfl rfl) rfl ?_
  refine ng rfl rfl (fun h => eo_neq rfl (ev_if h rfl) rfl) rfl ?_
  refine ne (eo_or rfl rfl (fun hb => ev_if hb rfl)) rfl ?_
  refine ne (eo_mv rfl rfl) rfl ?_
  refine ng rfl rfl (fun h => eo_mv rfl rfl) rfl ?_
  refine ng rfl rfl (fun h => eo_neq rfl (ev_if h rfl) rfl) rfl ?_
  refine ne (eo_or rfl rfl (fun hb => ev_if hb rfl)) rfl ?_
  refine ne (eo_mv rfl rfl) rfl ?_
  refine ng rfl rfl (fun h => eo_mv rfl rfl) rfl ?_
  refine ng rfl rfl (fun h => eo_neq rfl (ev_if h rfl) rfl) rfl ?_
  refine ne (eo_or rfl rfl (fun hb => ev_if hb rfl)) rfl ?_
  refine ne (eo_mv rfl rfl) rfl ?_
  refine ng rfl rfl (fun h => eo_mv rfl rfl) rfl ?_
  refine ng rfl rfl (fun h => eo_neq rfl (ev_if h rfl) rfl) rfl ?_
  refine ne (eo_or rfl rfl (fun hb => ev_if hb rfl)) rfl ?_
  refine ne (eo_mv rfl rfl) rfl ?_
  refine ng rfl rfl (fun h => eo_mv rfl rfl) rfl ?_
  refine ng rfl rfl (fun h => eo_neq rfl (ev_if h rfl) rfl) rfl ?_
  refine ne (eo_or rfl rfl (fun hb => ev_if hb rfl)) rfl ?_
  refine ne (eo_mv rfl rfl) rfl ?_
  refine ng rfl rfl (fun h => eo_mv rfl rfl) rfl ?_
  refine ng rfl rfl (fun h => eo_neq rfl (ev_if h rfl) rfl) rfl ?_
  refine ne (eo_or rfl rfl (fun hb => ev_if hb rfl)) rfl ?_
  refine ne (eo_mv rfl rfl) rfl ?_
  refine ng rfl rfl (fun h => eo_mv rfl rfl) rfl ?_
  refine ng rfl rfl (fun h => eo_neq rfl (ev_if h rfl) rfl) rfl ?_
  refine ne (eo_or rfl rfl (fun hb => ev_if hb rfl)) rfl ?_
  refine go_nil ?_
  refine gq_next ?_
  refine gc_cond rfl (fun hc0 => ?_) (fun hc0 => ?_)
  ·
    have hd0 := (or_t hc0).imp (fun h => (or_t h).imp (fun h => (or_t h).imp (fun h => (or_t h).imp (fun h => (or_t h).imp (fun h => (or_t h).imp (fun h => (or_t h).imp (fun h => (or_t h).imp (fun h => (or_t h).imp (fun h => of_decide_eq_true h) (fun h => of_decide_eq_true h)) (fun h => of_decide_eq_true h)) (fun h => of_decide_eq_true h)) (fun h => of_decide_eq_true h)) (fun h => of_decide_eq_true h)) (fun h => of_decide_eq_true h)) (fun h => of_decide_eq_true h)) (fun h => of_decide_eq_true h)) (fun h => of_decide_eq_true h)
    exact Bool.noConfusion (hc0.symm.trans (show _ = false from by kernel_rfl))
  ·
    have hd0 := (or_f hc0).imp (fun h => (or_f h).imp (fun h => (or_f h).imp (fun h => (or_f h).imp (fun h => (or_f h).imp (fun h => (or_f h).imp (fun h => (or_f h).imp (fun h => (or_f h).imp (fun h => (or_f h).imp (fun h => ne_f h) (fun h => ne_f h)) (fun h => ne_f h)) (fun h => ne_f h)) (fun h => ne_f h)) (fun h => ne_f h)) (fun h => ne_f h)) (fun h => ne_f h)) (fun h => ne_f h)) (fun h => ne_f h)
    refine gc_skip ?_
    refine gq_next ?_
    refine gc_seq ?_
    refine gc_drawM [(0, true), (1, false), (2, false), (3, false), (4, true), (5, false), (6, false), (7, false), (8, false), (9, true), (10, false), (11, false), (12, false), (13, false)] (by kernel_rfl) (by kernel_rfl) ?_
    refine me rfl (eo_loadA 2 rfl a24 rfl rfl rfl rfl) rfl ?_
    refine ma rfl (xo_freshT rfl en29 rfl (fun W1 hO => bmap_x _ _ _ W1  (by decide))) rfl ?_
    rintro _ _ ⟨S88, ⟨A88, k88, rfl, hk88, hS88⟩, rfl⟩
    refine ⟨by first | exact (List.sublist_append_left _ _) | exact (List.sublist_append_left _ _), ?_⟩
    refine ma rfl (xo_of_eo (eo_call rfl en16 rfl (fun W1 hO => calls_bool (b := (eqP (shearR (strB 3 1 (ByteArray.mk #[49, 49, 49])) 1 2).1 (strB 3 2 (ByteArray.mk #[49, 49, 48, 48, 48, 49])))) (b' := true) (by kernel_rfl) (requal_c _ _ _ _ _ _ _ _ _ _ _ _ W1 (Nat.le_trans shearR_le (by decide)) (hS20.rd (hO.tl 5 rfl ((((List.sublist_append_right _ _).trans (List.sublist_append_left _ _)).trans (List.sublist_append_left _ _)).trans (List.sublist_append_left _ _)))) (hS88.rd (hO.tl 5 rfl (List.sublist_append_right _ _))))))) rfl ?_
    rintro _ _ ⟨rfl, rfl⟩
    refine ⟨by first | exact (List.sublist_append_left _ _) | exact (List.sublist_append_left _ _), ?_⟩
    refine ma rfl (xo_of_eo (eo_mv rfl rfl)) rfl ?_
    rintro _ _ ⟨rfl, rfl⟩
    refine ⟨by first | exact (List.sublist_append_left _ _) | exact (List.sublist_append_left _ _), ?_⟩
    refine mg rfl rfl rfl (eo_loadA 1 rfl a24 rfl rfl rfl rfl) rfl ?_
    refine mag rfl rfl rfl (xo_freshT rfl en29 rfl (fun W1 hO => bmap_x _ _ _ W1  (by decide))) rfl ?_
    rintro _ _ ⟨S92, ⟨A92, k92, rfl, hk92, hS92⟩, rfl⟩
    refine ⟨by first | exact ((List.sublist_append_left _ _).trans (List.sublist_append_left _ _)) | exact (List.sublist_append_left _ _), ?_⟩
    refine mag rfl rfl rfl (xo_of_eo (eo_call rfl en16 rfl (fun W1 hO => calls_bool (b := (eqP (shearR (strB 3 1 (ByteArray.mk #[49, 49, 49])) (-1) 2).1 (strB 3 2 (ByteArray.mk #[48, 49, 49, 49, 48, 48])))) (b' := true) (by kernel_rfl) (requal_c _ _ _ _ _ _ _ _ _ _ _ _ W1 (Nat.le_trans shearR_le (by decide)) (hS25.rd (hO.tl 5 rfl ((((List.sublist_append_right _ _).trans (List.sublist_append_left _ _)).trans (List.sublist_append_left _ _)).trans (List.sublist_append_left _ _)))) (hS92.rd (hO.tl 5 rfl (List.sublist_append_right _ _))))))) rfl ?_
    rintro _ _ ⟨rfl, rfl⟩
    refine ⟨by first | exact ((List.sublist_append_left _ _).trans (List.sublist_append_left _ _)) | exact (List.sublist_append_left _ _), ?_⟩
    refine ma rfl (xo_of_eo (eo_and rfl rfl (fun _ => rfl))) rfl ?_
    rintro _ _ ⟨rfl, rfl⟩
    refine ⟨by first | exact ((List.sublist_append_left _ _).trans (List.sublist_append_left _ _)) | exact (List.sublist_append_left _ _), ?_⟩
    refine ma rfl (xo_of_eo (eo_mv rfl rfl)) rfl ?_
    rintro _ _ ⟨rfl, rfl⟩
    refine ⟨by first | exact ((List.sublist_append_left _ _).trans (List.sublist_append_left _ _)) | exact (List.sublist_append_left _ _), ?_⟩
    refine mg rfl rfl rfl (eo_loadA 0 rfl a24 rfl rfl rfl rfl) rfl ?_
    refine mag rfl rfl rfl (xo_freshT rfl en29 rfl (fun W1 hO => bmap_x _ _ _ W1  (by decide))) rfl ?_
    rintro _ _ ⟨S97, ⟨A97, k97, rfl, hk97, hS97⟩, rfl⟩
    refine ⟨by first | exact (((List.sublist_append_left _ _).trans (List.sublist_append_left _ _)).trans (List.sublist_append_left _ _)) | exact (List.sublist_append_left _ _), ?_⟩
    refine mag rfl rfl rfl (xo_of_eo (eo_call rfl en16 rfl (fun W1 hO => calls_bool (b := (eqP (deskR (strB 3 3 (ByteArray.mk #[48, 48, 49, 48, 49, 48, 49, 48, 48])) 1 1).1 (strB 3 5 (ByteArray.mk #[48, 48, 48, 48, 48, 48, 49, 49, 49, 48, 48, 48, 48, 48, 48])))) (b' := true) (by kernel_rfl) (requal_c _ _ _ _ _ _ _ _ _ _ _ _ W1 (Nat.le_trans deskR_le (by decide)) (hS40.rd (hO.tl 5 rfl ((((List.sublist_append_right _ _).trans (List.sublist_append_left _ _)).trans (List.sublist_append_left _ _)).trans (List.sublist_append_left _ _)))) (hS97.rd (hO.tl 5 rfl (List.sublist_append_right _ _))))))) rfl ?_
    rintro _ _ ⟨rfl, rfl⟩
    refine ⟨by first | exact (((List.sublist_append_left _ _).trans (List.sublist_append_left _ _)).trans (List.sublist_append_left _ _)) | exact (List.sublist_append_left _ _), ?_⟩
    refine ma rfl (xo_of_eo (eo_and rfl rfl (fun _ => rfl))) rfl ?_
    rintro _ _ ⟨rfl, rfl⟩
    refine ⟨by first | exact (((List.sublist_append_left _ _).trans (List.sublist_append_left _ _)).trans (List.sublist_append_left _ _)) | exact (List.sublist_append_left _ _), ?_⟩
    refine ma rfl (xo_of_eo (eo_as rfl rfl)) rfl ?_
    rintro _ _ ⟨rfl, rfl⟩
    refine ⟨by first | exact (((List.sublist_append_left _ _).trans (List.sublist_append_left _ _)).trans (List.sublist_append_left _ _)) | exact (List.sublist_append_left _ _), ?_⟩
    refine gm_nil ?_
    refine gq_nq ?_
    refine gq_next ?_
    refine gc_ret ?_
    refine gq_results (res1 rfl rfl) ?_
    exact fun W1 hO => ⟨rfl, hO.toExt⟩

/-- barscan/barscanlaw45.few -/
theorem few_c (W H : Int) (A : Option Addr) (n c : Nat) (f : Nat → Bool) (w : World) (hr : Rd w A (tab n (bv f)))  :
    Calls Try.prog 11 #[.agg #[.int .i64 W, .int .i64 H, .slice A n c]] w (fun e w' => e = .returned (.bool (decide ((n : Int) ≤ 1500))) ∧ Ext w w') := by
  refine calls_enter (N := ⟨7, []⟩) [] ([]) Try.func11 rfl rfl rfl (Ow.start _) ?_
  refine gc_seq ?_
  refine gc_region ?_
  refine nx (xo_boxA rfl rfl) rfl ?_
  rintro _ _ ⟨g1, rfl, rfl⟩
  refine ne (eo_as rfl rfl) rfl ?_
  refine go_nil ?_
  refine gq_next ?_
  refine gc_seq ?_
  refine gc_region ?_
  refine ne (eo_field rfl f24_2 rfl) rfl ?_
  refine ne (eo_load 0 rfl s22 rfl rfl rfl rfl) rfl ?_
  refine ne (eo_len rfl Try.underlying22 rfl) rfl ?_
  refine ne (eo_leq rfl rfl rfl) rfl ?_
  refine ne (eo_as rfl rfl) rfl ?_
  refine go_nil ?_
  refine gq_next ?_
  refine gc_ret ?_
  refine gq_results (res1 rfl rfl) ?_
  exact fun W1 hO => ⟨rfl, hO.toExt⟩

end Go.Proofs.Ytmgkpdpmjhgekaa
