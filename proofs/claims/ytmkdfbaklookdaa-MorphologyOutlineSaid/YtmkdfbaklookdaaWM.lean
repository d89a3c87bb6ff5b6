/-
  The walks of the functions of package morphology and of the document's answer (part M): what each call returns, at every argument.
-/
import Derived.Test.YtmkdfbaklookdaaWG
import Derived.Test.YtmkdfbaklookdaaMr
namespace Go.Proofs.Ytmkdfbaklookdaa
open Go.RowKit Go.Eng

open Go.Bs
theorem en28 : Ent Try.prog 28 := ent_of Try.func28 (by kernel_rfl) rfl
theorem en11 : Ent Try.prog 11 := ent_of Try.func11 (by kernel_rfl) rfl
theorem en26 : Ent Try.prog 26 := ent_of Try.func26 (by kernel_rfl) rfl

/-- barscan/barscanlaw37.valid -/
theorem valid37_c (W H : Int) (A : Option Addr) (n c : Nat) (f : Nat → Bool) (w : World) (hr : Rd w A (tab n (bv f)))  :
    Calls Try.prog 28 #[.agg #[.int .i64 W, .int .i64 H, .slice A n c]] w (fun e w' => e = .returned (.bool (val37 W H n)) ∧ Ext w w') := by
  refine calls_enter (N := ⟨40, []⟩) [] ([]) Try.func28 rfl rfl rfl (Ow.start _) ?_
  refine gc_seq ?_
  refine gc_region ?_
  refine nx (xo_boxA rfl rfl) rfl ?_
  rintro _ _ ⟨g1, rfl, rfl⟩
  refine ne (eo_as rfl rfl) rfl ?_
  refine go_nil ?_
  refine gq_next ?_
  refine gc_seq ?_
  refine gc_region ?_
  refine ne (eo_field rfl f24_0 rfl) rfl ?_
  refine ne (eo_load 0 rfl s3 rfl rfl rfl rfl) rfl ?_
  refine ne (eo_geq rfl rfl rfl) rfl ?_
  refine ne (eo_mv rfl rfl) rfl ?_
  refine ng rfl rfl (fun h => eo_field rfl f24_0 rfl) rfl ?_
  refine ng rfl rfl (fun h => eo_load 0 rfl s3 (ev_if h rfl) rfl rfl rfl) rfl ?_
  refine ng rfl rfl (fun h => eo_leq rfl (ev_if h rfl) rfl) rfl ?_
  refine ne (eo_and rfl rfl (fun hb => ev_if hb rfl)) rfl ?_
  refine ne (eo_mv rfl rfl) rfl ?_
  refine ng rfl rfl (fun h => eo_field rfl f24_1 rfl) rfl ?_
  refine ng rfl rfl (fun h => eo_load 0 rfl s3 (ev_if h rfl) rfl rfl rfl) rfl ?_
  refine ng rfl rfl (fun h => eo_geq rfl (ev_if h rfl) rfl) rfl ?_
  refine ne (eo_and rfl rfl (fun hb => ev_if hb rfl)) rfl ?_
  refine ne (eo_mv rfl rfl) rfl ?_
  refine ng rfl rfl (fun h => eo_field rfl f24_1 rfl) rfl ?_
  refine ng rfl rfl (fun h => eo_load 0 rfl s3 (ev_if h rfl) rfl rfl rfl) rfl ?_
  refine ng rfl rfl (fun h => eo_leq rfl (ev_if h rfl) rfl) rfl ?_
  refine ne (eo_and rfl rfl (fun hb => ev_if hb rfl)) rfl ?_
  refine ne (eo_mv rfl rfl) rfl ?_
  refine ng rfl rfl (fun h => eo_field rfl f24_0 rfl) rfl ?_
  refine ng rfl rfl (fun h => eo_load 0 rfl s3 (ev_if h rfl) rfl rfl rfl) rfl ?_
  refine ng rfl rfl (fun h => eo_field rfl f24_1 rfl) rfl ?_
  refine ng rfl rfl (fun h => eo_load 0 rfl s3 (ev_if h rfl) rfl rfl rfl) rfl ?_
  refine ng rfl rfl (fun h => eo_mul rfl (ev_if h rfl) (ev_if h rfl) (by have hg0 := (and_t h).imp (fun h => (and_t h).imp (fun h => (and_t h).imp (fun h => of_decide_eq_true h) (fun h => of_decide_eq_true h)) (fun h => of_decide_eq_true h)) (fun h => of_decide_eq_true h); first | omega | (have hm := mul_in (a := W) (b := H) (by omega) (by omega) (by omega) (by omega); omega)) (by have hg0 := (and_t h).imp (fun h => (and_t h).imp (fun h => (and_t h).imp (fun h => of_decide_eq_true h) (fun h => of_decide_eq_true h)) (fun h => of_decide_eq_true h)) (fun h => of_decide_eq_true h); first | omega | (have hm := mul_in (a := W) (b := H) (by omega) (by omega) (by omega) (by omega); omega))) rfl ?_
  refine ng rfl rfl (fun h => eo_leq rfl (ev_if h rfl) rfl) rfl ?_
  refine ne (eo_and rfl rfl (fun hb => ev_if hb rfl)) rfl ?_
  refine ne (eo_mv rfl rfl) rfl ?_
  refine ng rfl rfl (fun h => eo_field rfl f24_2 rfl) rfl ?_
  refine ng rfl rfl (fun h => eo_load 0 rfl s22 (ev_if h rfl) rfl rfl rfl) rfl ?_
  refine ng rfl rfl (fun h => eo_len rfl Try.underlying22 (ev_if h rfl)) rfl ?_
  refine ng rfl rfl (fun h => eo_field rfl f24_0 rfl) rfl ?_
  refine ng rfl rfl (fun h => eo_load 0 rfl s3 (ev_if h rfl) rfl rfl rfl) rfl ?_
  refine ng rfl rfl (fun h => eo_field rfl f24_1 rfl) rfl ?_
  refine ng rfl rfl (fun h => eo_load 0 rfl s3 (ev_if h rfl) rfl rfl rfl) rfl ?_
  refine ng rfl rfl (fun h => eo_mul rfl (ev_if h rfl) (ev_if h rfl) (by have hg0 := (and_t h).imp (fun h => (and_t h).imp (fun h => (and_t h).imp (fun h => (and_t h).imp (fun h => of_decide_eq_true h) (fun h => of_decide_eq_true h)) (fun h => of_decide_eq_true h)) (fun h => of_decide_eq_true h)) (fun h => of_decide_eq_true h); first | omega | (have hm := mul_in (a := W) (b := H) (by omega) (by omega) (by omega) (by omega); omega)) (by have hg0 := (and_t h).imp (fun h => (and_t h).imp (fun h => (and_t h).imp (fun h => (and_t h).imp (fun h => of_decide_eq_true h) (fun h => of_decide_eq_true h)) (fun h => of_decide_eq_true h)) (fun h => of_decide_eq_true h)) (fun h => of_decide_eq_true h); first | omega | (have hm := mul_in (a := W) (b := H) (by omega) (by omega) (by omega) (by omega); omega))) rfl ?_
  refine ng rfl rfl (fun h => eo_eql rfl (ev_if h rfl) (ev_if h rfl)) rfl ?_
  refine ne (eo_and rfl rfl (fun hb => ev_if hb rfl)) rfl ?_
  refine ne (eo_as rfl rfl) rfl ?_
  refine go_nil ?_
  refine gq_next ?_
  refine gc_ret ?_
  refine gq_results (res1 rfl rfl) ?_
  exact fun W1 hO => ⟨ret_bool (by simp [val37, Bool.and_assoc]), hO.toExt⟩

/-- barscan/barscanlaw37.MorphologyOutline -/
theorem outline_c (W H : Int) (A : Option Addr) (n c : Nat) (f : Nat → Bool) (w : World) (hr : Rd w A (tab n (bv f))) (hnc : n ≤ c) :
    Calls Try.prog 9 #[.agg #[.int .i64 W, .int .i64 H, .slice A n c]] w (fun e w' => e = .returned (.bool true) ∧ Ext w w') := by
  refine calls_enter (N := ⟨90, []⟩) [] ([]) Try.func9 rfl rfl rfl (Ow.start _) ?_
  refine gc_seq ?_
  refine gc_region ?_
  refine nx (xo_boxA rfl rfl) rfl ?_
  rintro _ _ ⟨g1, rfl, rfl⟩
  refine ne (eo_as rfl rfl) rfl ?_
  refine go_nil ?_
  refine gq_next ?_
  refine gc_seq ?_
  refine gc_seq ?_
  refine gc_region ?_
  refine ne (eo_loadA 0 rfl a24 rfl rfl rfl rfl) rfl ?_
  refine ne (eo_call rfl en28 rfl (fun W1 hO => valid37_c _ _ _ _ _ _ W1 (hr.old0 hO) )) rfl ?_
  refine ne (eo_not rfl rfl) rfl ?_
  refine go_nil ?_
  refine gq_next ?_
  refine gc_cond rfl (fun hc0 => ?_) (fun hc0 => ?_)
  ·
    have hd0 := (not_t hc0)
    refine gc_seq ?_
    refine gc_region ?_
    refine ne (eo_call rfl en11 rfl (fun W1 hO => exam_c W1  )) rfl ?_
    refine ne (eo_as rfl rfl) rfl ?_
    refine go_nil ?_
    refine gq_next ?_
    refine gc_ret ?_
    refine gq_then_ret ?_
    refine gq_results (res1 rfl rfl) ?_
    exact fun W1 hO => ⟨rfl, hO.toExt⟩
  ·
    have hd0 := (not_f hc0)
    obtain ⟨hv, n1, n2, n3⟩ := val_vld hd0
    obtain ⟨v1, v2, v3, v4, v5, v6⟩ := vldB_iff.1 hv
    have v7 := vld_pos hv
    have hV : (⟨W, H, n, f⟩ : Pm Bool).vld = true := hv
    have c1 := chk_of (rx := 1) (ry := 0) hV (by omega) (by omega) (by omega) (by omega)
    have c2 := chk_of (rx := 0) (ry := 1) hV (by omega) (by omega) (by omega) (by omega)
    have z1 := outlR_sz hV
    have z2 := (erode_sz c1).2.2.1
    have z3 := (erode_sz c2).2.2.1
    simp only at z1 z2 z3
    refine gc_skip ?_
    refine gq_next ?_
    refine gc_seq ?_
    refine gc_region ?_
    refine ne (eo_loadA 0 rfl a24 rfl rfl rfl rfl) rfl ?_
    refine nx (xo_freshT rfl en24 rfl (fun W1 hO => outl_x _ _ _ _ _ _ W1 (hr.old0 hO) )) rfl ?_
    rintro _ _ ⟨S17, ⟨A17, k17, rfl, hk17, hS17⟩, rfl⟩
    refine ne (eo_mv rfl rfl) rfl ?_
    refine ne (eo_extract rfl rfl rfl) rfl ?_
    refine ne (eo_extract rfl rfl rfl) rfl ?_
    refine nx (xo_alloc rfl z24) rfl ?_
    rintro _ _ ⟨g3, rfl, rfl⟩
    refine nu (xo_storeA 0 rfl a24 rfl rfl (ones_cons (by first | rfl | exact AS.one) (ones_cons (by first | rfl | exact AS.one) (ones_cons (by first | rfl | exact AS.one) ones_nil))) rfl rfl rfl rfl) ?_
    rintro _ _ ⟨rfl, rfl⟩
    refine ne (eo_as rfl rfl) rfl ?_
    refine go_nil ?_
    refine gq_next ?_
    refine gc_seq ?_
    refine gc_region ?_
    refine ne (eo_loadA 1 rfl a24 rfl rfl rfl rfl) rfl ?_
    refine nx (xo_freshT rfl en12 rfl (fun W1 hO => erode_x _ _ _ _ _ _ _ _ W1 (hr.old0 hO) hnc)) rfl ?_
    rintro _ _ ⟨S22, ⟨A22, k22, rfl, hk22, hS22⟩, rfl⟩
    refine ne (eo_mv rfl rfl) rfl ?_
    refine ne (eo_extract rfl rfl rfl) rfl ?_
    refine ne (eo_extract rfl rfl rfl) rfl ?_
    refine nx (xo_alloc rfl z24) rfl ?_
    rintro _ _ ⟨g5, rfl, rfl⟩
    refine nu (xo_storeA 0 rfl a24 rfl rfl (ones_cons (by first | rfl | exact AS.one) (ones_cons (by first | rfl | exact AS.one) (ones_cons (by first | rfl | exact AS.one) ones_nil))) rfl rfl rfl rfl) ?_
    rintro _ _ ⟨rfl, rfl⟩
    refine ne (eo_as rfl rfl) rfl ?_
    refine go_nil ?_
    refine gq_next ?_
    refine gc_seq ?_
    refine gc_region ?_
    refine ne (eo_loadA 2 rfl a24 rfl rfl rfl rfl) rfl ?_
    refine nx (xo_freshT rfl en12 rfl (fun W1 hO => erode_x _ _ _ _ _ _ _ _ W1 (hr.old0 hO) hnc)) rfl ?_
    rintro _ _ ⟨S27, ⟨A27, k27, rfl, hk27, hS27⟩, rfl⟩
    refine ne (eo_mv rfl rfl) rfl ?_
    refine ne (eo_extract rfl rfl rfl) rfl ?_
    refine ne (eo_extract rfl rfl rfl) rfl ?_
    refine nx (xo_alloc rfl z24) rfl ?_
    rintro _ _ ⟨g7, rfl, rfl⟩
    refine nu (xo_storeA 0 rfl a24 rfl rfl (ones_cons (by first | rfl | exact AS.one) (ones_cons (by first | rfl | exact AS.one) (ones_cons (by first | rfl | exact AS.one) ones_nil))) rfl rfl rfl rfl) ?_
    rintro _ _ ⟨rfl, rfl⟩
    refine ne (eo_as rfl rfl) rfl ?_
    refine go_nil ?_
    refine gq_next ?_
    refine gc_seq ?_
    refine gc_seq ?_
    refine gc_region ?_
    refine ne (eo_mv rfl rfl) rfl ?_
    refine ne (eo_neq rfl rfl rfl) rfl ?_
    refine ne (eo_mv rfl rfl) rfl ?_
    refine ng rfl rfl (fun h => eo_mv rfl rfl) rfl ?_
    refine ng rfl rfl (fun h => eo_neq rfl (ev_if h rfl) rfl) rfl ?_
    refine ne (eo_or rfl rfl (fun hb => ev_if hb rfl)) rfl ?_
    refine ne (eo_mv rfl rfl) rfl ?_
    refine ng rfl rfl (fun h => eo_mv rfl rfl) rfl ?_
    refine ng rfl rfl (fun h => eo_neq rfl (ev_if h rfl) rfl) rfl ?_
    refine ne (eo_or rfl rfl (fun hb => ev_if hb rfl)) rfl ?_
    refine ne (eo_mv rfl rfl) rfl ?_
    refine ng rfl rfl (fun h => eo_loadA 2 rfl a24 rfl rfl rfl rfl) rfl ?_
    refine ng rfl rfl (fun h => eo_loadA 3 rfl a24 rfl rfl rfl rfl) rfl ?_
    refine ng rfl rfl (fun h => eo_call rfl en26 (evs_cons (ev_if h rfl) (evs_cons (ev_if h rfl) evs_nil)) (fun W1 hO => within37_c _ _ _ _ _ _ _ _ _ _ _ _ W1 (hS17.rd (hO.tl 4 rfl ((List.sublist_append_left _ _).trans (List.sublist_append_left _ _)))) (hr.old0 hO) (Nat.le_trans outlR_le (by decide)))) rfl ?_
    refine ng rfl rfl (fun h => eo_not rfl (ev_if h rfl)) rfl ?_
    refine ne (eo_or rfl rfl (fun hb => ev_if hb rfl)) rfl ?_
    refine ne (eo_mv rfl rfl) rfl ?_
    refine ng rfl rfl (fun h => eo_loadA 1 rfl a24 rfl rfl rfl rfl) rfl ?_
    refine ng rfl rfl (fun h => eo_loadA 3 rfl a24 rfl rfl rfl rfl) rfl ?_
    refine ng rfl rfl (fun h => eo_call rfl en26 (evs_cons (ev_if h rfl) (evs_cons (ev_if h rfl) evs_nil)) (fun W1 hO => within37_c _ _ _ _ _ _ _ _ _ _ _ _ W1 (hS22.rd (hO.tl 4 rfl ((List.sublist_append_right _ _).trans (List.sublist_append_left _ _)))) (hr.old0 hO) (Nat.le_trans erodeR_le (by decide)))) rfl ?_
    refine ng rfl rfl (fun h => eo_not rfl (ev_if h rfl)) rfl ?_
    refine ne (eo_or rfl rfl (fun hb => ev_if hb rfl)) rfl ?_
    refine ne (eo_mv rfl rfl) rfl ?_
    refine ng rfl rfl (fun h => eo_loadA 0 rfl a24 rfl rfl rfl rfl) rfl ?_
    refine ng rfl rfl (fun h => eo_loadA 3 rfl a24 rfl rfl rfl rfl) rfl ?_
    refine ng rfl rfl (fun h => eo_call rfl en26 (evs_cons (ev_if h rfl) (evs_cons (ev_if h rfl) evs_nil)) (fun W1 hO => within37_c _ _ _ _ _ _ _ _ _ _ _ _ W1 (hS27.rd (hO.tl 4 rfl (List.sublist_append_right _ _))) (hr.old0 hO) (Nat.le_trans erodeR_le (by decide)))) rfl ?_
    refine ng rfl rfl (fun h => eo_not rfl (ev_if h rfl)) rfl ?_
    refine ne (eo_or rfl rfl (fun hb => ev_if hb rfl)) rfl ?_
    refine go_nil ?_
    refine gq_next ?_
    refine gc_cond rfl (fun hc1 => ?_) (fun hc1 => ?_)
    ·
      have hd1 := (or_t hc1).imp (fun h => (or_t h).imp (fun h => (or_t h).imp (fun h => (or_t h).imp (fun h => (or_t h).imp (fun h => of_decide_eq_true h) (fun h => of_decide_eq_true h)) (fun h => of_decide_eq_true h)) (fun h => (not_t h))) (fun h => (not_t h))) (fun h => (not_t h))
      exact Bool.noConfusion (hc1.symm.trans (show (((((decide ((outlR ⟨W, H, n, f⟩).2 ≠ 0) || decide ((erodeR ⟨W, H, n, f⟩ 1 0).2 ≠ 0)) || decide ((erodeR ⟨W, H, n, f⟩ 0 1).2 ≠ 0)) || (!(wiB (outlR ⟨W, H, n, f⟩).1 ⟨W, H, n, f⟩))) || (!(wiB (erodeR ⟨W, H, n, f⟩ 1 0).1 ⟨W, H, n, f⟩))) || (!(wiB (erodeR ⟨W, H, n, f⟩ 0 1).1 ⟨W, H, n, f⟩))) = false from by rw [z1.1, erode_err, erode_err, c1, c2, outl_in hV, erode_in c1, erode_in c2]; rfl))
    ·
      have hd1 := (or_f hc1).imp (fun h => (or_f h).imp (fun h => (or_f h).imp (fun h => (or_f h).imp (fun h => (or_f h).imp (fun h => ne_f h) (fun h => ne_f h)) (fun h => ne_f h)) (fun h => (not_f h))) (fun h => (not_f h))) (fun h => (not_f h))
      refine gc_skip ?_
      refine gq_next ?_
      refine gc_seq ?_
      refine gc_seq ?_
      refine gc_region ?_
      refine ne (eo_field rfl f24_2 rfl) rfl ?_
      refine ne (eo_load 3 rfl s22 rfl rfl rfl rfl) rfl ?_
      refine ne (eo_len rfl Try.underlying22 rfl) rfl ?_
      refine ne (eo_mv rfl rfl) rfl ?_
      refine go_nil ?_
      refine gq_next ?_
      refine gc_block ?_
      refine loop1 (fun (i : Nat) => i ≤ n) (fun (i : Nat) => n - i) (fun (i : Nat) => [(3, .pointer (some ⟨g3, 0, none⟩)), (5, .pointer (some ⟨g5, 0, none⟩)), (7, .pointer (some ⟨g7, 0, none⟩)), (59, .slice A n c), (60, .int .i64 ((n : Nat) : Int)), (61, .int .i64 (i : Int))]) (fun (i : Nat) => ⟨g7, 24, [.int .i64 ((erodeR ⟨W, H, n, f⟩ 0 1).1.W), .int .i64 ((erodeR ⟨W, H, n, f⟩ 0 1).1.H), .slice A27 ((erodeR ⟨W, H, n, f⟩ 0 1).1.n) k27]⟩ :: ⟨g5, 24, [.int .i64 ((erodeR ⟨W, H, n, f⟩ 1 0).1.W), .int .i64 ((erodeR ⟨W, H, n, f⟩ 1 0).1.H), .slice A22 ((erodeR ⟨W, H, n, f⟩ 1 0).1.n) k22]⟩ :: ⟨g3, 24, [.int .i64 ((outlR ⟨W, H, n, f⟩).1.W), .int .i64 ((outlR ⟨W, H, n, f⟩).1.H), .slice A17 ((outlR ⟨W, H, n, f⟩).1.n) k17]⟩ :: ⟨g1, 24, [.int .i64 W, .int .i64 H, .slice A n c]⟩ :: ((S17 ++ S22) ++ S27)) 0 (by omega) ⟨rfl, rfl, rfl, rfl, rfl, rfl, trivial⟩ (List.Sublist.refl _) ?_
      intro i hI
      refine gc_seq ?_
      refine gc_region ?_
      refine ne (eo_lss rfl rfl rfl) rfl ?_
      refine go_nil ?_
      refine gq_next ?_
      refine gc_seq ?_
      refine gc_cond rfl (fun hc2 => ?_) (fun hc2 => ?_)
      ·
        replace hc2 := of_decide_eq_true hc2
        refine gc_skip ?_
        refine gq_next ?_
        refine gc_seq ?_
        refine gc_block ?_
        refine gc_seq ?_
        refine gc_region ?_
        refine ne (eo_mv rfl rfl) rfl ?_
        refine ne (eo_indexR rfl sl22 rfl rfl hr (by simp) (by omega) (by omega)) rfl ?_
        refine ne (eo_load_old rfl s4 rfl (Rd.tabb hr (by omega)) (by simp)) rfl ?_
        refine ne (eo_as rfl rfl) rfl ?_
        refine ne (eo_as rfl rfl) rfl ?_
        refine go_nil ?_
        refine gq_next ?_
        refine gc_seq ?_
        refine gc_draw [] [0, 1, 2, 3, 4, 5, 6, 7, 8, 9, 10, 11, 12, 13, 14, 15, 16, 17, 18, 19, 20, 21] [] [] (by kernel_rfl) (by kernel_rfl) ?_
        refine gp_nil ?_
        refine de rfl (eo_mv rfl rfl) rfl ?_
        refine de rfl (eo_mv rfl rfl) rfl ?_
        refine dg rfl rfl rfl (fun h => eo_field rfl f24_2 rfl) rfl ?_
        refine dg rfl rfl rfl (fun h => eo_load 2 rfl s22 (ev_if h rfl) rfl rfl rfl) rfl ?_
        refine dg rfl rfl rfl (fun h => eo_mv rfl rfl) rfl ?_
        refine dg rfl rfl rfl (fun h => eo_indexS rfl sl22 (ev_if h rfl) (ev_if h rfl) (fun W1 hO => (hS17.rd (hO.tl 4 rfl ((List.sublist_append_left _ _).trans (List.sublist_append_left _ _))))) (by simp) (by omega) (by omega)) rfl ?_
        refine dg rfl rfl rfl (fun h => eo_loadS rfl s4 (ev_if h rfl) (fun W1 hO => Rd.tabb (hS17.rd (hO.tl 4 rfl ((List.sublist_append_left _ _).trans (List.sublist_append_left _ _)))) (by omega))) rfl ?_
        refine dg rfl rfl rfl (fun h => eo_not rfl (ev_if h rfl)) rfl ?_
        refine de rfl (eo_and rfl rfl (fun hb => ev_if hb rfl)) rfl ?_
        refine de rfl (eo_field rfl f24_2 rfl) rfl ?_
        refine de rfl (eo_load 1 rfl s22 rfl rfl rfl rfl) rfl ?_
        refine de rfl (eo_mv rfl rfl) rfl ?_
        refine de rfl (eo_indexS rfl sl22 rfl rfl (fun W1 hO => (hS22.rd (hO.tl 4 rfl ((List.sublist_append_right _ _).trans (List.sublist_append_left _ _))))) (by simp) (by omega) (by omega)) rfl ?_
        refine de rfl (eo_loadS rfl s4 rfl (fun W1 hO => Rd.tabb (hS22.rd (hO.tl 4 rfl ((List.sublist_append_right _ _).trans (List.sublist_append_left _ _)))) (by omega))) rfl ?_
        refine de rfl (eo_mv rfl rfl) rfl ?_
        refine dg rfl rfl rfl (fun h => eo_field rfl f24_2 rfl) rfl ?_
        refine dg rfl rfl rfl (fun h => eo_load 0 rfl s22 (ev_if h rfl) rfl rfl rfl) rfl ?_
        refine dg rfl rfl rfl (fun h => eo_mv rfl rfl) rfl ?_
        refine dg rfl rfl rfl (fun h => eo_indexS rfl sl22 (ev_if h rfl) (ev_if h rfl) (fun W1 hO => (hS27.rd (hO.tl 4 rfl (List.sublist_append_right _ _)))) (by simp) (by omega) (by omega)) rfl ?_
        refine dg rfl rfl rfl (fun h => eo_loadS rfl s4 (ev_if h rfl) (fun W1 hO => Rd.tabb (hS27.rd (hO.tl 4 rfl (List.sublist_append_right _ _))) (by omega))) rfl ?_
        refine de rfl (eo_and rfl rfl (fun hb => ev_if hb rfl)) rfl ?_
        refine de rfl (eo_bneq rfl rfl rfl Try.underlying4) rfl ?_
        refine ge_nil ?_
        refine ga_nil ?_
        refine gi_nil ?_
        refine gq_nq ?_
        refine gq_next ?_
        refine gc_cond rfl (fun hc3 => ?_) (fun hc3 => ?_)
        ·
          exact Bool.noConfusion (hc3.symm.trans (bne_eq_false_iff_eq.2 (outl_er hV (j := i) (by simp only; omega))))
        ·
          refine gc_skip ?_
          refine gq_block_end ?_
          refine gq_next ?_
          refine gc_region ?_
          refine ne (eo_add rfl rfl rfl (by omega) (by omega)) rfl ?_
          refine ne (eo_mv rfl rfl) rfl ?_
          refine go_nil ?_
          exact round1 (i + 1) (by omega) (by omega) ⟨rfl, rfl, rfl, rfl, rfl, rfl, trivial⟩ (List.Sublist.refl _)
      ·
        replace hc2 := of_decide_eq_false hc2
        refine gc_exit ?_
        refine gq_then_exit ?_
        refine gq_then_exit ?_
        refine gq_block_hit ?_
        refine gq_next ?_
        refine gc_seq ?_
        refine gc_region ?_
        refine ne (eo_call rfl en11 rfl (fun W1 hO => exam_c W1  )) rfl ?_
        refine ne (eo_as rfl rfl) rfl ?_
        refine go_nil ?_
        refine gq_next ?_
        refine gc_ret ?_
        refine gq_results (res1 rfl rfl) ?_
        exact fun W1 hO => ⟨rfl, hO.toExt⟩

end Go.Proofs.Ytmkdfbaklookdaa
