/-
  The walks of the functions of package printing and of the document's answer (part O): what each call returns, at every argument.
-/
import Derived.Test.YtibooikbbcilcaaWM
namespace Go.Proofs.Ytibooikbbcilcaa
open Go.RowKit Go.Eng

open Go.Bs
theorem en14 : Ent Try.prog 14 := ent_of Try.func14 (by kernel_rfl) rfl
theorem en10 : Ent Try.prog 10 := ent_of Try.func10 (by kernel_rfl) rfl
theorem b54_0 (x0 : Int) (W : World) : (Instr.build 54 #[(0, .int .i64 x0)]).run Try.prog W = .ok (.agg #[.int .i64 x0, .int .i64 0, .int .i64 0, .int .u32 0]) W := by kernel_rfl
theorem en26 : Ent Try.prog 26 := ent_of Try.func26 (by kernel_rfl) rfl
theorem en13 : Ent Try.prog 13 := ent_of Try.func13 (by kernel_rfl) rfl

/-- barscan/barscanlaw43.PrintingMeans -/
theorem lmeans_c (W H : Int) (A : Option Addr) (n c : Nat) (f : Nat → Bool) (A1 : Option Addr) (n1 c1 : Nat) (f1 : Nat → Int) (ra : Int) (t : Int) (w : World) (hr : Rd w A (tab n (bv f))) (hr1 : Rd w A1 (tab n1 (iv .u8 f1))) (hnc1 : n1 ≤ c1) (hp : PixOk n1 f1) (ra0 : 0 ≤ ra) (ra1 : ra ≤ 255) :
    Calls Try.prog 9 #[.agg #[.int .i64 W, .int .i64 H, .slice A n c], .slice A1 n1 c1, .int .u8 ra, .int .i64 t] w (fun e w' => e = .returned (.bool true) ∧ Ext w w') := by
  refine calls_enter (N := ⟨226, []⟩) [] ([]) Try.func9 rfl rfl rfl (Ow.start _) ?_
  refine gc_seq ?_
  refine gc_region ?_
  refine nx (xo_boxA rfl rfl) rfl ?_
  rintro _ _ ⟨g4, rfl, rfl⟩
  refine ne (eo_as rfl rfl) rfl ?_
  refine go_nil ?_
  refine gq_next ?_
  refine gc_seq ?_
  refine gc_seq ?_
  refine gc_region ?_
  refine ne (eo_loadA 0 rfl a33 rfl rfl rfl rfl) rfl ?_
  refine ne (eo_call rfl en14 rfl (fun W1 hO => valid43_c _ _ _ _ _ _ _ W1 (hr.old0 hO) )) rfl ?_
  refine ne (eo_not rfl rfl) rfl ?_
  refine ne (eo_mv rfl rfl) rfl ?_
  refine ng rfl rfl (fun h => eo_mv rfl rfl) rfl ?_
  refine ng rfl rfl (fun h => eo_len rfl Try.underlying22 (ev_if h rfl)) rfl ?_
  refine ng rfl rfl (fun h => eo_field rfl f33_2 rfl) rfl ?_
  refine ng rfl rfl (fun h => eo_load 0 rfl s31 (ev_if h rfl) rfl rfl rfl) rfl ?_
  refine ng rfl rfl (fun h => eo_len rfl Try.underlying31 (ev_if h rfl)) rfl ?_
  refine ng rfl rfl (fun h => eo_lss rfl (ev_if h rfl) (ev_if h rfl)) rfl ?_
  refine ne (eo_or rfl rfl (fun hb => ev_if hb rfl)) rfl ?_
  refine go_nil ?_
  refine gq_next ?_
  refine gc_cond rfl (fun hc0 => ?_) (fun hc0 => ?_)
  ·
    have hd0 := (or_t hc0).imp (fun h => (not_t h)) (fun h => of_decide_eq_true h)
    refine gc_seq ?_
    refine gc_region ?_
    refine ne (eo_call rfl en10 rfl (fun W1 hO => exam43_c W1  )) rfl ?_
    refine ne (eo_as rfl rfl) rfl ?_
    refine go_nil ?_
    refine gq_next ?_
    refine gc_ret ?_
    refine gq_then_ret ?_
    refine gq_results (res1 rfl rfl) ?_
    exact fun W1 hO => ⟨rfl, hO.toExt⟩
  ·
    have hd0 := (or_f hc0).imp (fun h => (not_f h)) (fun h => of_decide_eq_false h)
    obtain ⟨hq0, hq1⟩ := hd0
    obtain ⟨hv, hn1⟩ := val43_vld hq0 (by omega)
    obtain ⟨v1, v2, v3, v4, v5, v6⟩ := vldB_iff.1 hv
    have v7 := vld_pos hv
    have hpn : PixOk n f1 := fun i hi => hp i (by omega)
    have r0 : 0 ≤ (ra % 8) ∧ (ra % 8) ≤ 7 := by omega
    have h1 := blurR_ok (f := f1) (r := 0) hv (by omega)
    have h2 := blurR_ok (f := f1) (r := (ra % 8)) hv (by omega)
    have h3 := print_none (t := t) (f := f) hv
    obtain ⟨z1, z2, z3, z4, z5, z6⟩ := print_steps (t := t) (bl := 0) (f := f) hv
    have h4 := blur_none hv hpn
    refine gc_skip ?_
    refine gq_next ?_
    refine gc_seq ?_
    refine gc_region ?_
    refine ne (eo_mv rfl rfl) rfl ?_
    refine ne (eo_remk rfl rfl rfl (by omega) (by omega)) rfl ?_
    refine ne (eo_convi rfl rfl ⟨_, Try.underlying5⟩ Try.underlying3 (by omega) (by omega)) rfl ?_
    refine ne (eo_as rfl rfl) rfl ?_
    refine go_nil ?_
    refine gq_next ?_
    refine gc_seq ?_
    refine gc_draw [] [0, 1, 2, 3, 4, 5, 6, 7, 8, 9] [10] [11] (by kernel_rfl) (by kernel_rfl) ?_
    refine gp_nil ?_
    refine de rfl (eo_field rfl f33_0 rfl) rfl ?_
    refine de rfl (eo_load 0 rfl s3 rfl rfl rfl rfl) rfl ?_
    refine de rfl (eo_field rfl f33_1 rfl) rfl ?_
    refine de rfl (eo_load 0 rfl s3 rfl rfl rfl rfl) rfl ?_
    refine de rfl (eo_mv rfl rfl) rfl ?_
    refine de rfl (eo_field rfl f33_2 rfl) rfl ?_
    refine de rfl (eo_load 0 rfl s31 rfl rfl rfl rfl) rfl ?_
    refine de rfl (eo_len rfl Try.underlying31 rfl) rfl ?_
    refine de rfl (eo_slH rfl sl22 rfl rfl (by omega) (by omega)) rfl ?_
    refine de rfl (eo_build rfl rfl (b24_012 _ _ _ _ _)) rfl ?_
    refine ge_nil ?_
    refine da rfl (xo_alloc rfl z24) rfl ?_
    rintro _ _ ⟨g10, rfl, rfl⟩
    refine ⟨by first | exact (List.Sublist.cons _ (List.Sublist.refl _)) | exact (List.sublist_append_left _ _), ?_⟩
    refine ga_nil ?_
    refine iu rfl (xo_storeA 0 rfl a24 rfl rfl (ones_cons (by first | rfl | exact AS.one) (ones_cons (by first | rfl | exact AS.one) (ones_cons (by first | rfl | exact AS.one) ones_nil))) rfl rfl rfl rfl) ?_
    rintro _ _ ⟨rfl, rfl⟩
    refine gi_nil ?_
    refine gq_nq ?_
    refine gq_next ?_
    refine gc_seq ?_
    refine gc_region ?_
    refine ne (eo_loadA 0 rfl a24 rfl rfl rfl rfl) rfl ?_
    refine nx (xo_freshT rfl en11 rfl (fun W1 hO => blur_x _ _ _ _ _ _ _ W1 (Rd.pre (hr1.old0 hO) (by omega)) (by assumption))) rfl ?_
    rintro _ _ ⟨S56, ⟨A56, k56, rfl, hk56, hS56⟩, rfl⟩
    refine ne (eo_mv rfl rfl) rfl ?_
    refine ne (eo_extract rfl rfl rfl) rfl ?_
    refine ne (eo_extract rfl rfl rfl) rfl ?_
    refine nx (xo_alloc rfl z24) rfl ?_
    rintro _ _ ⟨g11, rfl, rfl⟩
    refine nu (xo_storeA 0 rfl a24 rfl rfl (ones_cons (by first | rfl | exact AS.one) (ones_cons (by first | rfl | exact AS.one) (ones_cons (by first | rfl | exact AS.one) ones_nil))) rfl rfl rfl rfl) ?_
    rintro _ _ ⟨rfl, rfl⟩
    refine ne (eo_as rfl rfl) rfl ?_
    refine go_nil ?_
    refine gq_next ?_
    refine gc_seq ?_
    refine gc_region ?_
    refine ne (eo_loadA 1 rfl a24 rfl rfl rfl rfl) rfl ?_
    refine ne (eo_mv rfl rfl) rfl ?_
    refine nx (xo_freshT rfl en11 rfl (fun W1 hO => blur_x _ _ _ _ _ _ _ W1 (Rd.pre (hr1.old0 hO) (by omega)) (by assumption))) rfl ?_
    rintro _ _ ⟨S62, ⟨A62, k62, rfl, hk62, hS62⟩, rfl⟩
    refine ne (eo_mv rfl rfl) rfl ?_
    refine ne (eo_extract rfl rfl rfl) rfl ?_
    refine ne (eo_extract rfl rfl rfl) rfl ?_
    refine nx (xo_alloc rfl z24) rfl ?_
    rintro _ _ ⟨g13, rfl, rfl⟩
    refine nu (xo_storeA 0 rfl a24 rfl rfl (ones_cons (by first | rfl | exact AS.one) (ones_cons (by first | rfl | exact AS.one) (ones_cons (by first | rfl | exact AS.one) ones_nil))) rfl rfl rfl rfl) ?_
    rintro _ _ ⟨rfl, rfl⟩
    refine ne (eo_as rfl rfl) rfl ?_
    refine go_nil ?_
    refine gq_next ?_
    refine gc_seq ?_
    refine gc_region ?_
    refine ne (eo_loadA 3 rfl a33 rfl rfl rfl rfl) rfl ?_
    refine ne (eo_mv rfl rfl) rfl ?_
    refine ne (eo_build rfl rfl (b54_0 _)) rfl ?_
    refine nx (xo_freshT rfl en26 rfl (fun W1 hO => print_x _ _ _ _ _ _ _ _ _ _ W1 (hr.old0 hO) (by omega) (by omega))) rfl ?_
    rintro _ _ ⟨S69, ⟨A69, k69, rfl, hk69, hS69⟩, rfl⟩
    refine ne (eo_mv rfl rfl) rfl ?_
    refine ne (eo_extract rfl rfl rfl) rfl ?_
    refine ne (eo_extract rfl rfl rfl) rfl ?_
    refine nx (xo_alloc rfl z24) rfl ?_
    rintro _ _ ⟨g15, rfl, rfl⟩
    refine nu (xo_storeA 0 rfl a24 rfl rfl (ones_cons (by first | rfl | exact AS.one) (ones_cons (by first | rfl | exact AS.one) (ones_cons (by first | rfl | exact AS.one) ones_nil))) rfl rfl rfl rfl) ?_
    rintro _ _ ⟨rfl, rfl⟩
    refine ne (eo_as rfl rfl) rfl ?_
    refine go_nil ?_
    refine gq_next ?_
    refine gc_seq ?_
    refine gc_region ?_
    refine ne (eo_loadA 4 rfl a33 rfl rfl rfl rfl) rfl ?_
    refine ne (eo_mv rfl rfl) rfl ?_
    refine nx (xo_freshT rfl en28 rfl (fun W1 hO => turn_x _ _ _ _ _ _ _ W1 (hr.old0 hO) )) rfl ?_
    rintro _ _ ⟨S75, ⟨A75, k75, rfl, hk75, hS75⟩, rfl⟩
    refine ne (eo_mv rfl rfl) rfl ?_
    refine ne (eo_extract rfl rfl rfl) rfl ?_
    refine ne (eo_extract rfl rfl rfl) rfl ?_
    refine nx (xo_alloc rfl z33) rfl ?_
    rintro _ _ ⟨g17, rfl, rfl⟩
    refine nu (xo_storeA 0 rfl a33 rfl rfl (ones_cons (by first | rfl | exact AS.one) (ones_cons (by first | rfl | exact AS.one) (ones_cons (by first | rfl | exact AS.one) ones_nil))) rfl rfl rfl rfl) ?_
    rintro _ _ ⟨rfl, rfl⟩
    refine ne (eo_as rfl rfl) rfl ?_
    refine go_nil ?_
    refine gq_next ?_
    refine gc_seq ?_
    refine gc_region ?_
    refine ne (eo_loadA 0 rfl a33 rfl rfl rfl rfl) rfl ?_
    refine nx (xo_freshT rfl en29 rfl (fun W1 hO => gray_x _ _ _ _ _ _ W1 (hS75.rd (hO.tl 6 rfl (List.sublist_append_right _ _))) )) rfl ?_
    rintro _ _ ⟨S80, ⟨A80, k80, rfl, hk80, hS80⟩, rfl⟩
    refine ne (eo_mv rfl rfl) rfl ?_
    refine ne (eo_extract rfl rfl rfl) rfl ?_
    refine ne (eo_extract rfl rfl rfl) rfl ?_
    refine nx (xo_alloc rfl z24) rfl ?_
    rintro _ _ ⟨g19, rfl, rfl⟩
    refine nu (xo_storeA 0 rfl a24 rfl rfl (ones_cons (by first | rfl | exact AS.one) (ones_cons (by first | rfl | exact AS.one) (ones_cons (by first | rfl | exact AS.one) ones_nil))) rfl rfl rfl rfl) ?_
    rintro _ _ ⟨rfl, rfl⟩
    refine ne (eo_as rfl rfl) rfl ?_
    refine go_nil ?_
    refine gq_next ?_
    refine gc_seq ?_
    refine gc_seq ?_
    refine gc_region ?_
    refine ne (eo_mv rfl rfl) rfl ?_
    refine ne (eo_neq rfl rfl rfl) rfl ?_
    refine ne (eo_mv rfl rfl) rfl ?_
    refine ng rfl rfl (fun h => eo_mv rfl rfl) rfl ?_
    refine ng rfl rfl (fun h => eo_neq rfl (ev_if h rfl) rfl) rfl ?_
    refine ne (eo_or rfl rfl (fun hb => ev_if hb rfl)) rfl ?_
    refine ne (eo_mv rfl rfl) rfl ?_
    refine ng rfl rfl (fun h => eo_mv rfl rfl) rfl ?_
    refine ng rfl rfl (fun h => eo_neq rfl (ev_if h rfl) rfl) rfl ?_
    refine ne (eo_or rfl rfl (fun hb => ev_if hb rfl)) rfl ?_
    refine ne (eo_mv rfl rfl) rfl ?_
    refine ng rfl rfl (fun h => eo_mv rfl rfl) rfl ?_
    refine ng rfl rfl (fun h => eo_neq rfl (ev_if h rfl) rfl) rfl ?_
    refine ne (eo_or rfl rfl (fun hb => ev_if hb rfl)) rfl ?_
    refine ne (eo_mv rfl rfl) rfl ?_
    refine ng rfl rfl (fun h => eo_mv rfl rfl) rfl ?_
    refine ng rfl rfl (fun h => eo_neq rfl (ev_if h rfl) rfl) rfl ?_
    refine ne (eo_or rfl rfl (fun hb => ev_if hb rfl)) rfl ?_
    refine ne (eo_mv rfl rfl) rfl ?_
    refine ng rfl rfl (fun h => eo_loadA 4 rfl a24 rfl rfl rfl rfl) rfl ?_
    refine ng rfl rfl (fun h => eo_loadA 5 rfl a24 rfl rfl rfl rfl) rfl ?_
    refine ng rfl rfl (fun h => eo_call rfl en13 (evs_cons (ev_if h rfl) (evs_cons (ev_if h rfl) evs_nil)) (fun W1 hO => equal43_c _ _ _ _ _ _ _ _ _ _ _ _ W1 (hS56.rd (hO.tl 7 rfl ((((List.sublist_append_left _ _).trans (List.sublist_append_left _ _)).trans (List.sublist_append_left _ _)).trans (List.sublist_append_left _ _)))) (Rd.pre (hr1.old0 hO) (by omega)) (Nat.le_trans blurR_le (by decide)))) rfl ?_
    refine ng rfl rfl (fun h => eo_not rfl (ev_if h rfl)) rfl ?_
    refine ne (eo_or rfl rfl (fun hb => ev_if hb rfl)) rfl ?_
    refine ne (eo_mv rfl rfl) rfl ?_
    refine ng rfl rfl (fun h => eo_loadA 2 rfl a24 rfl rfl rfl rfl) rfl ?_
    refine ng rfl rfl (fun h => eo_loadA 0 rfl a24 rfl rfl rfl rfl) rfl ?_
    refine ng rfl rfl (fun h => eo_call rfl en13 (evs_cons (ev_if h rfl) (evs_cons (ev_if h rfl) evs_nil)) (fun W1 hO => equal43_c _ _ _ _ _ _ _ _ _ _ _ _ W1 (hS69.rd (hO.tl 7 rfl (((List.sublist_append_right _ _).trans (List.sublist_append_left _ _)).trans (List.sublist_append_left _ _)))) (hS80.rd (hO.tl 7 rfl (List.sublist_append_right _ _))) (Nat.le_trans printR_le (by decide)))) rfl ?_
    refine ng rfl rfl (fun h => eo_not rfl (ev_if h rfl)) rfl ?_
    refine ne (eo_or rfl rfl (fun hb => ev_if hb rfl)) rfl ?_
    refine ne (eo_mv rfl rfl) rfl ?_
    refine ng rfl rfl (fun h => eo_field rfl f24_2 rfl) rfl ?_
    refine ng rfl rfl (fun h => eo_load 3 rfl s22 (ev_if h rfl) rfl rfl rfl) rfl ?_
    refine ng rfl rfl (fun h => eo_len rfl Try.underlying22 (ev_if h rfl)) rfl ?_
    refine ng rfl rfl (fun h => eo_field rfl f24_2 rfl) rfl ?_
    refine ng rfl rfl (fun h => eo_load 5 rfl s22 (ev_if h rfl) rfl rfl rfl) rfl ?_
    refine ng rfl rfl (fun h => eo_len rfl Try.underlying22 (ev_if h rfl)) rfl ?_
    refine ng rfl rfl (fun h => eo_neq rfl (ev_if h rfl) (ev_if h rfl)) rfl ?_
    refine ne (eo_or rfl rfl (fun hb => ev_if hb rfl)) rfl ?_
    refine go_nil ?_
    refine gq_next ?_
    refine gc_cond rfl (fun hc1 => ?_) (fun hc1 => ?_)
    ·
      have hd1 := (or_t hc1).imp (fun h => (or_t h).imp (fun h => (or_t h).imp (fun h => (or_t h).imp (fun h => (or_t h).imp (fun h => (or_t h).imp (fun h => (or_t h).imp (fun h => of_decide_eq_true h) (fun h => of_decide_eq_true h)) (fun h => of_decide_eq_true h)) (fun h => of_decide_eq_true h)) (fun h => of_decide_eq_true h)) (fun h => (not_t h))) (fun h => (not_t h))) (fun h => of_decide_eq_true h)
      exact Bool.noConfusion (hc1.symm.trans (show (((((((decide ((blurR ⟨W, H, n, f1⟩ 0).2 ≠ 0) || decide ((blurR ⟨W, H, n, f1⟩ (ra % 8)).2 ≠ 0)) || decide ((printR ⟨W, H, n, f⟩ t 0 0 0).2 ≠ 0)) || decide ((turnR ⟨W, H, n, f⟩ t).2 ≠ 0)) || decide ((grayR (turnR ⟨W, H, n, f⟩ t).1).2 ≠ 0)) || (!(eqP (blurR ⟨W, H, n, f1⟩ 0).1 ⟨W, H, n, f1⟩))) || (!(eqP (printR ⟨W, H, n, f⟩ t 0 0 0).1 (grayR (turnR ⟨W, H, n, f⟩ t).1).1))) || decide ((((blurR ⟨W, H, n, f1⟩ (ra % 8)).1.n : Nat) : Int) ≠ ((n : Nat) : Int))) = false from by rw [h3.2, h3.1, h4, h1, h2, z1, z5]; simp))
    ·
      have hd1 := (or_f hc1).imp (fun h => (or_f h).imp (fun h => (or_f h).imp (fun h => (or_f h).imp (fun h => (or_f h).imp (fun h => (or_f h).imp (fun h => (or_f h).imp (fun h => ne_f h) (fun h => ne_f h)) (fun h => ne_f h)) (fun h => ne_f h)) (fun h => ne_f h)) (fun h => (not_f h))) (fun h => (not_f h))) (fun h => ne_f h)
      have hBn : (blurR ⟨W, H, n, f1⟩ (ra % 8)).1.n = n := by rw [h2]
      have hBf : ∀ j, (blurR ⟨W, H, n, f1⟩ (ra % 8)).1.f j = blurF ⟨W, H, n, f1⟩ (ra % 8) j := fun j => by rw [h2]
      refine gc_skip ?_
      refine gq_next ?_
      refine gc_seq ?_
      refine gc_seq ?_
      refine gc_region ?_
      refine ne (eo_field rfl f24_2 rfl) rfl ?_
      refine ne (eo_load 3 rfl s22 rfl rfl rfl rfl) rfl ?_
      refine ne (eo_len rfl Try.underlying22 rfl) rfl ?_
      refine ne (eo_mv rfl rfl) rfl ?_
      refine go_nil ?_
      refine gq_next ?_
      refine gc_block ?_
      refine loop1 (fun (k : Nat) => k ≤ n) (fun (k : Nat) => n - k) (fun (k : Nat) => [(4, .pointer (some ⟨g4, 0, none⟩)), (9, .int .i64 (ra % 8)), (10, .pointer (some ⟨g10, 0, none⟩)), (123, .slice A62 ((blurR ⟨W, H, n, f1⟩ (ra % 8)).1.n) k62), (124, .int .i64 (((blurR ⟨W, H, n, f1⟩ (ra % 8)).1.n : Nat) : Int)), (125, .int .i64 (k : Int))]) (fun (k : Nat) => ⟨g19, 24, [.int .i64 ((grayR (turnR ⟨W, H, n, f⟩ t).1).1.W), .int .i64 ((grayR (turnR ⟨W, H, n, f⟩ t).1).1.H), .slice A80 ((grayR (turnR ⟨W, H, n, f⟩ t).1).1.n) k80]⟩ :: ⟨g17, 33, [.int .i64 ((turnR ⟨W, H, n, f⟩ t).1.W), .int .i64 ((turnR ⟨W, H, n, f⟩ t).1.H), .slice A75 ((turnR ⟨W, H, n, f⟩ t).1.n) k75]⟩ :: ⟨g15, 24, [.int .i64 ((printR ⟨W, H, n, f⟩ t 0 0 0).1.W), .int .i64 ((printR ⟨W, H, n, f⟩ t 0 0 0).1.H), .slice A69 ((printR ⟨W, H, n, f⟩ t 0 0 0).1.n) k69]⟩ :: ⟨g13, 24, [.int .i64 ((blurR ⟨W, H, n, f1⟩ (ra % 8)).1.W), .int .i64 ((blurR ⟨W, H, n, f1⟩ (ra % 8)).1.H), .slice A62 ((blurR ⟨W, H, n, f1⟩ (ra % 8)).1.n) k62]⟩ :: ⟨g11, 24, [.int .i64 ((blurR ⟨W, H, n, f1⟩ 0).1.W), .int .i64 ((blurR ⟨W, H, n, f1⟩ 0).1.H), .slice A56 ((blurR ⟨W, H, n, f1⟩ 0).1.n) k56]⟩ :: ⟨g10, 24, [.int .i64 W, .int .i64 H, .slice A1 n c1]⟩ :: ⟨g4, 33, [.int .i64 W, .int .i64 H, .slice A n c]⟩ :: ((((S56 ++ S62) ++ S69) ++ S75) ++ S80)) 0 (by omega) ⟨rfl, rfl, rfl, rfl, rfl, rfl, trivial⟩ (List.Sublist.refl _) ?_
      intro k hI
      refine gc_seq ?_
      refine gc_region ?_
      refine ne (eo_lss rfl rfl rfl) rfl ?_
      refine go_nil ?_
      refine gq_next ?_
      refine gc_seq ?_
      refine gc_cond rfl (fun hc2 => ?_) (fun hc2 => ?_)
      ·
        replace hc2 := of_decide_eq_true hc2
        obtain ⟨a0, a1, a2, a3, a4⟩ := cell_bd hv (show k < n by omega)
        refine gc_skip ?_
        refine gq_next ?_
        refine gc_seq ?_
        refine gc_block ?_
        refine gc_seq ?_
        refine gc_region ?_
        refine ne (eo_mv rfl rfl) rfl ?_
        refine ne (eo_indexS rfl sl22 rfl rfl (fun W1 hO => (hS62.rd (hO.tl 7 rfl ((((List.sublist_append_right _ _).trans (List.sublist_append_left _ _)).trans (List.sublist_append_left _ _)).trans (List.sublist_append_left _ _))))) (by simp) (by omega) (by omega)) rfl ?_
        refine ne (eo_loadS rfl s5 rfl (fun W1 hO => Rd.tabi (hS62.rd (hO.tl 7 rfl ((((List.sublist_append_right _ _).trans (List.sublist_append_left _ _)).trans (List.sublist_append_left _ _)).trans (List.sublist_append_left _ _)))) (by omega))) rfl ?_
        refine ne (eo_as rfl rfl) rfl ?_
        refine ne (eo_as rfl rfl) rfl ?_
        refine go_nil ?_
        refine gq_next ?_
        refine gc_seq ?_
        refine gc_draw [] [0, 1, 2, 3, 4, 5, 6, 7, 8, 9] [] [] (by kernel_rfl) (by kernel_rfl) ?_
        refine gp_nil ?_
        refine de rfl (eo_mv rfl rfl) rfl ?_
        refine de rfl (eo_field rfl f33_0 rfl) rfl ?_
        refine de rfl (eo_load 6 rfl s3 rfl rfl rfl rfl) rfl ?_
        refine de rfl (eo_rem rfl rfl rfl (by omega) (by omega)) rfl ?_
        refine de rfl (eo_mv rfl rfl) rfl ?_
        refine de rfl (eo_field rfl f33_0 rfl) rfl ?_
        refine de rfl (eo_load 6 rfl s3 rfl rfl rfl rfl) rfl ?_
        refine de rfl (eo_quo rfl rfl rfl (by omega) (by omega) (by omega)) rfl ?_
        refine de rfl (eo_as rfl rfl) rfl ?_
        refine de rfl (eo_as rfl rfl) rfl ?_
        refine ge_nil ?_
        refine ga_nil ?_
        refine gi_nil ?_
        refine gq_nq ?_
        refine gq_next ?_
        refine gc_seq ?_
        refine gc_region ?_
        refine ne (eo_as rfl rfl) rfl ?_
        refine ne (eo_as rfl rfl) rfl ?_
        refine go_nil ?_
        refine gq_next ?_
        refine gc_seq ?_
        refine gc_seq ?_
        refine gc_region ?_
        refine ne (eo_mv rfl rfl) rfl ?_
        refine ne (eo_mv rfl rfl) rfl ?_
        refine ne (eo_lss rfl rfl rfl) rfl ?_
        refine ne (eo_mv rfl rfl) rfl ?_
        refine ng rfl rfl (fun h => eo_mv rfl rfl) rfl ?_
        refine ng rfl rfl (fun h => eo_mv rfl rfl) rfl ?_
        refine ng rfl rfl (fun h => eo_lss rfl (ev_if h rfl) (ev_if h rfl)) rfl ?_
        refine ne (eo_or rfl rfl (fun hb => ev_if hb rfl)) rfl ?_
        refine ne (eo_mv rfl rfl) rfl ?_
        refine ng rfl rfl (fun h => eo_mv rfl rfl) rfl ?_
        refine ng rfl rfl (fun h => eo_mv rfl rfl) rfl ?_
        refine ng rfl rfl (fun h => eo_add rfl (ev_if h rfl) (ev_if h rfl) (by have hg0 := (or_f h).imp (fun h => of_decide_eq_false h) (fun h => of_decide_eq_false h); omega) (by have hg0 := (or_f h).imp (fun h => of_decide_eq_false h) (fun h => of_decide_eq_false h); omega)) rfl ?_
        refine ng rfl rfl (fun h => eo_field rfl f33_0 rfl) rfl ?_
        refine ng rfl rfl (fun h => eo_load 6 rfl s3 (ev_if h rfl) rfl rfl rfl) rfl ?_
        refine ng rfl rfl (fun h => eo_geq rfl (ev_if h rfl) (ev_if h rfl)) rfl ?_
        refine ne (eo_or rfl rfl (fun hb => ev_if hb rfl)) rfl ?_
        refine ne (eo_mv rfl rfl) rfl ?_
        refine ng rfl rfl (fun h => eo_mv rfl rfl) rfl ?_
        refine ng rfl rfl (fun h => eo_mv rfl rfl) rfl ?_
        refine ng rfl rfl (fun h => eo_add rfl (ev_if h rfl) (ev_if h rfl) (by have hg0 := (or_f h).imp (fun h => (or_f h).imp (fun h => of_decide_eq_false h) (fun h => of_decide_eq_false h)) (fun h => of_decide_eq_false h); omega) (by have hg0 := (or_f h).imp (fun h => (or_f h).imp (fun h => of_decide_eq_false h) (fun h => of_decide_eq_false h)) (fun h => of_decide_eq_false h); omega)) rfl ?_
        refine ng rfl rfl (fun h => eo_field rfl f33_1 rfl) rfl ?_
        refine ng rfl rfl (fun h => eo_load 6 rfl s3 (ev_if h rfl) rfl rfl rfl) rfl ?_
        refine ng rfl rfl (fun h => eo_geq rfl (ev_if h rfl) (ev_if h rfl)) rfl ?_
        refine ne (eo_or rfl rfl (fun hb => ev_if hb rfl)) rfl ?_
        refine go_nil ?_
        refine gq_next ?_
        refine gc_cond rfl (fun hc3 => ?_) (fun hc3 => ?_)
        ·
          have hd3 := (or_t hc3).imp (fun h => (or_t h).imp (fun h => (or_t h).imp (fun h => of_decide_eq_true h) (fun h => of_decide_eq_true h)) (fun h => of_decide_eq_true h)) (fun h => of_decide_eq_true h)
          refine gc_region ?_
          refine ne (eo_as rfl rfl) rfl ?_
          refine go_nil ?_
          refine gq_next ?_
          refine gc_seq ?_
          refine gc_seq ?_
          refine gc_region ?_
          refine ne (eo_mv rfl rfl) rfl ?_
          refine ne (eo_mv rfl rfl) rfl ?_
          refine ne (eo_sub rfl rfl rfl (by omega) (by omega)) rfl ?_
          refine ne (eo_max rfl rfl rfl) rfl ?_
          refine ne (eo_as rfl rfl) rfl ?_
          refine go_nil ?_
          refine gq_next ?_
          refine gc_block ?_
          refine loop3 (fun (d : Int) (lo : Int) (hi : Int) => mI f1 W H ((k : Int) % W) ((k : Int) / W) (ra % 8) lo hi d ∧ max 0 (((k : Int) / W) - (ra % 8)) ≤ d ∧ d ≤ min (H - 1) (((k : Int) / W) + (ra % 8)) + 1) (fun (d : Int) (lo : Int) (hi : Int) => (min (H - 1) (((k : Int) / W) + (ra % 8)) + 1 - d).toNat) (fun (d : Int) (lo : Int) (hi : Int) => [(4, .pointer (some ⟨g4, 0, none⟩)), (9, .int .i64 (ra % 8)), (10, .pointer (some ⟨g10, 0, none⟩)), (22, .int .u8 (((blurR ⟨W, H, n, f1⟩ (ra % 8)).1.f) (k))), (23, .int .i64 ((k : Int) % W)), (24, .int .i64 ((k : Int) / W)), (25, .int .u8 lo), (26, .int .u8 hi), (27, .int .i64 d), (123, .slice A62 ((blurR ⟨W, H, n, f1⟩ (ra % 8)).1.n) k62), (124, .int .i64 (((blurR ⟨W, H, n, f1⟩ (ra % 8)).1.n : Nat) : Int)), (125, .int .i64 (k : Int))]) (fun (d : Int) (lo : Int) (hi : Int) => ⟨g19, 24, [.int .i64 ((grayR (turnR ⟨W, H, n, f⟩ t).1).1.W), .int .i64 ((grayR (turnR ⟨W, H, n, f⟩ t).1).1.H), .slice A80 ((grayR (turnR ⟨W, H, n, f⟩ t).1).1.n) k80]⟩ :: ⟨g17, 33, [.int .i64 ((turnR ⟨W, H, n, f⟩ t).1.W), .int .i64 ((turnR ⟨W, H, n, f⟩ t).1.H), .slice A75 ((turnR ⟨W, H, n, f⟩ t).1.n) k75]⟩ :: ⟨g15, 24, [.int .i64 ((printR ⟨W, H, n, f⟩ t 0 0 0).1.W), .int .i64 ((printR ⟨W, H, n, f⟩ t 0 0 0).1.H), .slice A69 ((printR ⟨W, H, n, f⟩ t 0 0 0).1.n) k69]⟩ :: ⟨g13, 24, [.int .i64 ((blurR ⟨W, H, n, f1⟩ (ra % 8)).1.W), .int .i64 ((blurR ⟨W, H, n, f1⟩ (ra % 8)).1.H), .slice A62 ((blurR ⟨W, H, n, f1⟩ (ra % 8)).1.n) k62]⟩ :: ⟨g11, 24, [.int .i64 ((blurR ⟨W, H, n, f1⟩ 0).1.W), .int .i64 ((blurR ⟨W, H, n, f1⟩ 0).1.H), .slice A56 ((blurR ⟨W, H, n, f1⟩ 0).1.n) k56]⟩ :: ⟨g10, 24, [.int .i64 W, .int .i64 H, .slice A1 n c1]⟩ :: ⟨g4, 33, [.int .i64 W, .int .i64 H, .slice A n c]⟩ :: ((((S56 ++ S62) ++ S69) ++ S75) ++ S80)) (max 0 (((k : Int) / W) - (ra % 8))) 255 255 ⟨mI_new (fun h => rfl) (by omega) (by omega), by omega, by omega⟩ ⟨rfl, rfl, rfl, rfl, rfl, rfl, rfl, rfl, rfl, rfl, rfl, rfl, trivial⟩ (List.Sublist.refl _) ?_
          rintro d lo hi ⟨hI, hd0, hd1⟩
          have hlo := hI.1
          refine gc_seq ?_
          refine gc_seq ?_
          refine gc_region ?_
          refine ne (eo_mv rfl rfl) rfl ?_
          refine ne (eo_field rfl f33_1 rfl) rfl ?_
          refine ne (eo_load 6 rfl s3 rfl rfl rfl rfl) rfl ?_
          refine ne (eo_sub rfl rfl rfl (by omega) (by omega)) rfl ?_
          refine ne (eo_mv rfl rfl) rfl ?_
          refine ne (eo_mv rfl rfl) rfl ?_
          refine ne (eo_add rfl rfl rfl (by omega) (by omega)) rfl ?_
          refine ne (eo_min rfl rfl rfl) rfl ?_
          refine ne (eo_leq rfl rfl rfl) rfl ?_
          refine go_nil ?_
          refine gq_next ?_
          refine gc_cond rfl (fun hc4 => ?_) (fun hc4 => ?_)
          ·
            replace hc4 := of_decide_eq_true hc4
            refine gc_skip ?_
            refine gq_next ?_
            refine gc_seq ?_
            refine gc_block ?_
            refine gc_seq ?_
            refine gc_region ?_
            refine ne (eo_mv rfl rfl) rfl ?_
            refine ne (eo_mv rfl rfl) rfl ?_
            refine ne (eo_sub rfl rfl rfl (by omega) (by omega)) rfl ?_
            refine ne (eo_max rfl rfl rfl) rfl ?_
            refine ne (eo_as rfl rfl) rfl ?_
            refine go_nil ?_
            refine gq_next ?_
            refine gc_block ?_
            refine loop3 (fun (cq : Int) (lo : Int) (hi : Int) => mJ f1 W H ((k : Int) % W) ((k : Int) / W) (ra % 8) lo hi d cq ∧ max 0 (((k : Int) % W) - (ra % 8)) ≤ cq ∧ cq ≤ min (W - 1) (((k : Int) % W) + (ra % 8)) + 1) (fun (cq : Int) (lo : Int) (hi : Int) => (min (W - 1) (((k : Int) % W) + (ra % 8)) + 1 - cq).toNat) (fun (cq : Int) (lo : Int) (hi : Int) => [(4, .pointer (some ⟨g4, 0, none⟩)), (9, .int .i64 (ra % 8)), (10, .pointer (some ⟨g10, 0, none⟩)), (22, .int .u8 (((blurR ⟨W, H, n, f1⟩ (ra % 8)).1.f) (k))), (23, .int .i64 ((k : Int) % W)), (24, .int .i64 ((k : Int) / W)), (25, .int .u8 lo), (26, .int .u8 hi), (27, .int .i64 d), (28, .int .i64 cq), (123, .slice A62 ((blurR ⟨W, H, n, f1⟩ (ra % 8)).1.n) k62), (124, .int .i64 (((blurR ⟨W, H, n, f1⟩ (ra % 8)).1.n : Nat) : Int)), (125, .int .i64 (k : Int))]) (fun (cq : Int) (lo : Int) (hi : Int) => ⟨g19, 24, [.int .i64 ((grayR (turnR ⟨W, H, n, f⟩ t).1).1.W), .int .i64 ((grayR (turnR ⟨W, H, n, f⟩ t).1).1.H), .slice A80 ((grayR (turnR ⟨W, H, n, f⟩ t).1).1.n) k80]⟩ :: ⟨g17, 33, [.int .i64 ((turnR ⟨W, H, n, f⟩ t).1.W), .int .i64 ((turnR ⟨W, H, n, f⟩ t).1.H), .slice A75 ((turnR ⟨W, H, n, f⟩ t).1.n) k75]⟩ :: ⟨g15, 24, [.int .i64 ((printR ⟨W, H, n, f⟩ t 0 0 0).1.W), .int .i64 ((printR ⟨W, H, n, f⟩ t 0 0 0).1.H), .slice A69 ((printR ⟨W, H, n, f⟩ t 0 0 0).1.n) k69]⟩ :: ⟨g13, 24, [.int .i64 ((blurR ⟨W, H, n, f1⟩ (ra % 8)).1.W), .int .i64 ((blurR ⟨W, H, n, f1⟩ (ra % 8)).1.H), .slice A62 ((blurR ⟨W, H, n, f1⟩ (ra % 8)).1.n) k62]⟩ :: ⟨g11, 24, [.int .i64 ((blurR ⟨W, H, n, f1⟩ 0).1.W), .int .i64 ((blurR ⟨W, H, n, f1⟩ 0).1.H), .slice A56 ((blurR ⟨W, H, n, f1⟩ 0).1.n) k56]⟩ :: ⟨g10, 24, [.int .i64 W, .int .i64 H, .slice A1 n c1]⟩ :: ⟨g4, 33, [.int .i64 W, .int .i64 H, .slice A n c]⟩ :: ((((S56 ++ S62) ++ S69) ++ S75) ++ S80)) (max 0 (((k : Int) % W) - (ra % 8))) lo hi ⟨mJ_new hI, by omega, by omega⟩ ⟨rfl, rfl, rfl, rfl, rfl, rfl, rfl, rfl, rfl, rfl, rfl, rfl, rfl, trivial⟩ (List.Sublist.refl _) ?_
            rintro cq lo hi ⟨hJ, hc0, hc1⟩
            have hlo := hJ.1.1
            refine gc_seq ?_
            refine gc_seq ?_
            refine gc_region ?_
            refine ne (eo_mv rfl rfl) rfl ?_
            refine ne (eo_field rfl f33_0 rfl) rfl ?_
            refine ne (eo_load 6 rfl s3 rfl rfl rfl rfl) rfl ?_
            refine ne (eo_sub rfl rfl rfl (by omega) (by omega)) rfl ?_
            refine ne (eo_mv rfl rfl) rfl ?_
            refine ne (eo_mv rfl rfl) rfl ?_
            refine ne (eo_add rfl rfl rfl (by omega) (by omega)) rfl ?_
            refine ne (eo_min rfl rfl rfl) rfl ?_
            refine ne (eo_leq rfl rfl rfl) rfl ?_
            refine go_nil ?_
            refine gq_next ?_
            refine gc_cond rfl (fun hc5 => ?_) (fun hc5 => ?_)
            ·
              replace hc5 := of_decide_eq_true hc5
              have hid := idx_bd (W := W) (H := H) (x := cq) (y := d) (by omega) (by omega) (by omega) (by omega)
              have hpx := hpn (d * W + cq).toNat (by omega)
              refine gc_skip ?_
              refine gq_next ?_
              refine gc_seq ?_
              refine gc_block ?_
              refine gc_seq ?_
              refine gc_region ?_
              refine ne (eo_mv rfl rfl) rfl ?_
              refine ne (eo_field rfl f24_2 rfl) rfl ?_
              refine ne (eo_load 5 rfl s22 rfl rfl rfl rfl) rfl ?_
              refine ne (eo_mv rfl rfl) rfl ?_
              refine ne (eo_field rfl f33_0 rfl) rfl ?_
              refine ne (eo_load 6 rfl s3 rfl rfl rfl rfl) rfl ?_
              refine ne (eo_mul rfl rfl rfl (by omega) (by omega)) rfl ?_
              refine ne (eo_mv rfl rfl) rfl ?_
              refine ne (eo_add rfl rfl rfl (by omega) (by omega)) rfl ?_
              refine ne (eo_indexR rfl sl22 rfl rfl (Rd.pre (k := n) hr1 (by omega)) (by simp) (by omega) (by omega)) rfl ?_
              refine ne (eo_load_old rfl s5 rfl (Rd.tabi hr1 (by omega)) (by simp)) rfl ?_
              refine ne (eo_min rfl rfl rfl) rfl ?_
              refine ne (eo_as rfl rfl) rfl ?_
              refine go_nil ?_
              refine gq_next ?_
              refine gc_region ?_
              refine ne (eo_mv rfl rfl) rfl ?_
              refine ne (eo_field rfl f24_2 rfl) rfl ?_
              refine ne (eo_load 5 rfl s22 rfl rfl rfl rfl) rfl ?_
              refine ne (eo_mv rfl rfl) rfl ?_
              refine ne (eo_field rfl f33_0 rfl) rfl ?_
              refine ne (eo_load 6 rfl s3 rfl rfl rfl rfl) rfl ?_
              refine ne (eo_mul rfl rfl rfl (by omega) (by omega)) rfl ?_
              refine ne (eo_mv rfl rfl) rfl ?_
              refine ne (eo_add rfl rfl rfl (by omega) (by omega)) rfl ?_
              refine ne (eo_indexR rfl sl22 rfl rfl (Rd.pre (k := n) hr1 (by omega)) (by simp) (by omega) (by omega)) rfl ?_
              refine ne (eo_load_old rfl s5 rfl (Rd.tabi hr1 (by omega)) (by simp)) rfl ?_
              refine ne (eo_max rfl rfl rfl) rfl ?_
              refine ne (eo_as rfl rfl) rfl ?_
              refine go_nil ?_
              refine gq_block_end ?_
              refine gq_next ?_
              refine gc_region ?_
              refine ne (eo_mv rfl rfl) rfl ?_
              refine ne (eo_add rfl rfl rfl (by omega) (by omega)) rfl ?_
              refine ne (eo_as rfl rfl) rfl ?_
              refine go_nil ?_
              exact round3 (cq + 1) (min lo (f1 ((((d * W) + cq)).toNat))) (max hi (f1 ((((d * W) + cq)).toNat))) ⟨mJ_step hJ rfl hpx.1 hpx.2, by omega, by omega⟩ (by omega) ⟨rfl, rfl, rfl, rfl, rfl, rfl, rfl, rfl, rfl, rfl, rfl, rfl, rfl, trivial⟩ (List.Sublist.refl _)
            ·
              replace hc5 := of_decide_eq_false hc5
              refine gc_exit ?_
              refine gq_then_exit ?_
              refine gq_then_exit ?_
              refine gq_block_hit ?_
              refine gq_block_end ?_
              refine gq_next ?_
              refine gc_region ?_
              refine ne (eo_mv rfl rfl) rfl ?_
              refine ne (eo_add rfl rfl rfl (by omega) (by omega)) rfl ?_
              refine ne (eo_as rfl rfl) rfl ?_
              refine go_nil ?_
              exact round3 (d + 1) lo hi ⟨mI_step hJ (by omega), by omega, by omega⟩ (by omega) ⟨rfl, rfl, rfl, rfl, rfl, rfl, rfl, rfl, rfl, rfl, rfl, rfl, trivial⟩ (List.Sublist.refl _)
          ·
            replace hc4 := of_decide_eq_false hc4
            refine gc_exit ?_
            refine gq_then_exit ?_
            refine gq_then_exit ?_
            refine gq_block_hit ?_
            refine gq_next ?_
            refine gc_seq ?_
            refine gc_region ?_
            refine ne (eo_mv rfl rfl) rfl ?_
            refine ne (eo_mv rfl rfl) rfl ?_
            refine ne (eo_lss rfl rfl rfl) rfl ?_
            refine ne (eo_mv rfl rfl) rfl ?_
            refine ng rfl rfl (fun h => eo_mv rfl rfl) rfl ?_
            refine ng rfl rfl (fun h => eo_mv rfl rfl) rfl ?_
            refine ng rfl rfl (fun h => eo_gtr rfl (ev_if h rfl) (ev_if h rfl)) rfl ?_
            refine ne (eo_or rfl rfl (fun hb => ev_if hb rfl)) rfl ?_
            refine go_nil ?_
            refine gq_next ?_
            refine gc_cond rfl (fun hc6 => ?_) (fun hc6 => ?_)
            ·
              have hd6 := (or_t hc6).imp (fun h => of_decide_eq_true h) (fun h => of_decide_eq_true h)
              exfalso
              have hm := mI_mean hI hv r0.1 a0 a1 a2 a3 (by omega)
              have hb := hBf k
              have hb2 : blurF ⟨W, H, n, f1⟩ (ra % 8) k = meanI (ra % 8) (boxAt (sh n f1) W H ((k : Int) % W) ((k : Int) / W) (ra % 8) (ra % 8)) := rfl
              have hb3 : (blurR ⟨W, H, n, f1⟩ (ra % 8)).1.f (k : Int).toNat = (blurR ⟨W, H, n, f1⟩ (ra % 8)).1.f k := rfl
              omega
            ·
              have hd6 := (or_f hc6).imp (fun h => of_decide_eq_false h) (fun h => of_decide_eq_false h)
              refine gc_skip ?_
              refine gq_block_end ?_
              refine gq_next ?_
              refine gc_region ?_
              refine ne (eo_add rfl rfl rfl (by omega) (by omega)) rfl ?_
              refine ne (eo_mv rfl rfl) rfl ?_
              refine go_nil ?_
              exact round1 (k + 1) (by omega) (by omega) ⟨rfl, rfl, rfl, rfl, rfl, rfl, trivial⟩ (List.Sublist.refl _)
        ·
          have hd3 := (or_f hc3).imp (fun h => (or_f h).imp (fun h => (or_f h).imp (fun h => of_decide_eq_false h) (fun h => of_decide_eq_false h)) (fun h => of_decide_eq_false h)) (fun h => of_decide_eq_false h)
          refine gc_skip ?_
          refine gq_next ?_
          refine gc_seq ?_
          refine gc_seq ?_
          refine gc_region ?_
          refine ne (eo_mv rfl rfl) rfl ?_
          refine ne (eo_mv rfl rfl) rfl ?_
          refine ne (eo_sub rfl rfl rfl (by omega) (by omega)) rfl ?_
          refine ne (eo_max rfl rfl rfl) rfl ?_
          refine ne (eo_as rfl rfl) rfl ?_
          refine go_nil ?_
          refine gq_next ?_
          refine gc_block ?_
          refine loop3 (fun (d : Int) (lo : Int) (hi : Int) => mI f1 W H ((k : Int) % W) ((k : Int) / W) (ra % 8) lo hi d ∧ max 0 (((k : Int) / W) - (ra % 8)) ≤ d ∧ d ≤ min (H - 1) (((k : Int) / W) + (ra % 8)) + 1) (fun (d : Int) (lo : Int) (hi : Int) => (min (H - 1) (((k : Int) / W) + (ra % 8)) + 1 - d).toNat) (fun (d : Int) (lo : Int) (hi : Int) => [(4, .pointer (some ⟨g4, 0, none⟩)), (9, .int .i64 (ra % 8)), (10, .pointer (some ⟨g10, 0, none⟩)), (22, .int .u8 (((blurR ⟨W, H, n, f1⟩ (ra % 8)).1.f) (k))), (23, .int .i64 ((k : Int) % W)), (24, .int .i64 ((k : Int) / W)), (25, .int .u8 lo), (26, .int .u8 hi), (27, .int .i64 d), (123, .slice A62 ((blurR ⟨W, H, n, f1⟩ (ra % 8)).1.n) k62), (124, .int .i64 (((blurR ⟨W, H, n, f1⟩ (ra % 8)).1.n : Nat) : Int)), (125, .int .i64 (k : Int))]) (fun (d : Int) (lo : Int) (hi : Int) => ⟨g19, 24, [.int .i64 ((grayR (turnR ⟨W, H, n, f⟩ t).1).1.W), .int .i64 ((grayR (turnR ⟨W, H, n, f⟩ t).1).1.H), .slice A80 ((grayR (turnR ⟨W, H, n, f⟩ t).1).1.n) k80]⟩ :: ⟨g17, 33, [.int .i64 ((turnR ⟨W, H, n, f⟩ t).1.W), .int .i64 ((turnR ⟨W, H, n, f⟩ t).1.H), .slice A75 ((turnR ⟨W, H, n, f⟩ t).1.n) k75]⟩ :: ⟨g15, 24, [.int .i64 ((printR ⟨W, H, n, f⟩ t 0 0 0).1.W), .int .i64 ((printR ⟨W, H, n, f⟩ t 0 0 0).1.H), .slice A69 ((printR ⟨W, H, n, f⟩ t 0 0 0).1.n) k69]⟩ :: ⟨g13, 24, [.int .i64 ((blurR ⟨W, H, n, f1⟩ (ra % 8)).1.W), .int .i64 ((blurR ⟨W, H, n, f1⟩ (ra % 8)).1.H), .slice A62 ((blurR ⟨W, H, n, f1⟩ (ra % 8)).1.n) k62]⟩ :: ⟨g11, 24, [.int .i64 ((blurR ⟨W, H, n, f1⟩ 0).1.W), .int .i64 ((blurR ⟨W, H, n, f1⟩ 0).1.H), .slice A56 ((blurR ⟨W, H, n, f1⟩ 0).1.n) k56]⟩ :: ⟨g10, 24, [.int .i64 W, .int .i64 H, .slice A1 n c1]⟩ :: ⟨g4, 33, [.int .i64 W, .int .i64 H, .slice A n c]⟩ :: ((((S56 ++ S62) ++ S69) ++ S75) ++ S80)) (max 0 (((k : Int) / W) - (ra % 8))) 255 0 ⟨mI_new (fun h => absurd h (by omega)) (by omega) (by omega), by omega, by omega⟩ ⟨rfl, rfl, rfl, rfl, rfl, rfl, rfl, rfl, rfl, rfl, rfl, rfl, trivial⟩ (List.Sublist.refl _) ?_
          rintro d lo hi ⟨hI, hd0, hd1⟩
          have hlo := hI.1
          refine gc_seq ?_
          refine gc_seq ?_
          refine gc_region ?_
          refine ne (eo_mv rfl rfl) rfl ?_
          refine ne (eo_field rfl f33_1 rfl) rfl ?_
          refine ne (eo_load 6 rfl s3 rfl rfl rfl rfl) rfl ?_
          refine ne (eo_sub rfl rfl rfl (by omega) (by omega)) rfl ?_
          refine ne (eo_mv rfl rfl) rfl ?_
          refine ne (eo_mv rfl rfl) rfl ?_
          refine ne (eo_add rfl rfl rfl (by omega) (by omega)) rfl ?_
          refine ne (eo_min rfl rfl rfl) rfl ?_
          refine ne (eo_leq rfl rfl rfl) rfl ?_
          refine go_nil ?_
          refine gq_next ?_
          refine gc_cond rfl (fun hc4 => ?_) (fun hc4 => ?_)
          ·
            replace hc4 := of_decide_eq_true hc4
            refine gc_skip ?_
            refine gq_next ?_
            refine gc_seq ?_
            refine gc_block ?_
            refine gc_seq ?_
            refine gc_region ?_
            refine ne (eo_mv rfl rfl) rfl ?_
            refine ne (eo_mv rfl rfl) rfl ?_
            refine ne (eo_sub rfl rfl rfl (by omega) (by omega)) rfl ?_
            refine ne (eo_max rfl rfl rfl) rfl ?_
            refine ne (eo_as rfl rfl) rfl ?_
            refine go_nil ?_
            refine gq_next ?_
            refine gc_block ?_
            refine loop3 (fun (cq : Int) (lo : Int) (hi : Int) => mJ f1 W H ((k : Int) % W) ((k : Int) / W) (ra % 8) lo hi d cq ∧ max 0 (((k : Int) % W) - (ra % 8)) ≤ cq ∧ cq ≤ min (W - 1) (((k : Int) % W) + (ra % 8)) + 1) (fun (cq : Int) (lo : Int) (hi : Int) => (min (W - 1) (((k : Int) % W) + (ra % 8)) + 1 - cq).toNat) (fun (cq : Int) (lo : Int) (hi : Int) => [(4, .pointer (some ⟨g4, 0, none⟩)), (9, .int .i64 (ra % 8)), (10, .pointer (some ⟨g10, 0, none⟩)), (22, .int .u8 (((blurR ⟨W, H, n, f1⟩ (ra % 8)).1.f) (k))), (23, .int .i64 ((k : Int) % W)), (24, .int .i64 ((k : Int) / W)), (25, .int .u8 lo), (26, .int .u8 hi), (27, .int .i64 d), (28, .int .i64 cq), (123, .slice A62 ((blurR ⟨W, H, n, f1⟩ (ra % 8)).1.n) k62), (124, .int .i64 (((blurR ⟨W, H, n, f1⟩ (ra % 8)).1.n : Nat) : Int)), (125, .int .i64 (k : Int))]) (fun (cq : Int) (lo : Int) (hi : Int) => ⟨g19, 24, [.int .i64 ((grayR (turnR ⟨W, H, n, f⟩ t).1).1.W), .int .i64 ((grayR (turnR ⟨W, H, n, f⟩ t).1).1.H), .slice A80 ((grayR (turnR ⟨W, H, n, f⟩ t).1).1.n) k80]⟩ :: ⟨g17, 33, [.int .i64 ((turnR ⟨W, H, n, f⟩ t).1.W), .int .i64 ((turnR ⟨W, H, n, f⟩ t).1.H), .slice A75 ((turnR ⟨W, H, n, f⟩ t).1.n) k75]⟩ :: ⟨g15, 24, [.int .i64 ((printR ⟨W, H, n, f⟩ t 0 0 0).1.W), .int .i64 ((printR ⟨W, H, n, f⟩ t 0 0 0).1.H), .slice A69 ((printR ⟨W, H, n, f⟩ t 0 0 0).1.n) k69]⟩ :: ⟨g13, 24, [.int .i64 ((blurR ⟨W, H, n, f1⟩ (ra % 8)).1.W), .int .i64 ((blurR ⟨W, H, n, f1⟩ (ra % 8)).1.H), .slice A62 ((blurR ⟨W, H, n, f1⟩ (ra % 8)).1.n) k62]⟩ :: ⟨g11, 24, [.int .i64 ((blurR ⟨W, H, n, f1⟩ 0).1.W), .int .i64 ((blurR ⟨W, H, n, f1⟩ 0).1.H), .slice A56 ((blurR ⟨W, H, n, f1⟩ 0).1.n) k56]⟩ :: ⟨g10, 24, [.int .i64 W, .int .i64 H, .slice A1 n c1]⟩ :: ⟨g4, 33, [.int .i64 W, .int .i64 H, .slice A n c]⟩ :: ((((S56 ++ S62) ++ S69) ++ S75) ++ S80)) (max 0 (((k : Int) % W) - (ra % 8))) lo hi ⟨mJ_new hI, by omega, by omega⟩ ⟨rfl, rfl, rfl, rfl, rfl, rfl, rfl, rfl, rfl, rfl, rfl, rfl, rfl, trivial⟩ (List.Sublist.refl _) ?_
            rintro cq lo hi ⟨hJ, hc0, hc1⟩
            have hlo := hJ.1.1
            refine gc_seq ?_
            refine gc_seq ?_
            refine gc_region ?_
            refine ne (eo_mv rfl rfl) rfl ?_
            refine ne (eo_field rfl f33_0 rfl) rfl ?_
            refine ne (eo_load 6 rfl s3 rfl rfl rfl rfl) rfl ?_
            refine ne (eo_sub rfl rfl rfl (by omega) (by omega)) rfl ?_
            refine ne (eo_mv rfl rfl) rfl ?_
            refine ne (eo_mv rfl rfl) rfl ?_
            refine ne (eo_add rfl rfl rfl (by omega) (by omega)) rfl ?_
            refine ne (eo_min rfl rfl rfl) rfl ?_
            refine ne (eo_leq rfl rfl rfl) rfl ?_
            refine go_nil ?_
            refine gq_next ?_
            refine gc_cond rfl (fun hc5 => ?_) (fun hc5 => ?_)
            ·
              replace hc5 := of_decide_eq_true hc5
              have hid := idx_bd (W := W) (H := H) (x := cq) (y := d) (by omega) (by omega) (by omega) (by omega)
              have hpx := hpn (d * W + cq).toNat (by omega)
              refine gc_skip ?_
              refine gq_next ?_
              refine gc_seq ?_
              refine gc_block ?_
              refine gc_seq ?_
              refine gc_region ?_
              refine ne (eo_mv rfl rfl) rfl ?_
              refine ne (eo_field rfl f24_2 rfl) rfl ?_
              refine ne (eo_load 5 rfl s22 rfl rfl rfl rfl) rfl ?_
              refine ne (eo_mv rfl rfl) rfl ?_
              refine ne (eo_field rfl f33_0 rfl) rfl ?_
              refine ne (eo_load 6 rfl s3 rfl rfl rfl rfl) rfl ?_
              refine ne (eo_mul rfl rfl rfl (by omega) (by omega)) rfl ?_
              refine ne (eo_mv rfl rfl) rfl ?_
              refine ne (eo_add rfl rfl rfl (by omega) (by omega)) rfl ?_
              refine ne (eo_indexR rfl sl22 rfl rfl (Rd.pre (k := n) hr1 (by omega)) (by simp) (by omega) (by omega)) rfl ?_
              refine ne (eo_load_old rfl s5 rfl (Rd.tabi hr1 (by omega)) (by simp)) rfl ?_
              refine ne (eo_min rfl rfl rfl) rfl ?_
              refine ne (eo_as rfl rfl) rfl ?_
              refine go_nil ?_
              refine gq_next ?_
              refine gc_region ?_
              refine ne (eo_mv rfl rfl) rfl ?_
              refine ne (eo_field rfl f24_2 rfl) rfl ?_
              refine ne (eo_load 5 rfl s22 rfl rfl rfl rfl) rfl ?_
              refine ne (eo_mv rfl rfl) rfl ?_
              refine ne (eo_field rfl f33_0 rfl) rfl ?_
              refine ne (eo_load 6 rfl s3 rfl rfl rfl rfl) rfl ?_
              refine ne (eo_mul rfl rfl rfl (by omega) (by omega)) rfl ?_
              refine ne (eo_mv rfl rfl) rfl ?_
              refine ne (eo_add rfl rfl rfl (by omega) (by omega)) rfl ?_
              refine ne (eo_indexR rfl sl22 rfl rfl (Rd.pre (k := n) hr1 (by omega)) (by simp) (by omega) (by omega)) rfl ?_
              refine ne (eo_load_old rfl s5 rfl (Rd.tabi hr1 (by omega)) (by simp)) rfl ?_
              refine ne (eo_max rfl rfl rfl) rfl ?_
              refine ne (eo_as rfl rfl) rfl ?_
              refine go_nil ?_
              refine gq_block_end ?_
              refine gq_next ?_
              refine gc_region ?_
              refine ne (eo_mv rfl rfl) rfl ?_
              refine ne (eo_add rfl rfl rfl (by omega) (by omega)) rfl ?_
              refine ne (eo_as rfl rfl) rfl ?_
              refine go_nil ?_
              exact round3 (cq + 1) (min lo (f1 ((((d * W) + cq)).toNat))) (max hi (f1 ((((d * W) + cq)).toNat))) ⟨mJ_step hJ rfl hpx.1 hpx.2, by omega, by omega⟩ (by omega) ⟨rfl, rfl, rfl, rfl, rfl, rfl, rfl, rfl, rfl, rfl, rfl, rfl, rfl, trivial⟩ (List.Sublist.refl _)
            ·
              replace hc5 := of_decide_eq_false hc5
              refine gc_exit ?_
              refine gq_then_exit ?_
              refine gq_then_exit ?_
              refine gq_block_hit ?_
              refine gq_block_end ?_
              refine gq_next ?_
              refine gc_region ?_
              refine ne (eo_mv rfl rfl) rfl ?_
              refine ne (eo_add rfl rfl rfl (by omega) (by omega)) rfl ?_
              refine ne (eo_as rfl rfl) rfl ?_
              refine go_nil ?_
              exact round3 (d + 1) lo hi ⟨mI_step hJ (by omega), by omega, by omega⟩ (by omega) ⟨rfl, rfl, rfl, rfl, rfl, rfl, rfl, rfl, rfl, rfl, rfl, rfl, trivial⟩ (List.Sublist.refl _)
          ·
            replace hc4 := of_decide_eq_false hc4
            refine gc_exit ?_
            refine gq_then_exit ?_
            refine gq_then_exit ?_
            refine gq_block_hit ?_
            refine gq_next ?_
            refine gc_seq ?_
            refine gc_region ?_
            refine ne (eo_mv rfl rfl) rfl ?_
            refine ne (eo_mv rfl rfl) rfl ?_
            refine ne (eo_lss rfl rfl rfl) rfl ?_
            refine ne (eo_mv rfl rfl) rfl ?_
            refine ng rfl rfl (fun h => eo_mv rfl rfl) rfl ?_
            refine ng rfl rfl (fun h => eo_mv rfl rfl) rfl ?_
            refine ng rfl rfl (fun h => eo_gtr rfl (ev_if h rfl) (ev_if h rfl)) rfl ?_
            refine ne (eo_or rfl rfl (fun hb => ev_if hb rfl)) rfl ?_
            refine go_nil ?_
            refine gq_next ?_
            refine gc_cond rfl (fun hc6 => ?_) (fun hc6 => ?_)
            ·
              have hd6 := (or_t hc6).imp (fun h => of_decide_eq_true h) (fun h => of_decide_eq_true h)
              exfalso
              have hm := mI_mean hI hv r0.1 a0 a1 a2 a3 (by omega)
              have hb := hBf k
              have hb2 : blurF ⟨W, H, n, f1⟩ (ra % 8) k = meanI (ra % 8) (boxAt (sh n f1) W H ((k : Int) % W) ((k : Int) / W) (ra % 8) (ra % 8)) := rfl
              have hb3 : (blurR ⟨W, H, n, f1⟩ (ra % 8)).1.f (k : Int).toNat = (blurR ⟨W, H, n, f1⟩ (ra % 8)).1.f k := rfl
              omega
            ·
              have hd6 := (or_f hc6).imp (fun h => of_decide_eq_false h) (fun h => of_decide_eq_false h)
              refine gc_skip ?_
              refine gq_block_end ?_
              refine gq_next ?_
              refine gc_region ?_
              refine ne (eo_add rfl rfl rfl (by omega) (by omega)) rfl ?_
              refine ne (eo_mv rfl rfl) rfl ?_
              refine go_nil ?_
              exact round1 (k + 1) (by omega) (by omega) ⟨rfl, rfl, rfl, rfl, rfl, rfl, trivial⟩ (List.Sublist.refl _)
      ·
        replace hc2 := of_decide_eq_false hc2
        refine gc_exit ?_
        refine gq_then_exit ?_
        refine gq_then_exit ?_
        refine gq_block_hit ?_
        refine gq_next ?_
        refine gc_seq ?_
        refine gc_region ?_
        refine ne (eo_call rfl en10 rfl (fun W1 hO => exam43_c W1  )) rfl ?_
        refine ne (eo_as rfl rfl) rfl ?_
        refine go_nil ?_
        refine gq_next ?_
        refine gc_ret ?_
        refine gq_results (res1 rfl rfl) ?_
        exact fun W1 hO => ⟨rfl, hO.toExt⟩

end Go.Proofs.Ytibooikbbcilcaa
