/-
  The walks of the functions of package morphology and of the document's answer (part P): what each call returns, at every argument.
-/
import Derived.Test.YtmkdfbaklookdaaWG
import Derived.Test.YtmkdfbaklookdaaMs
namespace Go.Proofs.Ytmkdfbaklookdaa
open Go.RowKit Go.Eng

open Go.Bs
theorem lit5m (x0 y0 x1 y1 x2 y2 x3 y3 x4 y4 : Int) (A0 A1 A2 A3 A4 : Option Addr) (n0 c0 n1 c1 n2 c2 n3 c3 n4 c4 : Nat) (W : World) : (Instr.buildSlice 37 5 #[(0, .agg #[.int .i64 x0, .int .i64 y0, .slice A0 n0 c0]), (1, .agg #[.int .i64 x1, .int .i64 y1, .slice A1 n1 c1]), (2, .agg #[.int .i64 x2, .int .i64 y2, .slice A2 n2 c2]), (3, .agg #[.int .i64 x3, .int .i64 y3, .slice A3 n3 c3]), (4, .agg #[.int .i64 x4, .int .i64 y4, .slice A4 n4 c4])]).run Try.prog W = .ok (.slice (some ⟨W.heap.size, 0, none⟩) 5 5) (W.alloc (.cells #[.int .i64 x0, .int .i64 y0, .slice A0 n0 c0, .int .i64 x1, .int .i64 y1, .slice A1 n1 c1, .int .i64 x2, .int .i64 y2, .slice A2 n2 c2, .int .i64 x3, .int .i64 y3, .slice A3 n3 c3, .int .i64 x4, .int .i64 y4, .slice A4 n4 c4] 24)) := by kernel_rfl
theorem sl37 : TySl Try.prog 37 24 3 := ⟨Try.underlying37, by kernel_rfl⟩
theorem en28 : Ent Try.prog 28 := ent_of Try.func28 (by kernel_rfl) rfl
theorem en11 : Ent Try.prog 11 := ent_of Try.func11 (by kernel_rfl) rfl
theorem en16 : Ent Try.prog 16 := ent_of Try.func16 (by kernel_rfl) rfl
theorem en27 : Ent Try.prog 27 := ent_of Try.func27 (by kernel_rfl) rfl

/-- barscan/barscanlaw37.valid -/
theorem valid37_c (W H : Int) (A : Option Addr) (n c : Nat) (f : Nat → Bool) (w : World) (hr : Rd w A (tab n (bv f)))  :
    Calls Try.prog 28 #[.agg #[.int .i64 W, .int .i64 H, .slice A n c]] w (fun e w' => e = .returned (.bool (val37 W H n)) ∧ Ext w w') := by
  refine calls_enter (N := ⟨40, []⟩) [] ([]) Try.func28 rfl rfl rfl (Ow.start _) ?_
  refine gc_seq ?_
  refine gc_region ?_
  refine nx (xo_boxA rfl rfl) rfl ?_
  rintro _ _ ⟨g1, rfl, rfl⟩
  refine ne (eo_as rfl rfl) rfl ?_
  refine go_nil ?_
  refine gq_next ?_
  refine gc_seq ?_
  refine gc_region ?_
  refine ne (eo_field rfl f24_0 rfl) rfl ?_
  refine ne (eo_load 0 rfl s3 rfl rfl rfl rfl) rfl ?_
  refine ne (eo_geq rfl rfl rfl) rfl ?_
  refine ne (eo_mv rfl rfl) rfl ?_
  refine ng rfl rfl (fun h => eo_field rfl f24_0 rfl) rfl ?_
  refine ng rfl rfl (fun h => eo_load 0 rfl s3 (ev_if h rfl) rfl rfl rfl) rfl ?_
  refine ng rfl rfl (fun h => eo_leq rfl (ev_if h rfl) rfl) rfl ?_
  refine ne (eo_and rfl rfl (fun hb => ev_if hb rfl)) rfl ?_
  refine ne (eo_mv rfl rfl) rfl ?_
  refine ng rfl rfl (fun h => eo_field rfl f24_1 rfl) rfl ?_
  refine ng rfl rfl (fun h => eo_load 0 rfl s3 (ev_if h rfl) rfl rfl rfl) rfl ?_
  refine ng rfl rfl (fun h => eo_geq rfl (ev_if h rfl) rfl) rfl ?_
  refine ne (eo_and rfl rfl (fun hb => ev_if hb rfl)) rfl ?_
  refine ne (eo_mv rfl rfl) rfl ?_
  refine ng rfl rfl (fun h => eo_field rfl f24_1 rfl) rfl ?_
  refine ng rfl rfl (fun h => eo_load 0 rfl s3 (ev_if h rfl) rfl rfl rfl) rfl ?_
  refine ng rfl rfl (fun h => eo_leq rfl (ev_if h rfl) rfl) rfl ?_
  refine ne (eo_and rfl rfl (fun hb => ev_if hb rfl)) rfl ?_
  refine ne (eo_mv rfl rfl) rfl ?_
  refine ng rfl rfl (fun h => eo_field rfl f24_0 rfl) rfl ?_
  refine ng rfl rfl (fun h => eo_load 0 rfl s3 (ev_if h rfl) rfl rfl rfl) rfl ?_
  refine ng rfl rfl (fun h => eo_field rfl f24_1 rfl) rfl ?_
  refine ng rfl rfl (fun h => eo_load 0 rfl s3 (ev_if h rfl) rfl rfl rfl) rfl ?_
  refine ng rfl rfl (fun h => eo_mul rfl (ev_if h rfl) (ev_if h rfl) (by have hg0 := (and_t h).imp (fun h => (and_t h).imp (fun h => (and_t h).imp (fun h => of_decide_eq_true h) (fun h => of_decide_eq_true h)) (fun h => of_decide_eq_true h)) (fun h => of_decide_eq_true h); first | omega | (have hm := mul_in (a := W) (b := H) (by omega) (by omega) (by omega) (by omega); omega)) (by have hg0 := (and_t h).imp (fun h => (and_t h).imp (fun h => (and_t h).imp (fun h => of_decide_eq_true h) (fun h => of_decide_eq_true h)) (fun h => of_decide_eq_true h)) (fun h => of_decide_eq_true h); first | omega | (have hm := mul_in (a := W) (b := H) (by omega) (by omega) (by omega) (by omega); omega))) rfl ?_
  refine ng rfl rfl (fun h => eo_leq rfl (ev_if h rfl) rfl) rfl ?_
  refine ne (eo_and rfl rfl (fun hb => ev_if hb rfl)) rfl ?_
  refine ne (eo_mv rfl rfl) rfl ?_
  refine ng rfl rfl (fun h => eo_field rfl f24_2 rfl) rfl ?_
  refine ng rfl rfl (fun h => eo_load 0 rfl s22 (ev_if h rfl) rfl rfl rfl) rfl ?_
  refine ng rfl rfl (fun h => eo_len rfl Try.underlying22 (ev_if h rfl)) rfl ?_
  refine ng rfl rfl (fun h => eo_field rfl f24_0 rfl) rfl ?_
  refine ng rfl rfl (fun h => eo_load 0 rfl s3 (ev_if h rfl) rfl rfl rfl) rfl ?_
  refine ng rfl rfl (fun h => eo_field rfl f24_1 rfl) rfl ?_
  refine ng rfl rfl (fun h => eo_load 0 rfl s3 (ev_if h rfl) rfl rfl rfl) rfl ?_
  refine ng rfl rfl (fun h => eo_mul rfl (ev_if h rfl) (ev_if h rfl) (by have hg0 := (and_t h).imp (fun h => (and_t h).imp (fun h => (and_t h).imp (fun h => (and_t h).imp (fun h => of_decide_eq_true h) (fun h => of_decide_eq_true h)) (fun h => of_decide_eq_true h)) (fun h => of_decide_eq_true h)) (fun h => of_decide_eq_true h); first | omega | (have hm := mul_in (a := W) (b := H) (by omega) (by omega) (by omega) (by omega); omega)) (by have hg0 := (and_t h).imp (fun h => (and_t h).imp (fun h => (and_t h).imp (fun h => (and_t h).imp (fun h => of_decide_eq_true h) (fun h => of_decide_eq_true h)) (fun h => of_decide_eq_true h)) (fun h => of_decide_eq_true h)) (fun h => of_decide_eq_true h); first | omega | (have hm := mul_in (a := W) (b := H) (by omega) (by omega) (by omega) (by omega); omega))) rfl ?_
  refine ng rfl rfl (fun h => eo_eql rfl (ev_if h rfl) (ev_if h rfl)) rfl ?_
  refine ne (eo_and rfl rfl (fun hb => ev_if hb rfl)) rfl ?_
  refine ne (eo_as rfl rfl) rfl ?_
  refine go_nil ?_
  refine gq_next ?_
  refine gc_ret ?_
  refine gq_results (res1 rfl rfl) ?_
  exact fun W1 hO => ⟨ret_bool (by simp [val37, Bool.and_assoc]), hO.toExt⟩

/-- barscan/barscanlaw37.operations -/
theorem opers_c (W H : Int) (A : Option Addr) (n c : Nat) (f : Nat → Bool) (rx : Int) (ry : Int) (w : World) (hr : Rd w A (tab n (bv f))) (hnc : n ≤ c) :
    Calls Try.prog 27 #[.agg #[.int .i64 W, .int .i64 H, .slice A n c], .int .i64 rx, .int .i64 ry] w (fun e w' => ∃ v b S, e = .returned v ∧ ROps 24 (opsM ⟨W, H, n, f⟩ rx ry) v b S ∧ Ow [] w w' (b :: S)) := by
  refine calls_enter (N := ⟨57, []⟩) [] ([]) Try.func27 rfl rfl rfl (Ow.start _) ?_
  refine gc_seq ?_
  refine gc_region ?_
  refine nx (xo_boxA rfl rfl) rfl ?_
  rintro _ _ ⟨g3, rfl, rfl⟩
  refine ne (eo_as rfl rfl) rfl ?_
  refine go_nil ?_
  refine gq_next ?_
  refine gc_seq ?_
  refine gc_region ?_
  refine ne (eo_loadA 0 rfl a24 rfl rfl rfl rfl) rfl ?_
  refine ne (eo_mv rfl rfl) rfl ?_
  refine ne (eo_mv rfl rfl) rfl ?_
  refine nx (xo_freshT rfl en12 rfl (fun W1 hO => erode_x _ _ _ _ _ _ _ _ W1 (hr.old0 hO) hnc)) rfl ?_
  rintro _ _ ⟨S21, ⟨A21, k21, rfl, hk21, hS21⟩, rfl⟩
  refine ne (eo_mv rfl rfl) rfl ?_
  refine ne (eo_extract rfl rfl rfl) rfl ?_
  refine ne (eo_extract rfl rfl rfl) rfl ?_
  refine nx (xo_alloc rfl z24) rfl ?_
  rintro _ _ ⟨g7, rfl, rfl⟩
  refine nu (xo_storeA 0 rfl a24 rfl rfl (ones_cons (by first | rfl | exact AS.one) (ones_cons (by first | rfl | exact AS.one) (ones_cons (by first | rfl | exact AS.one) ones_nil))) rfl rfl rfl rfl) ?_
  rintro _ _ ⟨rfl, rfl⟩
  refine ne (eo_as rfl rfl) rfl ?_
  refine go_nil ?_
  refine gq_next ?_
  refine gc_seq ?_
  refine gc_region ?_
  refine ne (eo_loadA 1 rfl a24 rfl rfl rfl rfl) rfl ?_
  refine ne (eo_mv rfl rfl) rfl ?_
  refine ne (eo_mv rfl rfl) rfl ?_
  refine nx (xo_freshT rfl en14 rfl (fun W1 hO => dilate_x _ _ _ _ _ _ _ _ W1 (hr.old0 hO) hnc)) rfl ?_
  rintro _ _ ⟨S28, ⟨A28, k28, rfl, hk28, hS28⟩, rfl⟩
  refine ne (eo_mv rfl rfl) rfl ?_
  refine ne (eo_extract rfl rfl rfl) rfl ?_
  refine ne (eo_extract rfl rfl rfl) rfl ?_
  refine nx (xo_alloc rfl z24) rfl ?_
  rintro _ _ ⟨g9, rfl, rfl⟩
  refine nu (xo_storeA 0 rfl a24 rfl rfl (ones_cons (by first | rfl | exact AS.one) (ones_cons (by first | rfl | exact AS.one) (ones_cons (by first | rfl | exact AS.one) ones_nil))) rfl rfl rfl rfl) ?_
  rintro _ _ ⟨rfl, rfl⟩
  refine ne (eo_as rfl rfl) rfl ?_
  refine go_nil ?_
  refine gq_next ?_
  refine gc_seq ?_
  refine gc_region ?_
  refine ne (eo_loadA 2 rfl a24 rfl rfl rfl rfl) rfl ?_
  refine ne (eo_mv rfl rfl) rfl ?_
  refine ne (eo_mv rfl rfl) rfl ?_
  refine nx (xo_freshT rfl en18 rfl (fun W1 hO => open_x _ _ _ _ _ _ _ _ W1 (hr.old0 hO) hnc)) rfl ?_
  rintro _ _ ⟨S35, ⟨A35, k35, rfl, hk35, hS35⟩, rfl⟩
  refine ne (eo_mv rfl rfl) rfl ?_
  refine ne (eo_extract rfl rfl rfl) rfl ?_
  refine ne (eo_extract rfl rfl rfl) rfl ?_
  refine nx (xo_alloc rfl z24) rfl ?_
  rintro _ _ ⟨g11, rfl, rfl⟩
  refine nu (xo_storeA 0 rfl a24 rfl rfl (ones_cons (by first | rfl | exact AS.one) (ones_cons (by first | rfl | exact AS.one) (ones_cons (by first | rfl | exact AS.one) ones_nil))) rfl rfl rfl rfl) ?_
  rintro _ _ ⟨rfl, rfl⟩
  refine ne (eo_as rfl rfl) rfl ?_
  refine go_nil ?_
  refine gq_next ?_
  refine gc_seq ?_
  refine gc_region ?_
  refine ne (eo_loadA 3 rfl a24 rfl rfl rfl rfl) rfl ?_
  refine ne (eo_mv rfl rfl) rfl ?_
  refine ne (eo_mv rfl rfl) rfl ?_
  refine nx (xo_freshT rfl en20 rfl (fun W1 hO => close_x _ _ _ _ _ _ _ _ W1 (hr.old0 hO) hnc)) rfl ?_
  rintro _ _ ⟨S42, ⟨A42, k42, rfl, hk42, hS42⟩, rfl⟩
  refine ne (eo_mv rfl rfl) rfl ?_
  refine ne (eo_extract rfl rfl rfl) rfl ?_
  refine ne (eo_extract rfl rfl rfl) rfl ?_
  refine nx (xo_alloc rfl z24) rfl ?_
  rintro _ _ ⟨g13, rfl, rfl⟩
  refine nu (xo_storeA 0 rfl a24 rfl rfl (ones_cons (by first | rfl | exact AS.one) (ones_cons (by first | rfl | exact AS.one) (ones_cons (by first | rfl | exact AS.one) ones_nil))) rfl rfl rfl rfl) ?_
  rintro _ _ ⟨rfl, rfl⟩
  refine ne (eo_as rfl rfl) rfl ?_
  refine go_nil ?_
  refine gq_next ?_
  refine gc_seq ?_
  refine gc_region ?_
  refine ne (eo_loadA 4 rfl a24 rfl rfl rfl rfl) rfl ?_
  refine ne (eo_mv rfl rfl) rfl ?_
  refine nx (xo_freshT rfl en22 rfl (fun W1 hO => maj_x _ _ _ _ _ _ _ W1 (hr.old0 hO) )) rfl ?_
  rintro _ _ ⟨S48, ⟨A48, k48, rfl, hk48, hS48⟩, rfl⟩
  refine ne (eo_mv rfl rfl) rfl ?_
  refine ne (eo_extract rfl rfl rfl) rfl ?_
  refine ne (eo_extract rfl rfl rfl) rfl ?_
  refine nx (xo_alloc rfl z24) rfl ?_
  rintro _ _ ⟨g15, rfl, rfl⟩
  refine nu (xo_storeA 0 rfl a24 rfl rfl (ones_cons (by first | rfl | exact AS.one) (ones_cons (by first | rfl | exact AS.one) (ones_cons (by first | rfl | exact AS.one) ones_nil))) rfl rfl rfl rfl) ?_
  rintro _ _ ⟨rfl, rfl⟩
  refine ne (eo_as rfl rfl) rfl ?_
  refine go_nil ?_
  refine gq_next ?_
  refine gc_seq ?_
  refine gc_region ?_
  refine ne (eo_loadA 4 rfl a24 rfl rfl rfl rfl) rfl ?_
  refine ne (eo_loadA 3 rfl a24 rfl rfl rfl rfl) rfl ?_
  refine ne (eo_loadA 2 rfl a24 rfl rfl rfl rfl) rfl ?_
  refine ne (eo_loadA 1 rfl a24 rfl rfl rfl rfl) rfl ?_
  refine ne (eo_loadA 0 rfl a24 rfl rfl rfl rfl) rfl ?_
  refine nx (xo_lit rfl rfl (lit5m _ _ _ _ _ _ _ _ _ _ _ _ _ _ _ _ _ _ _ _ _ _ _ _ _)) rfl ?_
  rintro _ _ ⟨g56, rfl, rfl⟩
  refine ne (eo_as rfl rfl) rfl ?_
  refine go_nil ?_
  refine gq_next ?_
  refine gc_ret ?_
  refine gq_results (res1 rfl rfl) ?_
  exact fun W1 hO => ⟨_, _, _, rfl, ⟨g56, pick5 A21 A28 A35 A42 A48, pick5 k21 k28 k35 k42 k48, rfl, rfl, all5 ⟨hk21, hS21.sub ((((List.sublist_append_left _ _).trans (List.sublist_append_left _ _)).trans (List.sublist_append_left _ _)).trans (List.sublist_append_left _ _))⟩ ⟨hk28, hS28.sub ((((List.sublist_append_right _ _).trans (List.sublist_append_left _ _)).trans (List.sublist_append_left _ _)).trans (List.sublist_append_left _ _))⟩ ⟨hk35, hS35.sub (((List.sublist_append_right _ _).trans (List.sublist_append_left _ _)).trans (List.sublist_append_left _ _))⟩ ⟨hk42, hS42.sub ((List.sublist_append_right _ _).trans (List.sublist_append_left _ _))⟩ ⟨hk48, hS48.sub (List.sublist_append_right _ _)⟩⟩, hO.sub (List.Sublist.cons_cons _ (List.Sublist.cons _ (List.Sublist.cons _ (List.Sublist.cons _ (List.Sublist.cons _ (List.Sublist.cons _ (List.Sublist.cons _ (List.Sublist.refl _))))))))⟩

/-- barscan/barscanlaw37.MorphologyRadii -/
theorem radii_c (W H : Int) (A : Option Addr) (n c : Nat) (f : Nat → Bool) (a : Int) (b : Int) (c0 : Int) (d : Int) (w : World) (hr : Rd w A (tab n (bv f))) (hnc : n ≤ c) (ha0 : 0 ≤ a) (ha1 : a ≤ 255) (hb0 : 0 ≤ b) (hb1 : b ≤ 255) (hc0 : 0 ≤ c0) (hc1 : c0 ≤ 255) (hd0 : 0 ≤ d) (hd1 : d ≤ 255) :
    Calls Try.prog 8 #[.agg #[.int .i64 W, .int .i64 H, .slice A n c], .int .u8 a, .int .u8 b, .int .u8 c0, .int .u8 d] w (fun e w' => e = .returned (.bool true) ∧ Ext w w') := by
  refine calls_enter (N := ⟨122, []⟩) [] ([]) Try.func8 rfl rfl rfl (Ow.start _) ?_
  refine gc_seq ?_
  refine gc_region ?_
  refine nx (xo_boxA rfl rfl) rfl ?_
  rintro _ _ ⟨g5, rfl, rfl⟩
  refine ne (eo_as rfl rfl) rfl ?_
  refine go_nil ?_
  refine gq_next ?_
  refine gc_seq ?_
  refine gc_seq ?_
  refine gc_region ?_
  refine ne (eo_loadA 0 rfl a24 rfl rfl rfl rfl) rfl ?_
  refine ne (eo_call rfl en28 rfl (fun W1 hO => valid37_c _ _ _ _ _ _ W1 (hr.old0 hO) )) rfl ?_
  refine ne (eo_not rfl rfl) rfl ?_
  refine go_nil ?_
  refine gq_next ?_
  refine gc_cond rfl (fun hc0 => ?_) (fun hc0 => ?_)
  ·
    have hd0 := (not_t hc0)
    refine gc_seq ?_
    refine gc_region ?_
    refine ne (eo_call rfl en11 rfl (fun W1 hO => exam_c W1  )) rfl ?_
    refine ne (eo_as rfl rfl) rfl ?_
    refine go_nil ?_
    refine gq_next ?_
    refine gc_ret ?_
    refine gq_then_ret ?_
    refine gq_results (res1 rfl rfl) ?_
    exact fun W1 hO => ⟨rfl, hO.toExt⟩
  ·
    have hd0 := (not_f hc0)
    obtain ⟨hv, n1, n2, n3⟩ := val_vld hd0
    obtain ⟨v1, v2, v3, v4, v5, v6⟩ := vldB_iff.1 hv
    have v7 := vld_pos hv
    have hV : (⟨W, H, n, f⟩ : Pm Bool).vld = true := hv
    have c1 := chk_of (rx := a % 21) (ry := b % 21) hV (by omega) (by omega) (by omega) (by omega)
    have c2 := chk_of (rx := c0 % 21) (ry := d % 21) hV (by omega) (by omega) (by omega) (by omega)
    have c3 := chk_of (rx := a % 21 + c0 % 21) (ry := b % 21 + d % 21) hV (by omega) (by omega) (by omega) (by omega)
    refine gc_skip ?_
    refine gq_next ?_
    refine gc_seq ?_
    refine gc_region ?_
    refine ne (eo_mv rfl rfl) rfl ?_
    refine ne (eo_remk rfl rfl rfl (by omega) (by omega)) rfl ?_
    refine ne (eo_convi rfl rfl ⟨_, Try.underlying5⟩ Try.underlying3 (by omega) (by omega)) rfl ?_
    refine ne (eo_mv rfl rfl) rfl ?_
    refine ne (eo_remk rfl rfl rfl (by omega) (by omega)) rfl ?_
    refine ne (eo_convi rfl rfl ⟨_, Try.underlying5⟩ Try.underlying3 (by omega) (by omega)) rfl ?_
    refine ne (eo_mv rfl rfl) rfl ?_
    refine ne (eo_remk rfl rfl rfl (by omega) (by omega)) rfl ?_
    refine ne (eo_convi rfl rfl ⟨_, Try.underlying5⟩ Try.underlying3 (by omega) (by omega)) rfl ?_
    refine ne (eo_mv rfl rfl) rfl ?_
    refine ne (eo_remk rfl rfl rfl (by omega) (by omega)) rfl ?_
    refine ne (eo_convi rfl rfl ⟨_, Try.underlying5⟩ Try.underlying3 (by omega) (by omega)) rfl ?_
    refine ne (eo_as rfl rfl) rfl ?_
    refine ne (eo_as rfl rfl) rfl ?_
    refine ne (eo_as rfl rfl) rfl ?_
    refine ne (eo_as rfl rfl) rfl ?_
    refine go_nil ?_
    refine gq_next ?_
    refine gc_seq ?_
    refine gc_region ?_
    refine ne (eo_loadA 0 rfl a24 rfl rfl rfl rfl) rfl ?_
    refine ne (eo_mv rfl rfl) rfl ?_
    refine ne (eo_mv rfl rfl) rfl ?_
    refine nx (xo_freshT rfl en14 rfl (fun W1 hO => dilate_x _ _ _ _ _ _ _ _ W1 (hr.old0 hO) hnc)) rfl ?_
    rintro _ _ ⟨S45, ⟨A45, k45, rfl, hk45, hS45⟩, rfl⟩
    refine ne (eo_mv rfl rfl) rfl ?_
    refine ne (eo_extract rfl rfl rfl) rfl ?_
    refine ne (eo_extract rfl rfl rfl) rfl ?_
    refine nx (xo_alloc rfl z24) rfl ?_
    rintro _ _ ⟨g15, rfl, rfl⟩
    refine nu (xo_storeA 0 rfl a24 rfl rfl (ones_cons (by first | rfl | exact AS.one) (ones_cons (by first | rfl | exact AS.one) (ones_cons (by first | rfl | exact AS.one) ones_nil))) rfl rfl rfl rfl) ?_
    rintro _ _ ⟨rfl, rfl⟩
    refine ne (eo_as rfl rfl) rfl ?_
    refine go_nil ?_
    refine gq_next ?_
    refine gc_seq ?_
    refine gc_region ?_
    refine ne (eo_loadA 0 rfl a24 rfl rfl rfl rfl) rfl ?_
    refine ne (eo_mv rfl rfl) rfl ?_
    refine ne (eo_mv rfl rfl) rfl ?_
    refine nx (xo_freshT rfl en14 rfl (fun W1 hO => dilate_x _ _ _ _ _ _ _ _ W1 (hS45.rd (hO.tl 2 rfl (List.Sublist.refl _))) hk45)) rfl ?_
    rintro _ _ ⟨S52, ⟨A52, k52, rfl, hk52, hS52⟩, rfl⟩
    refine ne (eo_mv rfl rfl) rfl ?_
    refine ne (eo_extract rfl rfl rfl) rfl ?_
    refine ne (eo_extract rfl rfl rfl) rfl ?_
    refine nu (xo_storeA 0 rfl a24 rfl rfl (ones_cons (by first | rfl | exact AS.one) (ones_cons (by first | rfl | exact AS.one) (ones_cons (by first | rfl | exact AS.one) ones_nil))) rfl rfl rfl rfl) ?_
    rintro _ _ ⟨rfl, rfl⟩
    refine go_nil ?_
    refine gq_next ?_
    refine gc_seq ?_
    refine gc_region ?_
    refine ne (eo_loadA 1 rfl a24 rfl rfl rfl rfl) rfl ?_
    refine ne (eo_mv rfl rfl) rfl ?_
    refine ne (eo_mv rfl rfl) rfl ?_
    refine ne (eo_add rfl rfl rfl (by omega) (by omega)) rfl ?_
    refine ne (eo_mv rfl rfl) rfl ?_
    refine ne (eo_mv rfl rfl) rfl ?_
    refine ne (eo_add rfl rfl rfl (by omega) (by omega)) rfl ?_
    refine nx (xo_freshT rfl en14 rfl (fun W1 hO => dilate_x _ _ _ _ _ _ _ _ W1 (hr.old0 hO) hnc)) rfl ?_
    rintro _ _ ⟨S63, ⟨A63, k63, rfl, hk63, hS63⟩, rfl⟩
    refine ne (eo_mv rfl rfl) rfl ?_
    refine ne (eo_extract rfl rfl rfl) rfl ?_
    refine ne (eo_extract rfl rfl rfl) rfl ?_
    refine nx (xo_alloc rfl z24) rfl ?_
    rintro _ _ ⟨g17, rfl, rfl⟩
    refine nu (xo_storeA 0 rfl a24 rfl rfl (ones_cons (by first | rfl | exact AS.one) (ones_cons (by first | rfl | exact AS.one) (ones_cons (by first | rfl | exact AS.one) ones_nil))) rfl rfl rfl rfl) ?_
    rintro _ _ ⟨rfl, rfl⟩
    refine ne (eo_as rfl rfl) rfl ?_
    refine go_nil ?_
    refine gq_next ?_
    refine gc_seq ?_
    refine gc_region ?_
    refine ne (eo_loadA 2 rfl a24 rfl rfl rfl rfl) rfl ?_
    refine ne (eo_mv rfl rfl) rfl ?_
    refine ne (eo_mv rfl rfl) rfl ?_
    refine nx (xo_freshT rfl en12 rfl (fun W1 hO => erode_x _ _ _ _ _ _ _ _ W1 (hr.old0 hO) hnc)) rfl ?_
    rintro _ _ ⟨S70, ⟨A70, k70, rfl, hk70, hS70⟩, rfl⟩
    refine ne (eo_mv rfl rfl) rfl ?_
    refine ne (eo_extract rfl rfl rfl) rfl ?_
    refine ne (eo_extract rfl rfl rfl) rfl ?_
    refine nx (xo_alloc rfl z24) rfl ?_
    rintro _ _ ⟨g19, rfl, rfl⟩
    refine nu (xo_storeA 0 rfl a24 rfl rfl (ones_cons (by first | rfl | exact AS.one) (ones_cons (by first | rfl | exact AS.one) (ones_cons (by first | rfl | exact AS.one) ones_nil))) rfl rfl rfl rfl) ?_
    rintro _ _ ⟨rfl, rfl⟩
    refine ne (eo_as rfl rfl) rfl ?_
    refine go_nil ?_
    refine gq_next ?_
    refine gc_seq ?_
    refine gc_region ?_
    refine ne (eo_loadA 0 rfl a24 rfl rfl rfl rfl) rfl ?_
    refine ne (eo_mv rfl rfl) rfl ?_
    refine ne (eo_mv rfl rfl) rfl ?_
    refine nx (xo_freshT rfl en12 rfl (fun W1 hO => erode_x _ _ _ _ _ _ _ _ W1 (hS70.rd (hO.tl 4 rfl (List.sublist_append_right _ _))) hk70)) rfl ?_
    rintro _ _ ⟨S77, ⟨A77, k77, rfl, hk77, hS77⟩, rfl⟩
    refine ne (eo_mv rfl rfl) rfl ?_
    refine ne (eo_extract rfl rfl rfl) rfl ?_
    refine ne (eo_extract rfl rfl rfl) rfl ?_
    refine nu (xo_storeA 0 rfl a24 rfl rfl (ones_cons (by first | rfl | exact AS.one) (ones_cons (by first | rfl | exact AS.one) (ones_cons (by first | rfl | exact AS.one) ones_nil))) rfl rfl rfl rfl) ?_
    rintro _ _ ⟨rfl, rfl⟩
    refine go_nil ?_
    refine gq_next ?_
    refine gc_seq ?_
    refine gc_region ?_
    refine ne (eo_loadA 3 rfl a24 rfl rfl rfl rfl) rfl ?_
    refine ne (eo_mv rfl rfl) rfl ?_
    refine ne (eo_mv rfl rfl) rfl ?_
    refine ne (eo_add rfl rfl rfl (by omega) (by omega)) rfl ?_
    refine ne (eo_mv rfl rfl) rfl ?_
    refine ne (eo_mv rfl rfl) rfl ?_
    refine ne (eo_add rfl rfl rfl (by omega) (by omega)) rfl ?_
    refine nx (xo_freshT rfl en12 rfl (fun W1 hO => erode_x _ _ _ _ _ _ _ _ W1 (hr.old0 hO) hnc)) rfl ?_
    rintro _ _ ⟨S88, ⟨A88, k88, rfl, hk88, hS88⟩, rfl⟩
    refine ne (eo_mv rfl rfl) rfl ?_
    refine ne (eo_extract rfl rfl rfl) rfl ?_
    refine ne (eo_extract rfl rfl rfl) rfl ?_
    refine nx (xo_alloc rfl z24) rfl ?_
    rintro _ _ ⟨g21, rfl, rfl⟩
    refine nu (xo_storeA 0 rfl a24 rfl rfl (ones_cons (by first | rfl | exact AS.one) (ones_cons (by first | rfl | exact AS.one) (ones_cons (by first | rfl | exact AS.one) ones_nil))) rfl rfl rfl rfl) ?_
    rintro _ _ ⟨rfl, rfl⟩
    refine ne (eo_as rfl rfl) rfl ?_
    refine go_nil ?_
    refine gq_next ?_
    refine gc_seq ?_
    refine gc_seq ?_
    refine gc_region ?_
    refine ne (eo_mv rfl rfl) rfl ?_
    refine ne (eo_neq rfl rfl rfl) rfl ?_
    refine ne (eo_mv rfl rfl) rfl ?_
    refine ng rfl rfl (fun h => eo_mv rfl rfl) rfl ?_
    refine ng rfl rfl (fun h => eo_neq rfl (ev_if h rfl) rfl) rfl ?_
    refine ne (eo_or rfl rfl (fun hb => ev_if hb rfl)) rfl ?_
    refine ne (eo_mv rfl rfl) rfl ?_
    refine ng rfl rfl (fun h => eo_loadA 3 rfl a24 rfl rfl rfl rfl) rfl ?_
    refine ng rfl rfl (fun h => eo_loadA 2 rfl a24 rfl rfl rfl rfl) rfl ?_
    refine ng rfl rfl (fun h => eo_call rfl en16 (evs_cons (ev_if h rfl) (evs_cons (ev_if h rfl) evs_nil)) (fun W1 hO => same37_c _ _ _ _ _ _ _ _ _ _ _ _ W1 (hS52.rd (hO.tl 5 rfl (((((List.sublist_append_right _ _).trans (List.sublist_append_left _ _)).trans (List.sublist_append_left _ _)).trans (List.sublist_append_left _ _)).trans (List.sublist_append_left _ _)))) (hS63.rd (hO.tl 5 rfl ((((List.sublist_append_right _ _).trans (List.sublist_append_left _ _)).trans (List.sublist_append_left _ _)).trans (List.sublist_append_left _ _)))) (Nat.le_trans dilateR_le (by decide)))) rfl ?_
    refine ng rfl rfl (fun h => eo_not rfl (ev_if h rfl)) rfl ?_
    refine ne (eo_or rfl rfl (fun hb => ev_if hb rfl)) rfl ?_
    refine ne (eo_mv rfl rfl) rfl ?_
    refine ng rfl rfl (fun h => eo_loadA 1 rfl a24 rfl rfl rfl rfl) rfl ?_
    refine ng rfl rfl (fun h => eo_loadA 0 rfl a24 rfl rfl rfl rfl) rfl ?_
    refine ng rfl rfl (fun h => eo_call rfl en16 (evs_cons (ev_if h rfl) (evs_cons (ev_if h rfl) evs_nil)) (fun W1 hO => same37_c _ _ _ _ _ _ _ _ _ _ _ _ W1 (hS77.rd (hO.tl 5 rfl ((List.sublist_append_right _ _).trans (List.sublist_append_left _ _)))) (hS88.rd (hO.tl 5 rfl (List.sublist_append_right _ _))) (Nat.le_trans erodeR_le (by decide)))) rfl ?_
    refine ng rfl rfl (fun h => eo_not rfl (ev_if h rfl)) rfl ?_
    refine ne (eo_or rfl rfl (fun hb => ev_if hb rfl)) rfl ?_
    refine go_nil ?_
    refine gq_next ?_
    refine gc_cond rfl (fun hc1 => ?_) (fun hc1 => ?_)
    ·
      have hd1 := (or_t hc1).imp (fun h => (or_t h).imp (fun h => (or_t h).imp (fun h => of_decide_eq_true h) (fun h => of_decide_eq_true h)) (fun h => (not_t h))) (fun h => (not_t h))
      exact Bool.noConfusion (hc1.symm.trans (show (((decide ((dilateR ⟨W, H, n, f⟩ ((a % 21) + (c0 % 21)) ((b % 21) + (d % 21))).2 ≠ 0) || decide ((erodeR ⟨W, H, n, f⟩ ((a % 21) + (c0 % 21)) ((b % 21) + (d % 21))).2 ≠ 0)) || (!(eqP (dilateR (dilateR ⟨W, H, n, f⟩ (a % 21) (b % 21)).1 (c0 % 21) (d % 21)).1 (dilateR ⟨W, H, n, f⟩ ((a % 21) + (c0 % 21)) ((b % 21) + (d % 21))).1))) || (!(eqP (erodeR (erodeR ⟨W, H, n, f⟩ (a % 21) (b % 21)).1 (c0 % 21) (d % 21)).1 (erodeR ⟨W, H, n, f⟩ ((a % 21) + (c0 % 21)) ((b % 21) + (d % 21))).1))) = false from by rw [dilate_err, erode_err, c3, eqP_of (dilate_sum c1 c2 c3), eqP_of (erode_sum c1 c2 c3)]; rfl))
    ·
      have hd1 := (or_f hc1).imp (fun h => (or_f h).imp (fun h => (or_f h).imp (fun h => ne_f h) (fun h => ne_f h)) (fun h => (not_f h))) (fun h => (not_f h))
      refine gc_skip ?_
      refine gq_next ?_
      refine gc_seq ?_
      refine gc_seq ?_
      refine gc_region ?_
      refine ne (eo_loadA 4 rfl a24 rfl rfl rfl rfl) rfl ?_
      refine nx (xo_fresh1T rfl en27 rfl (fun W1 hO => opers_c _ _ _ _ _ _ _ _ W1 (hr.old0 hO) hnc)) rfl ?_
      rintro _ _ ⟨_, S110, ⟨g110, A110, c110, rfl, rfl, hS110⟩, rfl⟩
      refine ne (eo_len rfl Try.underlying37 rfl) rfl ?_
      refine ne (eo_mv rfl rfl) rfl ?_
      refine go_nil ?_
      refine gq_next ?_
      refine gc_block ?_
      refine loop1 (fun (i : Nat) => i ≤ 5) (fun (i : Nat) => 5 - i) (fun (i : Nat) => [(5, .pointer (some ⟨g5, 0, none⟩)), (110, .slice (some ⟨g110, 0, none⟩) 5 5), (111, .int .i64 ((5 : Nat) : Int)), (112, .int .i64 (i : Int))]) (fun (i : Nat) => ⟨g110, 24, flat3 5 (opsM ⟨W, H, n, f⟩ 0 0) A110 c110⟩ :: ⟨g21, 24, [.int .i64 ((erodeR ⟨W, H, n, f⟩ ((a % 21) + (c0 % 21)) ((b % 21) + (d % 21))).1.W), .int .i64 ((erodeR ⟨W, H, n, f⟩ ((a % 21) + (c0 % 21)) ((b % 21) + (d % 21))).1.H), .slice A88 ((erodeR ⟨W, H, n, f⟩ ((a % 21) + (c0 % 21)) ((b % 21) + (d % 21))).1.n) k88]⟩ :: ⟨g19, 24, [.int .i64 ((erodeR (erodeR ⟨W, H, n, f⟩ (a % 21) (b % 21)).1 (c0 % 21) (d % 21)).1.W), .int .i64 ((erodeR (erodeR ⟨W, H, n, f⟩ (a % 21) (b % 21)).1 (c0 % 21) (d % 21)).1.H), .slice A77 ((erodeR (erodeR ⟨W, H, n, f⟩ (a % 21) (b % 21)).1 (c0 % 21) (d % 21)).1.n) k77]⟩ :: ⟨g17, 24, [.int .i64 ((dilateR ⟨W, H, n, f⟩ ((a % 21) + (c0 % 21)) ((b % 21) + (d % 21))).1.W), .int .i64 ((dilateR ⟨W, H, n, f⟩ ((a % 21) + (c0 % 21)) ((b % 21) + (d % 21))).1.H), .slice A63 ((dilateR ⟨W, H, n, f⟩ ((a % 21) + (c0 % 21)) ((b % 21) + (d % 21))).1.n) k63]⟩ :: ⟨g15, 24, [.int .i64 ((dilateR (dilateR ⟨W, H, n, f⟩ (a % 21) (b % 21)).1 (c0 % 21) (d % 21)).1.W), .int .i64 ((dilateR (dilateR ⟨W, H, n, f⟩ (a % 21) (b % 21)).1 (c0 % 21) (d % 21)).1.H), .slice A52 ((dilateR (dilateR ⟨W, H, n, f⟩ (a % 21) (b % 21)).1 (c0 % 21) (d % 21)).1.n) k52]⟩ :: ⟨g5, 24, [.int .i64 W, .int .i64 H, .slice A n c]⟩ :: ((((((S45 ++ S52) ++ S63) ++ S70) ++ S77) ++ S88) ++ S110)) 0 (by omega) ⟨rfl, rfl, rfl, rfl, trivial⟩ (List.Sublist.refl _) ?_
      intro i hI
      refine gc_seq ?_
      refine gc_region ?_
      refine ne (eo_lss rfl rfl rfl) rfl ?_
      refine go_nil ?_
      refine gq_next ?_
      refine gc_seq ?_
      refine gc_cond rfl (fun hc2 => ?_) (fun hc2 => ?_)
      ·
        replace hc2 := of_decide_eq_true hc2
        refine gc_skip ?_
        refine gq_next ?_
        refine gc_seq ?_
        refine gc_block ?_
        refine gc_seq ?_
        refine gc_region ?_
        refine ne (eo_indexN rfl sl37 rfl rfl (by omega) (by omega)) rfl ?_
        refine ne (eo_loadM (k := 0 + i * 3) (cs := [.int .i64 ((opsM ⟨W, H, n, f⟩ 0 0) i).W, .int .i64 ((opsM ⟨W, H, n, f⟩ 0 0) i).H, .slice (A110 i) ((opsM ⟨W, H, n, f⟩ 0 0) i).n (c110 i)]) 0 rfl a24 rfl rfl rfl rfl (fun j hj => flat3_at (by omega) hj)) rfl ?_
        refine nx (xo_alloc rfl z24) rfl ?_
        rintro _ _ ⟨g24, rfl, rfl⟩
        refine nu (xo_storeA 0 rfl a24 rfl rfl (ones_cons (by first | rfl | exact AS.one) (ones_cons (by first | rfl | exact AS.one) (ones_cons (by first | rfl | exact AS.one) ones_nil))) rfl rfl rfl rfl) ?_
        rintro _ _ ⟨rfl, rfl⟩
        refine go_nil ?_
        refine gq_next ?_
        refine gc_seq ?_
        refine gc_region ?_
        refine ne (eo_loadA 0 rfl a24 rfl rfl rfl rfl) rfl ?_
        refine ne (eo_loadA 6 rfl a24 rfl rfl rfl rfl) rfl ?_
        refine ne (eo_call rfl en16 rfl (fun W1 hO => same37_c _ _ _ _ _ _ _ _ _ _ _ _ W1 ((hS110 i (by omega)).2.rd (hO.tl 7 rfl (List.sublist_append_right _ _))) (hr.old0 hO) (Nat.le_trans opsM_le (by decide)))) rfl ?_
        refine ne (eo_not rfl rfl) rfl ?_
        refine go_nil ?_
        refine gq_next ?_
        refine gc_cond rfl (fun hc3 => ?_) (fun hc3 => ?_)
        ·
          have hd3 := (not_t hc3)
          exact Bool.noConfusion ((eqP_of (ops_zero (i := i) hV)).symm.trans (not_t hc3))
        ·
          have hd3 := (not_f hc3)
          refine gc_skip ?_
          refine gq_block_end ?_
          refine gq_next ?_
          refine gc_region ?_
          refine ne (eo_add rfl rfl rfl (by omega) (by omega)) rfl ?_
          refine ne (eo_mv rfl rfl) rfl ?_
          refine go_nil ?_
          exact round1 (i + 1) (by omega) (by omega) ⟨rfl, rfl, rfl, rfl, trivial⟩ (List.Sublist.cons _ (List.Sublist.refl _))
      ·
        replace hc2 := of_decide_eq_false hc2
        refine gc_exit ?_
        refine gq_then_exit ?_
        refine gq_then_exit ?_
        refine gq_block_hit ?_
        refine gq_next ?_
        refine gc_seq ?_
        refine gc_region ?_
        refine ne (eo_call rfl en11 rfl (fun W1 hO => exam_c W1  )) rfl ?_
        refine ne (eo_as rfl rfl) rfl ?_
        refine go_nil ?_
        refine gq_next ?_
        refine gc_ret ?_
        refine gq_results (res1 rfl rfl) ?_
        exact fun W1 hO => ⟨rfl, hO.toExt⟩

end Go.Proofs.Ytmkdfbaklookdaa
