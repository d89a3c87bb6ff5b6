/-
  The walks of the functions of package morphology and of the document's answer (part O): what each call returns, at every argument.
-/
import Derived.Test.YtmkdfbaklookdaaWG
import Derived.Test.YtmkdfbaklookdaaMs
namespace Go.Proofs.Ytmkdfbaklookdaa
open Go.RowKit Go.Eng

open Go.Bs
theorem lit5m (x0 y0 x1 y1 x2 y2 x3 y3 x4 y4 : Int) (A0 A1 A2 A3 A4 : Option Addr) (n0 c0 n1 c1 n2 c2 n3 c3 n4 c4 : Nat) (W : World) : (Instr.buildSlice 37 5 #[(0, .agg #[.int .i64 x0, .int .i64 y0, .slice A0 n0 c0]), (1, .agg #[.int .i64 x1, .int .i64 y1, .slice A1 n1 c1]), (2, .agg #[.int .i64 x2, .int .i64 y2, .slice A2 n2 c2]), (3, .agg #[.int .i64 x3, .int .i64 y3, .slice A3 n3 c3]), (4, .agg #[.int .i64 x4, .int .i64 y4, .slice A4 n4 c4])]).run Try.prog W = .ok (.slice (some ⟨W.heap.size, 0, none⟩) 5 5) (W.alloc (.cells #[.int .i64 x0, .int .i64 y0, .slice A0 n0 c0, .int .i64 x1, .int .i64 y1, .slice A1 n1 c1, .int .i64 x2, .int .i64 y2, .slice A2 n2 c2, .int .i64 x3, .int .i64 y3, .slice A3 n3 c3, .int .i64 x4, .int .i64 y4, .slice A4 n4 c4] 24)) := by kernel_rfl
theorem sl37 : TySl Try.prog 37 24 3 := ⟨Try.underlying37, by kernel_rfl⟩
theorem en11 : Ent Try.prog 11 := ent_of Try.func11 (by kernel_rfl) rfl
theorem lit22_0 (W : World) : (Instr.buildSlice 22 0 #[]).run Try.prog W = .ok (.slice (some ⟨W.heap.size, 0, none⟩) 0 0) (W.alloc (.cells #[] 4)) := by kernel_rfl
theorem sl35 : TySl Try.prog 35 36 1 := ⟨Try.underlying35, by kernel_rfl⟩
theorem s36 : TyS Try.prog 36 := ⟨⟨_, Try.underlying36, rfl⟩, by kernel_rfl⟩
theorem en27 : Ent Try.prog 27 := ent_of Try.func27 (by kernel_rfl) rfl
theorem en26 : Ent Try.prog 26 := ent_of Try.func26 (by kernel_rfl) rfl

/-- barscan/barscanlaw37.operations -/
theorem opers_c (W H : Int) (A : Option Addr) (n c : Nat) (f : Nat → Bool) (rx : Int) (ry : Int) (w : World) (hr : Rd w A (tab n (bv f))) (hnc : n ≤ c) :
    Calls Try.prog 27 #[.agg #[.int .i64 W, .int .i64 H, .slice A n c], .int .i64 rx, .int .i64 ry] w (fun e w' => ∃ v b S, e = .returned v ∧ ROps 24 (opsM ⟨W, H, n, f⟩ rx ry) v b S ∧ Ow [] w w' (b :: S)) := by
  refine calls_enter (N := ⟨57, []⟩) [] ([]) Try.func27 rfl rfl rfl (Ow.start _) ?_
  refine gc_seq ?_
  refine gc_region ?_
  refine nx (xo_boxA rfl rfl) rfl ?_
  rintro _ _ ⟨g3, rfl, rfl⟩
  refine ne (eo_as rfl rfl) rfl ?_
  refine go_nil ?_
  refine gq_next ?_
  refine gc_seq ?_
  refine gc_region ?_
  refine ne (eo_loadA 0 rfl a24 rfl rfl rfl rfl) rfl ?_
  refine ne (eo_mv rfl rfl) rfl ?_
  refine ne (eo_mv rfl rfl) rfl ?_
  refine nx (xo_freshT rfl en12 rfl (fun W1 hO => erode_x _ _ _ _ _ _ _ _ W1 (hr.old0 hO) hnc)) rfl ?_
  rintro _ _ ⟨S21, ⟨A21, k21, rfl, hk21, hS21⟩, rfl⟩
  refine ne (eo_mv rfl rfl) rfl ?_
  refine ne (eo_extract rfl rfl rfl) rfl ?_
  refine ne (eo_extract rfl rfl rfl) rfl ?_
  refine nx (xo_alloc rfl z24) rfl ?_
  rintro _ _ ⟨g7, rfl, rfl⟩
  refine nu (xo_storeA 0 rfl a24 rfl rfl (ones_cons (by first | rfl | exact AS.one) (ones_cons (by first | rfl | exact AS.one) (ones_cons (by first | rfl | exact AS.one) ones_nil))) rfl rfl rfl rfl) ?_
  rintro _ _ ⟨rfl, rfl⟩
  refine ne (eo_as rfl rfl) rfl ?_
  refine go_nil ?_
  refine gq_next ?_
  refine gc_seq ?_
  refine gc_region ?_
  refine ne (eo_loadA 1 rfl a24 rfl rfl rfl rfl) rfl ?_
  refine ne (eo_mv rfl rfl) rfl ?_
  refine ne (eo_mv rfl rfl) rfl ?_
  refine nx (xo_freshT rfl en14 rfl (fun W1 hO => dilate_x _ _ _ _ _ _ _ _ W1 (hr.old0 hO) hnc)) rfl ?_
  rintro _ _ ⟨S28, ⟨A28, k28, rfl, hk28, hS28⟩, rfl⟩
  refine ne (eo_mv rfl rfl) rfl ?_
  refine ne (eo_extract rfl rfl rfl) rfl ?_
  refine ne (eo_extract rfl rfl rfl) rfl ?_
  refine nx (xo_alloc rfl z24) rfl ?_
  rintro _ _ ⟨g9, rfl, rfl⟩
  refine nu (xo_storeA 0 rfl a24 rfl rfl (ones_cons (by first | rfl | exact AS.one) (ones_cons (by first | rfl | exact AS.one) (ones_cons (by first | rfl | exact AS.one) ones_nil))) rfl rfl rfl rfl) ?_
  rintro _ _ ⟨rfl, rfl⟩
  refine ne (eo_as rfl rfl) rfl ?_
  refine go_nil ?_
  refine gq_next ?_
  refine gc_seq ?_
  refine gc_region ?_
  refine ne (eo_loadA 2 rfl a24 rfl rfl rfl rfl) rfl ?_
  refine ne (eo_mv rfl rfl) rfl ?_
  refine ne (eo_mv rfl rfl) rfl ?_
  refine nx (xo_freshT rfl en18 rfl (fun W1 hO => open_x _ _ _ _ _ _ _ _ W1 (hr.old0 hO) hnc)) rfl ?_
  rintro _ _ ⟨S35, ⟨A35, k35, rfl, hk35, hS35⟩, rfl⟩
  refine ne (eo_mv rfl rfl) rfl ?_
  refine ne (eo_extract rfl rfl rfl) rfl ?_
  refine ne (eo_extract rfl rfl rfl) rfl ?_
  refine nx (xo_alloc rfl z24) rfl ?_
  rintro _ _ ⟨g11, rfl, rfl⟩
  refine nu (xo_storeA 0 rfl a24 rfl rfl (ones_cons (by first | rfl | exact AS.one) (ones_cons (by first | rfl | exact AS.one) (ones_cons (by first | rfl | exact AS.one) ones_nil))) rfl rfl rfl rfl) ?_
  rintro _ _ ⟨rfl, rfl⟩
  refine ne (eo_as rfl rfl) rfl ?_
  refine go_nil ?_
  refine gq_next ?_
  refine gc_seq ?_
  refine gc_region ?_
  refine ne (eo_loadA 3 rfl a24 rfl rfl rfl rfl) rfl ?_
  refine ne (eo_mv rfl rfl) rfl ?_
  refine ne (eo_mv rfl rfl) rfl ?_
  refine nx (xo_freshT rfl en20 rfl (fun W1 hO => close_x _ _ _ _ _ _ _ _ W1 (hr.old0 hO) hnc)) rfl ?_
  rintro _ _ ⟨S42, ⟨A42, k42, rfl, hk42, hS42⟩, rfl⟩
  refine ne (eo_mv rfl rfl) rfl ?_
  refine ne (eo_extract rfl rfl rfl) rfl ?_
  refine ne (eo_extract rfl rfl rfl) rfl ?_
  refine nx (xo_alloc rfl z24) rfl ?_
  rintro _ _ ⟨g13, rfl, rfl⟩
  refine nu (xo_storeA 0 rfl a24 rfl rfl (ones_cons (by first | rfl | exact AS.one) (ones_cons (by first | rfl | exact AS.one) (ones_cons (by first | rfl | exact AS.one) ones_nil))) rfl rfl rfl rfl) ?_
  rintro _ _ ⟨rfl, rfl⟩
  refine ne (eo_as rfl rfl) rfl ?_
  refine go_nil ?_
  refine gq_next ?_
  refine gc_seq ?_
  refine gc_region ?_
  refine ne (eo_loadA 4 rfl a24 rfl rfl rfl rfl) rfl ?_
  refine ne (eo_mv rfl rfl) rfl ?_
  refine nx (xo_freshT rfl en22 rfl (fun W1 hO => maj_x _ _ _ _ _ _ _ W1 (hr.old0 hO) )) rfl ?_
  rintro _ _ ⟨S48, ⟨A48, k48, rfl, hk48, hS48⟩, rfl⟩
  refine ne (eo_mv rfl rfl) rfl ?_
  refine ne (eo_extract rfl rfl rfl) rfl ?_
  refine ne (eo_extract rfl rfl rfl) rfl ?_
  refine nx (xo_alloc rfl z24) rfl ?_
  rintro _ _ ⟨g15, rfl, rfl⟩
  refine nu (xo_storeA 0 rfl a24 rfl rfl (ones_cons (by first | rfl | exact AS.one) (ones_cons (by first | rfl | exact AS.one) (ones_cons (by first | rfl | exact AS.one) ones_nil))) rfl rfl rfl rfl) ?_
  rintro _ _ ⟨rfl, rfl⟩
  refine ne (eo_as rfl rfl) rfl ?_
  refine go_nil ?_
  refine gq_next ?_
  refine gc_seq ?_
  refine gc_region ?_
  refine ne (eo_loadA 4 rfl a24 rfl rfl rfl rfl) rfl ?_
  refine ne (eo_loadA 3 rfl a24 rfl rfl rfl rfl) rfl ?_
  refine ne (eo_loadA 2 rfl a24 rfl rfl rfl rfl) rfl ?_
  refine ne (eo_loadA 1 rfl a24 rfl rfl rfl rfl) rfl ?_
  refine ne (eo_loadA 0 rfl a24 rfl rfl rfl rfl) rfl ?_
  refine nx (xo_lit rfl rfl (lit5m _ _ _ _ _ _ _ _ _ _ _ _ _ _ _ _ _ _ _ _ _ _ _ _ _)) rfl ?_
  rintro _ _ ⟨g56, rfl, rfl⟩
  refine ne (eo_as rfl rfl) rfl ?_
  refine go_nil ?_
  refine gq_next ?_
  refine gc_ret ?_
  refine gq_results (res1 rfl rfl) ?_
  exact fun W1 hO => ⟨_, _, _, rfl, ⟨g56, pick5 A21 A28 A35 A42 A48, pick5 k21 k28 k35 k42 k48, rfl, rfl, all5 ⟨hk21, hS21.sub ((((List.sublist_append_left _ _).trans (List.sublist_append_left _ _)).trans (List.sublist_append_left _ _)).trans (List.sublist_append_left _ _))⟩ ⟨hk28, hS28.sub ((((List.sublist_append_right _ _).trans (List.sublist_append_left _ _)).trans (List.sublist_append_left _ _)).trans (List.sublist_append_left _ _))⟩ ⟨hk35, hS35.sub (((List.sublist_append_right _ _).trans (List.sublist_append_left _ _)).trans (List.sublist_append_left _ _))⟩ ⟨hk42, hS42.sub ((List.sublist_append_right _ _).trans (List.sublist_append_left _ _))⟩ ⟨hk48, hS48.sub (List.sublist_append_right _ _)⟩⟩, hO.sub (List.Sublist.cons_cons _ (List.Sublist.cons _ (List.Sublist.cons _ (List.Sublist.cons _ (List.Sublist.cons _ (List.Sublist.cons _ (List.Sublist.cons _ (List.Sublist.refl _))))))))⟩

/-- barscan/barscanlaw37.MorphologyMonotony -/
theorem mono_c (W H : Int) (A : Option Addr) (n c : Nat) (f : Nat → Bool) (A2 : Option Addr) (n2 c2 : Nat) (f2 : Nat → Int) (rx : Int) (ry : Int) (w : World) (hr : Rd w A (tab n (bv f))) (hr2 : Rd w A2 (tab n2 (iv .u16 f2))) (hnc : n ≤ c) (hw2 : ∀ k, k < n2 → 0 ≤ f2 k ∧ f2 k ≤ 65535) :
    Calls Try.prog 7 #[.agg #[.int .i64 W, .int .i64 H, .slice A n c], .slice A2 n2 c2, .int .i64 rx, .int .i64 ry] w (fun e w' => e = .returned (.bool true) ∧ Ext w w') := by
  refine calls_enter (N := ⟨81, []⟩) [] ([]) Try.func7 rfl rfl rfl (Ow.start _) ?_
  refine gc_seq ?_
  refine gc_region ?_
  refine nx (xo_boxA rfl rfl) rfl ?_
  rintro _ _ ⟨g4, rfl, rfl⟩
  refine ne (eo_as rfl rfl) rfl ?_
  refine go_nil ?_
  refine gq_next ?_
  refine gc_seq ?_
  refine gc_seq ?_
  refine gc_region ?_
  refine ne (eo_field rfl f24_2 rfl) rfl ?_
  refine ne (eo_load 0 rfl s22 rfl rfl rfl rfl) rfl ?_
  refine ne (eo_len rfl Try.underlying22 rfl) rfl ?_
  refine ne (eo_gtr rfl rfl rfl) rfl ?_
  refine ne (eo_mv rfl rfl) rfl ?_
  refine ng rfl rfl (fun h => eo_field rfl f24_2 rfl) rfl ?_
  refine ng rfl rfl (fun h => eo_load 0 rfl s22 (ev_if h rfl) rfl rfl rfl) rfl ?_
  refine ng rfl rfl (fun h => eo_len rfl Try.underlying22 (ev_if h rfl)) rfl ?_
  refine ng rfl rfl (fun h => eo_eql rfl (ev_if h rfl) rfl) rfl ?_
  refine ne (eo_or rfl rfl (fun hb => ev_if hb rfl)) rfl ?_
  refine ne (eo_mv rfl rfl) rfl ?_
  refine ng rfl rfl (fun h => eo_mv rfl rfl) rfl ?_
  refine ng rfl rfl (fun h => eo_len rfl Try.underlying35 (ev_if h rfl)) rfl ?_
  refine ng rfl rfl (fun h => eo_gtr rfl (ev_if h rfl) rfl) rfl ?_
  refine ne (eo_or rfl rfl (fun hb => ev_if hb rfl)) rfl ?_
  refine go_nil ?_
  refine gq_next ?_
  refine gc_cond rfl (fun hc0 => ?_) (fun hc0 => ?_)
  ·
    have hd0 := (or_t hc0).imp (fun h => (or_t h).imp (fun h => of_decide_eq_true h) (fun h => of_decide_eq_true h)) (fun h => of_decide_eq_true h)
    refine gc_seq ?_
    refine gc_region ?_
    refine ne (eo_call rfl en11 rfl (fun W1 hO => exam_c W1  )) rfl ?_
    refine ne (eo_as rfl rfl) rfl ?_
    refine go_nil ?_
    refine gq_next ?_
    refine gc_ret ?_
    refine gq_then_ret ?_
    refine gq_results (res1 rfl rfl) ?_
    exact fun W1 hO => ⟨rfl, hO.toExt⟩
  ·
    have hd0 := (or_f hc0).imp (fun h => (or_f h).imp (fun h => of_decide_eq_false h) (fun h => of_decide_eq_false h)) (fun h => of_decide_eq_false h)
    refine gc_skip ?_
    refine gq_next ?_
    refine gc_seq ?_
    refine gc_draw_new (i := 9) (d := 9) [] [0, 1, 2, 3, 5, 6] [4, 7, 8] [10] (by kernel_rfl) (by kernel_rfl) rfl z24 rfl ?_
    refine gp_nil ?_
    refine de rfl (eo_field rfl f24_0 rfl) rfl ?_
    refine de rfl (eo_load 0 rfl s3 rfl rfl rfl rfl) rfl ?_
    refine de rfl (eo_field rfl f24_1 rfl) rfl ?_
    refine de rfl (eo_load 0 rfl s3 rfl rfl rfl rfl) rfl ?_
    refine de rfl (eo_field rfl f24_2 rfl) rfl ?_
    refine de rfl (eo_load 0 rfl s22 rfl rfl rfl rfl) rfl ?_
    refine ge_nil ?_
    refine ⟨rfl, ?_⟩
    refine da rfl (xo_lit rfl rfl lit22_0) rfl ?_
    rintro _ _ ⟨g35, rfl, rfl⟩
    refine ⟨by first | exact (List.Sublist.cons _ (List.Sublist.refl _)) | exact (List.sublist_append_left _ _), ?_⟩
    refine da rfl (xo_grabL (F := (bv f)) rfl Try.underlying22 e4.toN rfl rfl (fun W1 hO => (hr.old0 hO)) tab_oneb (by omega) (by omega) (by decide)) rfl ?_
    rintro _ _ ⟨gn38, cn38, sn38, rfl, rfl, hcn38⟩
    refine ⟨by first | exact (List.Sublist.cons _ (List.Sublist.refl _)) | exact (List.sublist_append_left _ _), ?_⟩
    refine da rfl (xo_of_eo (eo_build rfl rfl (b24_012 _ _ _ _ _))) rfl ?_
    rintro _ _ ⟨rfl, rfl⟩
    refine ⟨by first | exact (List.Sublist.cons _ (List.Sublist.refl _)) | exact (List.sublist_append_left _ _), ?_⟩
    refine ga_nil ?_
    intro g9
    refine iu rfl (xo_storeA 0 rfl a24 rfl rfl (ones_cons (by first | rfl | exact AS.one) (ones_cons (by first | rfl | exact AS.one) (ones_cons (by first | rfl | exact AS.one) ones_nil))) rfl rfl rfl rfl) ?_
    rintro _ _ ⟨rfl, rfl⟩
    refine gi_nil ?_
    refine gq_nq ?_
    refine gq_next ?_
    refine gc_seq ?_
    refine gc_seq ?_
    refine gc_region ?_
    refine ne (eo_mv rfl rfl) rfl ?_
    refine ne (eo_len rfl Try.underlying35 rfl) rfl ?_
    refine ne (eo_mv rfl rfl) rfl ?_
    refine go_nil ?_
    refine gq_next ?_
    refine gc_block ?_
    refine loop2 (fun (k : Nat) (g1 : Nat → Bool) => k ≤ n2 ∧ ∀ j, j < n → f j = true → g1 j = true) (fun (k : Nat) (g1 : Nat → Bool) => n2 - k) (fun (k : Nat) (g1 : Nat → Bool) => [(2, .int .i64 rx), (3, .int .i64 ry), (4, .pointer (some ⟨g4, 0, none⟩)), (9, .pointer (some ⟨g9, 0, none⟩)), (40, .slice A2 n2 c2), (41, .int .i64 ((n2 : Nat) : Int)), (42, .int .i64 (k : Int))]) (fun (k : Nat) (g1 : Nat → Bool) => [⟨g9, 24, [.int .i64 W, .int .i64 H, .slice (some ⟨gn38, 0, none⟩) n cn38]⟩, ⟨g4, 24, [.int .i64 W, .int .i64 H, .slice A n c]⟩, ⟨gn38, 4, tab n (bv g1) ++ sn38⟩]) 0 f ⟨by omega, fun _ _ h => h⟩ ⟨rfl, rfl, rfl, rfl, rfl, rfl, rfl, trivial⟩ (List.Sublist.refl _) ?_
    rintro k g1 ⟨hk, hI⟩
    refine gc_seq ?_
    refine gc_region ?_
    refine ne (eo_lss rfl rfl rfl) rfl ?_
    refine go_nil ?_
    refine gq_next ?_
    refine gc_seq ?_
    refine gc_cond rfl (fun hc1 => ?_) (fun hc1 => ?_)
    ·
      replace hc1 := of_decide_eq_true hc1
      have hwk := hw2 (k : Int).toNat (by omega)
      have hrem := Int.emod_lt_of_pos (f2 (k : Int).toNat) (show (0 : Int) < n by omega)
      have hrem0 := Int.emod_nonneg (f2 (k : Int).toNat) (show (n : Int) ≠ 0 by omega)
      refine gc_skip ?_
      refine gq_next ?_
      refine gc_seq ?_
      refine gc_block ?_
      refine gc_seq ?_
      refine gc_region ?_
      refine ne (eo_indexR rfl sl35 rfl rfl hr2 (by simp) (by omega) (by omega)) rfl ?_
      refine ne (eo_load_old rfl s36 rfl (Rd.tabi hr2 (by omega)) (by simp)) rfl ?_
      refine ne (eo_as rfl rfl) rfl ?_
      refine go_nil ?_
      refine gq_next ?_
      refine gc_draw [] [0, 1, 2, 3, 4, 5, 6, 7, 8] [] [9] (by kernel_rfl) (by kernel_rfl) ?_
      refine gp_nil ?_
      refine de rfl (eo_field rfl f24_2 rfl) rfl ?_
      refine de rfl (eo_load 0 rfl s22 rfl rfl rfl rfl) rfl ?_
      refine de rfl (eo_mv rfl rfl) rfl ?_
      refine de rfl (eo_convi rfl rfl ⟨_, Try.underlying36⟩ Try.underlying3 (by omega) (by omega)) rfl ?_
      refine de rfl (eo_field rfl f24_2 rfl) rfl ?_
      refine de rfl (eo_load 0 rfl s22 rfl rfl rfl rfl) rfl ?_
      refine de rfl (eo_len rfl Try.underlying22 rfl) rfl ?_
      refine de rfl (eo_rem rfl rfl rfl (by omega) (by omega)) rfl ?_
      refine de rfl (eo_index0 rfl sl22 rfl rfl (by omega) (by omega)) rfl ?_
      refine ge_nil ?_
      refine ga_nil ?_
      refine iu rfl (xo_setb 2 rfl s4 rfl rfl rfl (by omega)) ?_
      rintro _ _ ⟨rfl, rfl⟩
      refine gi_nil ?_
      refine gq_nq ?_
      refine gq_block_end ?_
      refine gq_next ?_
      refine gc_region ?_
      refine ne (eo_add rfl rfl rfl (by omega) (by omega)) rfl ?_
      refine ne (eo_mv rfl rfl) rfl ?_
      refine go_nil ?_
      exact round2 (k + 1) (upd g1 ((((f2 (k)) % ((n : Nat) : Int))).toNat) true) ⟨by omega, le_upd hI⟩ (by omega) ⟨rfl, rfl, rfl, rfl, rfl, rfl, rfl, trivial⟩ (List.Sublist.refl _)
    ·
      replace hc1 := of_decide_eq_false hc1
      refine gc_exit ?_
      refine gq_then_exit ?_
      refine gq_then_exit ?_
      refine gq_block_hit ?_
      refine gq_next ?_
      refine gc_seq ?_
      refine gc_draw [] [0, 1, 2, 4, 5, 6] [3, 7, 8, 9] [] (by kernel_rfl) (by kernel_rfl) ?_
      refine gp_nil ?_
      refine de rfl (eo_loadA 1 rfl a24 rfl rfl rfl rfl) rfl ?_
      refine de rfl (eo_mv rfl rfl) rfl ?_
      refine de rfl (eo_mv rfl rfl) rfl ?_
      refine de rfl (eo_loadA 0 rfl a24 rfl rfl rfl rfl) rfl ?_
      refine de rfl (eo_mv rfl rfl) rfl ?_
      refine de rfl (eo_mv rfl rfl) rfl ?_
      refine ge_nil ?_
      refine da rfl (xo_fresh1T rfl en27 rfl (fun W1 hO => opers_c _ _ _ _ _ _ _ _ W1 (hr.old0 hO) hnc)) rfl ?_
      rintro _ _ ⟨_, S59, ⟨g59, A59, c59, rfl, rfl, hS59⟩, rfl⟩
      refine ⟨by first | exact (List.Sublist.cons _ (List.sublist_append_left _ _)) | exact (List.sublist_append_left _ _), ?_⟩
      refine da rfl (xo_fresh1T rfl en27 rfl (fun W1 hO => opers_c _ _ _ _ _ _ _ _ W1 (tabs_rd hO 3 rfl) (by omega))) rfl ?_
      rintro _ _ ⟨_, S63, ⟨g63, A63, c63, rfl, rfl, hS63⟩, rfl⟩
      refine ⟨by first | exact (List.Sublist.cons _ (List.Sublist.cons _ ((List.sublist_append_left _ _).trans (List.sublist_append_left _ _)))) | exact (List.sublist_append_left _ _), ?_⟩
      refine da rfl (xo_of_eo (eo_as rfl rfl)) rfl ?_
      rintro _ _ ⟨rfl, rfl⟩
      refine ⟨by first | exact (List.Sublist.cons _ (List.Sublist.cons _ ((List.sublist_append_left _ _).trans (List.sublist_append_left _ _)))) | exact (List.sublist_append_left _ _), ?_⟩
      refine da rfl (xo_of_eo (eo_as rfl rfl)) rfl ?_
      rintro _ _ ⟨rfl, rfl⟩
      refine ⟨by first | exact (List.Sublist.cons _ (List.Sublist.cons _ ((List.sublist_append_left _ _).trans (List.sublist_append_left _ _)))) | exact (List.sublist_append_left _ _), ?_⟩
      refine ga_nil ?_
      refine gi_nil ?_
      refine gq_nq ?_
      refine gq_next ?_
      refine gc_seq ?_
      refine gc_seq ?_
      refine gc_region ?_
      refine ne (eo_mv rfl rfl) rfl ?_
      refine ne (eo_len rfl Try.underlying37 rfl) rfl ?_
      refine ne (eo_mv rfl rfl) rfl ?_
      refine go_nil ?_
      refine gq_next ?_
      refine gc_block ?_
      refine loop1 (fun (i : Nat) => i ≤ 5) (fun (i : Nat) => 5 - i) (fun (i : Nat) => [(12, .slice (some ⟨g59, 0, none⟩) 5 5), (13, .slice (some ⟨g63, 0, none⟩) 5 5), (65, .int .i64 ((5 : Nat) : Int)), (66, .int .i64 (i : Int))]) (fun (i : Nat) => ⟨g63, 24, flat3 5 (opsM ⟨W, H, n, g1⟩ rx ry) A63 c63⟩ :: ⟨g59, 24, flat3 5 (opsM ⟨W, H, n, f⟩ rx ry) A59 c59⟩ :: ⟨g9, 24, [.int .i64 W, .int .i64 H, .slice (some ⟨gn38, 0, none⟩) n cn38]⟩ :: ⟨g4, 24, [.int .i64 W, .int .i64 H, .slice A n c]⟩ :: ⟨gn38, 4, tab n (bv g1) ++ sn38⟩ :: (S59 ++ S63)) 0 (by omega) ⟨rfl, rfl, rfl, rfl, trivial⟩ (List.Sublist.refl _) ?_
      intro i hi5
      refine gc_seq ?_
      refine gc_region ?_
      refine ne (eo_lss rfl rfl rfl) rfl ?_
      refine go_nil ?_
      refine gq_next ?_
      refine gc_seq ?_
      refine gc_cond rfl (fun hc2 => ?_) (fun hc2 => ?_)
      ·
        replace hc2 := of_decide_eq_true hc2
        refine gc_skip ?_
        refine gq_next ?_
        refine gc_seq ?_
        refine gc_block ?_
        refine gc_seq ?_
        refine gc_region ?_
        refine ne (eo_mv rfl rfl) rfl ?_
        refine ne (eo_as rfl rfl) rfl ?_
        refine go_nil ?_
        refine gq_next ?_
        refine gc_seq ?_
        refine gc_draw [] [0, 1, 2, 3, 4, 5, 6, 7, 8, 9] [] [] (by kernel_rfl) (by kernel_rfl) ?_
        refine gp_nil ?_
        refine de rfl (eo_mv rfl rfl) rfl ?_
        refine de rfl (eo_mv rfl rfl) rfl ?_
        refine de rfl (eo_indexN rfl sl37 rfl rfl (by omega) (by omega)) rfl ?_
        refine de rfl (eo_loadM (k := 0 + i * 3) (cs := [.int .i64 ((opsM ⟨W, H, n, f⟩ rx ry) i).W, .int .i64 ((opsM ⟨W, H, n, f⟩ rx ry) i).H, .slice (A59 i) ((opsM ⟨W, H, n, f⟩ rx ry) i).n (c59 i)]) 1 rfl a24 rfl rfl rfl rfl (fun j hj => flat3_at (by omega) hj)) rfl ?_
        refine de rfl (eo_mv rfl rfl) rfl ?_
        refine de rfl (eo_mv rfl rfl) rfl ?_
        refine de rfl (eo_indexN rfl sl37 rfl rfl (by omega) (by omega)) rfl ?_
        refine de rfl (eo_loadM (k := 0 + i * 3) (cs := [.int .i64 ((opsM ⟨W, H, n, g1⟩ rx ry) i).W, .int .i64 ((opsM ⟨W, H, n, g1⟩ rx ry) i).H, .slice (A63 i) ((opsM ⟨W, H, n, g1⟩ rx ry) i).n (c63 i)]) 0 rfl a24 rfl rfl rfl rfl (fun j hj => flat3_at (by omega) hj)) rfl ?_
        refine de rfl (eo_call rfl en26 rfl (fun W1 hO => within37_c _ _ _ _ _ _ _ _ _ _ _ _ W1 ((hS59 i (by omega)).2.rd (hO.tl 5 rfl (List.sublist_append_left _ _))) ((hS63 i (by omega)).2.rd (hO.tl 5 rfl (List.sublist_append_right _ _))) (Nat.le_trans opsM_le (by decide)))) rfl ?_
        refine de rfl (eo_not rfl rfl) rfl ?_
        refine ge_nil ?_
        refine ga_nil ?_
        refine gi_nil ?_
        refine gq_nq ?_
        refine gq_next ?_
        refine gc_cond rfl (fun hc3 => ?_) (fun hc3 => ?_)
        ·
          have hd3 := (not_t hc3)
          exact Bool.noConfusion ((ops_mono (a := ⟨W, H, n, f⟩) (b := ⟨W, H, n, g1⟩) (rx := rx) (ry := ry) (i := i) ⟨rfl, rfl, rfl, hI⟩).symm.trans (not_t hc3))
        ·
          have hd3 := (not_f hc3)
          refine gc_skip ?_
          refine gq_block_end ?_
          refine gq_next ?_
          refine gc_region ?_
          refine ne (eo_add rfl rfl rfl (by omega) (by omega)) rfl ?_
          refine ne (eo_mv rfl rfl) rfl ?_
          refine go_nil ?_
          exact round1 (i + 1) (by omega) (by omega) ⟨rfl, rfl, rfl, rfl, trivial⟩ (List.Sublist.refl _)
      ·
        replace hc2 := of_decide_eq_false hc2
        refine gc_exit ?_
        refine gq_then_exit ?_
        refine gq_then_exit ?_
        refine gq_block_hit ?_
        refine gq_next ?_
        refine gc_seq ?_
        refine gc_region ?_
        refine ne (eo_call rfl en11 rfl (fun W1 hO => exam_c W1  )) rfl ?_
        refine ne (eo_as rfl rfl) rfl ?_
        refine go_nil ?_
        refine gq_next ?_
        refine gc_ret ?_
        refine gq_results (res1 rfl rfl) ?_
        exact fun W1 hO => ⟨rfl, hO.toExt⟩

end Go.Proofs.Ytmkdfbaklookdaa
