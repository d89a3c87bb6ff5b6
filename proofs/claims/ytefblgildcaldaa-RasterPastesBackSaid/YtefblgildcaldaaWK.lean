/-
  The walks of the functions of package raster and of the document's answer (part K): what each call returns, at every argument.
-/
import Derived.Test.YtefblgildcaldaaWH
import Derived.Test.YtefblgildcaldaaPd
namespace Go.Proofs.Ytefblgildcaldaa
open Go.RowKit Go.Eng

open Go.Bs
theorem en13 : Ent Try.prog 13 := ent_of Try.func13 (by kernel_rfl) rfl
theorem en21 : Ent Try.prog 21 := ent_of Try.func21 (by kernel_rfl) rfl
theorem en16 : Ent Try.prog 16 := ent_of Try.func16 (by kernel_rfl) rfl

theorem crop_x (W H : Int) (A : Option Addr) (n c : Nat) (f : Nat → Bool) (X Y BW BH : Int) (w : World) (hr : Rd w A (tab n (bv f))) (hnc : n ≤ c) :
    Calls Try.prog 14 #[.agg #[.int .i64 W, .int .i64 H, .slice A n c], .agg #[.int .i64 X, .int .i64 Y, .int .i64 BW, .int .i64 BH]] w (fun e w' => ∃ v Hn, e = .returned v ∧ RX (cropR ⟨W, H, n, f⟩ X Y BW BH) v Hn ∧ Ow [] w w' Hn) := by
  cases hv : vldB W H n
  · exact (crop_arg X Y BW BH W H A n c f w hr hv).mono fun e w1 ⟨he, hx⟩ => rx_no he hx (cropR_no hv)
  · cases hf : fitsB BW BH
    · exact (crop_size X Y BW BH W H A n c f w hr hv hf).mono fun e w1 ⟨he, hx⟩ => rx_no he hx (cropR_size hv hf)
    · exact (crop_ok X Y BW BH W H A n c f w hr hnc hv hf).mono fun e w1 ⟨v, Hn, he, hR, hO⟩ => ⟨v, Hn, he, re_rx' hR (cropR_ok hv hf) (fun j hj => crop_near hv hf hj), hO⟩

theorem rcrop_x (W H : Int) (A : Option Addr) (n c : Nat) (f : Nat → Bool) (X Y BW BH : Int) (w : World) (hr : Rd w A (tab n (bv f))) :
    Calls Try.prog 15 #[.agg #[.int .i64 W, .int .i64 H, .slice A n c], .agg #[.int .i64 X, .int .i64 Y, .int .i64 BW, .int .i64 BH]] w (fun e w' => ∃ v Hn, e = .returned v ∧ RX (cropR ⟨W, H, n, f⟩ X Y BW BH) v Hn ∧ Ow [] w w' Hn) := by
  cases hv : vldB W H n
  · exact (rcrop_arg X Y BW BH W H A n c f w hr hv).mono fun e w1 ⟨he, hx⟩ => rx_no he hx (cropR_no hv)
  · cases hf : fitsB BW BH
    · exact (rcrop_size X Y BW BH W H A n c f w hr hv hf).mono fun e w1 ⟨he, hx⟩ => rx_no he hx (cropR_size hv hf)
    · exact (rcrop_ok X Y BW BH W H A n c f w hr hv hf).mono fun e w1 ⟨v, Hn, he, hR, hO⟩ => ⟨v, Hn, he, re_rx' hR (cropR_ok hv hf) (fun j hj => rfl), hO⟩

theorem paste_x (W H : Int) (A : Option Addr) (n c : Nat) (f : Nat → Bool) (W1 H1 : Int) (A1 : Option Addr) (n1 c1 : Nat) (f1 : Nat → Bool) (x y : Int) (w : World) (hr : Rd w A (tab n (bv f))) (hr1 : Rd w A1 (tab n1 (bv f1))) (hpc : n1 ≤ c1) :
    Calls Try.prog 21 #[.agg #[.int .i64 W, .int .i64 H, .slice A n c], .agg #[.int .i64 W1, .int .i64 H1, .slice A1 n1 c1], .int .i64 x, .int .i64 y] w (fun e w' => ∃ v Hn, e = .returned v ∧ RX (pasteR ⟨W, H, n, f⟩ ⟨W1, H1, n1, f1⟩ x y) v Hn ∧ Ow [] w w' Hn) := by
  cases hb : (vldB W H n && vldB W1 H1 n1)
  · exact (paste_no x y W H W1 H1 A A1 n c n1 c1 f f1 w hr hr1 hb).mono fun e w1 ⟨he, hx⟩ => rx_no he hx (pasteR_no hb)
  · simp only [Bool.and_eq_true] at hb
    exact (paste_ok x y W H W1 H1 A A1 n c n1 c1 f f1 w hr hr1 hpc hb.1 hb.2).mono fun e w1 ⟨v, Hn, he, hR, hO⟩ => ⟨v, Hn, he, re_rx' hR (pasteR_ok hb.1 hb.2) (fun j hj => paste_eq hb.1 hb.2 hj), hO⟩

theorem rpaste_x (W H : Int) (A : Option Addr) (n c : Nat) (f : Nat → Bool) (W1 H1 : Int) (A1 : Option Addr) (n1 c1 : Nat) (f1 : Nat → Bool) (x y : Int) (w : World) (hr : Rd w A (tab n (bv f))) (hr1 : Rd w A1 (tab n1 (bv f1))) :
    Calls Try.prog 22 #[.agg #[.int .i64 W, .int .i64 H, .slice A n c], .agg #[.int .i64 W1, .int .i64 H1, .slice A1 n1 c1], .int .i64 x, .int .i64 y] w (fun e w' => ∃ v Hn, e = .returned v ∧ RX (pasteR ⟨W, H, n, f⟩ ⟨W1, H1, n1, f1⟩ x y) v Hn ∧ Ow [] w w' Hn) := by
  cases hb : (vldB W H n && vldB W1 H1 n1)
  · exact (rpaste_no x y W H W1 H1 A A1 n c n1 c1 f f1 w hr hr1 hb).mono fun e w1 ⟨he, hx⟩ => rx_no he hx (pasteR_no hb)
  · simp only [Bool.and_eq_true] at hb
    exact (rpaste_ok x y W H W1 H1 A A1 n c n1 c1 f f1 w hr hr1 hb.1 hb.2).mono fun e w1 ⟨v, Hn, he, hR, hO⟩ => ⟨v, Hn, he, re_rx' hR (pasteR_ok hb.1 hb.2) (fun j hj => rfl), hO⟩

/-- barscan/barscanlaw31.RasterPastesBack -/
theorem back_c (W H : Int) (A : Option Addr) (n c : Nat) (f : Nat → Bool) (W1 H1 : Int) (A1 : Option Addr) (n1 c1 : Nat) (f1 : Nat → Bool) (x : Int) (y : Int) (w : World) (hr : Rd w A (tab n (bv f))) (hr1 : Rd w A1 (tab n1 (bv f1))) (hnc : n ≤ c) (hnc1 : n1 ≤ c1) (hx0 : 0 ≤ x) (hx1 : x ≤ 255) (hy0 : 0 ≤ y) (hy1 : y ≤ 255) :
    Calls Try.prog 6 #[.agg #[.int .i64 W, .int .i64 H, .slice A n c], .agg #[.int .i64 W1, .int .i64 H1, .slice A1 n1 c1], .int .u8 x, .int .u8 y] w (fun e w' => e = .returned (.bool true) ∧ Ext w w') := by
  refine calls_enter (N := ⟨168, []⟩) [] ([]) Try.func6 rfl rfl rfl (Ow.start _) ?_
  refine gc_seq ?_
  refine gc_region ?_
  refine nx (xo_boxA rfl rfl) rfl ?_
  rintro _ _ ⟨g4, rfl, rfl⟩
  refine nx (xo_boxA rfl rfl) rfl ?_
  rintro _ _ ⟨g5, rfl, rfl⟩
  refine ne (eo_as rfl rfl) rfl ?_
  refine go_nil ?_
  refine gq_next ?_
  refine gc_seq ?_
  refine gc_seq ?_
  refine gc_region ?_
  refine ne (eo_field rfl f24_2 rfl) rfl ?_
  refine ne (eo_load 1 rfl s22 rfl rfl rfl rfl) rfl ?_
  refine ne (eo_len rfl Try.underlying22 rfl) rfl ?_
  refine ne (eo_gtr rfl rfl rfl) rfl ?_
  refine ne (eo_mv rfl rfl) rfl ?_
  refine ng rfl rfl (fun h => eo_field rfl f24_2 rfl) rfl ?_
  refine ng rfl rfl (fun h => eo_load 0 rfl s22 (ev_if h rfl) rfl rfl rfl) rfl ?_
  refine ng rfl rfl (fun h => eo_len rfl Try.underlying22 (ev_if h rfl)) rfl ?_
  refine ng rfl rfl (fun h => eo_gtr rfl (ev_if h rfl) rfl) rfl ?_
  refine ne (eo_or rfl rfl (fun hb => ev_if hb rfl)) rfl ?_
  refine go_nil ?_
  refine gq_next ?_
  refine gc_cond rfl (fun hc0 => ?_) (fun hc0 => ?_)
  ·
    have hd0 := (or_t hc0).imp (fun h => of_decide_eq_true h) (fun h => of_decide_eq_true h)
    refine gc_seq ?_
    refine gc_region ?_
    refine ne (eo_call rfl en13 rfl (fun W1 hO => examples_c W1  )) rfl ?_
    refine ne (eo_as rfl rfl) rfl ?_
    refine go_nil ?_
    refine gq_next ?_
    refine gc_ret ?_
    refine gq_then_ret ?_
    refine gq_results (res1 rfl rfl) ?_
    exact fun W2 hO => ⟨rfl, hO.toExt⟩
  ·
    have hd0 := (or_f hc0).imp (fun h => of_decide_eq_false h) (fun h => of_decide_eq_false h)
    refine gc_skip ?_
    refine gq_next ?_
    refine gc_seq ?_
    refine gc_region ?_
    refine ne (eo_loadA 1 rfl a24 rfl rfl rfl rfl) rfl ?_
    refine ne (eo_loadA 0 rfl a24 rfl rfl rfl rfl) rfl ?_
    refine ne (eo_mv rfl rfl) rfl ?_
    refine ne (eo_convi rfl rfl ⟨_, Try.underlying5⟩ Try.underlying3 (by omega) (by omega)) rfl ?_
    refine ne (eo_mv rfl rfl) rfl ?_
    refine ne (eo_convi rfl rfl ⟨_, Try.underlying5⟩ Try.underlying3 (by omega) (by omega)) rfl ?_
    refine nx (xo_freshT rfl en21 rfl (fun W1 hO => paste_x _ _ _ _ _ _ _ _ _ _ _ _ _ _ W1 (hr.old0 hO) (hr1.old0 hO) hnc1)) rfl ?_
    rintro _ _ ⟨S34, ⟨A34, k34, rfl, hk34, hS34⟩, rfl⟩
    refine ne (eo_mv rfl rfl) rfl ?_
    refine ne (eo_extract rfl rfl rfl) rfl ?_
    refine ne (eo_extract rfl rfl rfl) rfl ?_
    refine nx (xo_alloc rfl z24) rfl ?_
    rintro _ _ ⟨g9, rfl, rfl⟩
    refine nu (xo_storeA 0 rfl a24 rfl rfl (ones_cons (by first | rfl | exact AS.one) (ones_cons (by first | rfl | exact AS.one) (ones_cons (by first | rfl | exact AS.one) ones_nil))) rfl rfl rfl rfl) ?_
    rintro _ _ ⟨rfl, rfl⟩
    refine ne (eo_as rfl rfl) rfl ?_
    refine go_nil ?_
    refine gq_next ?_
    refine gc_seq ?_
    refine gc_seq ?_
    refine gc_region ?_
    refine ne (eo_mv rfl rfl) rfl ?_
    refine ne (eo_neq rfl rfl rfl) rfl ?_
    refine go_nil ?_
    refine gq_next ?_
    refine gc_cond rfl (fun hc1 => ?_) (fun hc1 => ?_)
    ·
      replace hc1 := of_decide_eq_true hc1
      have h2 := pasteR_two hc1
      have h3 : (!vldB W H n || !vldB W1 H1 n1) = true := by have := h2.2; simp only [Pm.vld] at this; cases h4 : vldB W H n <;> cases h5 : vldB W1 H1 n1 <;> simp_all
      refine gc_seq ?_
      refine gc_region ?_
      refine ne (eo_mv rfl rfl) rfl ?_
      refine ne (eo_eql rfl rfl rfl) rfl ?_
      refine ne (eo_mv rfl rfl) rfl ?_
      refine ng rfl rfl (fun h => eo_loadA 2 rfl a24 rfl rfl rfl rfl) rfl ?_
      refine ng rfl rfl (fun h => eo_call rfl en23 (evs_cons (ev_if h rfl) evs_nil) (fun W1 hO => check_c _ _ _ _ _ W1  )) rfl ?_
      refine ng rfl rfl (fun h => eo_neq rfl (ev_if h rfl) rfl) rfl ?_
      refine ng rfl rfl (fun h => eo_mv rfl (ev_if h rfl)) rfl ?_
      refine ngc rfl rfl (fun h => eo_loadA 1 rfl a24 rfl rfl rfl rfl) rfl ?_
      refine ngc rfl rfl (fun h => eo_call rfl en23 (evs_cons (ev_if h rfl) evs_nil) (fun W1 hO => check_c _ _ _ _ _ W1  )) rfl ?_
      refine ngc rfl rfl (fun h => eo_neq rfl (ev_if h rfl) rfl) rfl ?_
      refine ng rfl rfl (fun h => eo_or rfl (ev_if h rfl) (fun hb => ev_if ⟨h, hb⟩ rfl)) rfl ?_
      refine ne (eo_and rfl rfl (fun hb => ev_if hb rfl)) rfl ?_
      refine ne (eo_mv rfl rfl) rfl ?_
      refine ng rfl rfl (fun h => eo_call rfl en13 rfl (fun W1 hO => examples_c W1  )) rfl ?_
      refine ne (eo_and rfl rfl (fun hb => ev_if hb rfl)) rfl ?_
      refine ne (eo_as rfl rfl) rfl ?_
      refine go_nil ?_
      refine gq_next ?_
      refine gc_ret ?_
      refine gq_then_ret ?_
      refine gq_results (res1 rfl rfl) ?_
      exact fun W2 hO => ⟨ret_bool (by rw [chk_ne, chk_ne, h3]; simp [h2.1]), hO.toExt⟩
    ·
      replace hc1 := of_decide_eq_false hc1
      obtain ⟨hv, hp⟩ := pasteR_zero hc1
      have hR := pasteR_ok (x := x) (y := y) hv hp
      have hW : (pasteR ⟨W, H, n, f⟩ ⟨W1, H1, n1, f1⟩ x y).1.W = W := by rw [hR]
      have hH : (pasteR ⟨W, H, n, f⟩ ⟨W1, H1, n1, f1⟩ x y).1.H = H := by rw [hR]
      have hN : (pasteR ⟨W, H, n, f⟩ ⟨W1, H1, n1, f1⟩ x y).1.n = n := by rw [hR]
      obtain ⟨v1, v2, v3, v4, v5, v6⟩ := vldB_iff.1 (show vldB W H n = true from hv)
      obtain ⟨u1, u2, u3, u4, u5, u6⟩ := vldB_iff.1 (show vldB W1 H1 n1 = true from hp)
      refine gc_skip ?_
      refine gq_next ?_
      refine gc_seq ?_
      refine gc_seq ?_
      refine gc_region ?_
      refine ne (eo_field rfl f24_0 rfl) rfl ?_
      refine ne (eo_load 0 rfl s3 rfl rfl rfl rfl) rfl ?_
      refine ne (eo_field rfl f24_0 rfl) rfl ?_
      refine ne (eo_load 2 rfl s3 rfl rfl rfl rfl) rfl ?_
      refine ne (eo_neq rfl rfl rfl) rfl ?_
      refine ne (eo_mv rfl rfl) rfl ?_
      refine ng rfl rfl (fun h => eo_field rfl f24_1 rfl) rfl ?_
      refine ng rfl rfl (fun h => eo_load 0 rfl s3 (ev_if h rfl) rfl rfl rfl) rfl ?_
      refine ng rfl rfl (fun h => eo_field rfl f24_1 rfl) rfl ?_
      refine ng rfl rfl (fun h => eo_load 2 rfl s3 (ev_if h rfl) rfl rfl rfl) rfl ?_
      refine ng rfl rfl (fun h => eo_neq rfl (ev_if h rfl) (ev_if h rfl)) rfl ?_
      refine ne (eo_or rfl rfl (fun hb => ev_if hb rfl)) rfl ?_
      refine ne (eo_mv rfl rfl) rfl ?_
      refine ng rfl rfl (fun h => eo_field rfl f24_2 rfl) rfl ?_
      refine ng rfl rfl (fun h => eo_load 0 rfl s22 (ev_if h rfl) rfl rfl rfl) rfl ?_
      refine ng rfl rfl (fun h => eo_len rfl Try.underlying22 (ev_if h rfl)) rfl ?_
      refine ng rfl rfl (fun h => eo_field rfl f24_2 rfl) rfl ?_
      refine ng rfl rfl (fun h => eo_load 2 rfl s22 (ev_if h rfl) rfl rfl rfl) rfl ?_
      refine ng rfl rfl (fun h => eo_len rfl Try.underlying22 (ev_if h rfl)) rfl ?_
      refine ng rfl rfl (fun h => eo_neq rfl (ev_if h rfl) (ev_if h rfl)) rfl ?_
      refine ne (eo_or rfl rfl (fun hb => ev_if hb rfl)) rfl ?_
      refine go_nil ?_
      refine gq_next ?_
      refine gc_cond rfl (fun hc2 => ?_) (fun hc2 => ?_)
      ·
        have hd2 := (or_t hc2).imp (fun h => (or_t h).imp (fun h => of_decide_eq_true h) (fun h => of_decide_eq_true h)) (fun h => of_decide_eq_true h)
        exfalso; omega
      ·
        have hd2 := (or_f hc2).imp (fun h => (or_f h).imp (fun h => ne_f h) (fun h => ne_f h)) (fun h => ne_f h)
        refine gc_skip ?_
        refine gq_next ?_
        refine gc_seq ?_
        refine gc_seq ?_
        refine gc_region ?_
        refine ne (eo_mv rfl rfl) rfl ?_
        refine ne (eo_convi rfl rfl ⟨_, Try.underlying5⟩ Try.underlying3 (by omega) (by omega)) rfl ?_
        refine ne (eo_field rfl f24_0 rfl) rfl ?_
        refine ne (eo_load 1 rfl s3 rfl rfl rfl rfl) rfl ?_
        refine ne (eo_add rfl rfl rfl (by omega) (by omega)) rfl ?_
        refine ne (eo_field rfl f24_0 rfl) rfl ?_
        refine ne (eo_load 2 rfl s3 rfl rfl rfl rfl) rfl ?_
        refine ne (eo_leq rfl rfl rfl) rfl ?_
        refine ne (eo_mv rfl rfl) rfl ?_
        refine ng rfl rfl (fun h => eo_mv rfl rfl) rfl ?_
        refine ng rfl rfl (fun h => eo_convi rfl (ev_if h rfl) ⟨_, Try.underlying5⟩ Try.underlying3 (by have hg0 := of_decide_eq_true h; omega) (by have hg0 := of_decide_eq_true h; omega)) rfl ?_
        refine ng rfl rfl (fun h => eo_field rfl f24_1 rfl) rfl ?_
        refine ng rfl rfl (fun h => eo_load 1 rfl s3 (ev_if h rfl) rfl rfl rfl) rfl ?_
        refine ng rfl rfl (fun h => eo_add rfl (ev_if h rfl) (ev_if h rfl) (by have hg0 := of_decide_eq_true h; omega) (by have hg0 := of_decide_eq_true h; omega)) rfl ?_
        refine ng rfl rfl (fun h => eo_field rfl f24_1 rfl) rfl ?_
        refine ng rfl rfl (fun h => eo_load 2 rfl s3 (ev_if h rfl) rfl rfl rfl) rfl ?_
        refine ng rfl rfl (fun h => eo_leq rfl (ev_if h rfl) (ev_if h rfl)) rfl ?_
        refine ne (eo_and rfl rfl (fun hb => ev_if hb rfl)) rfl ?_
        refine go_nil ?_
        refine gq_next ?_
        refine gc_cond rfl (fun hc3 => ?_) (fun hc3 => ?_)
        ·
          have hd3 := (and_t hc3).imp (fun h => of_decide_eq_true h) (fun h => of_decide_eq_true h)
          refine gc_seq ?_
          refine gc_region ?_
          refine ne (eo_loadA 0 rfl a24 rfl rfl rfl rfl) rfl ?_
          refine ne (eo_mv rfl rfl) rfl ?_
          refine ne (eo_convi rfl rfl ⟨_, Try.underlying5⟩ Try.underlying3 (by omega) (by omega)) rfl ?_
          refine ne (eo_mv rfl rfl) rfl ?_
          refine ne (eo_convi rfl rfl ⟨_, Try.underlying5⟩ Try.underlying3 (by omega) (by omega)) rfl ?_
          refine ne (eo_field rfl f24_0 rfl) rfl ?_
          refine ne (eo_load 1 rfl s3 rfl rfl rfl rfl) rfl ?_
          refine ne (eo_field rfl f24_1 rfl) rfl ?_
          refine ne (eo_load 1 rfl s3 rfl rfl rfl rfl) rfl ?_
          refine ne (eo_build rfl rfl (b26_0123 _ _ _ _)) rfl ?_
          refine nx (xo_freshT rfl en14 rfl (fun W1 hO => crop_x _ _ _ _ _ _ _ _ _ _ W1 (hS34.rd (hO.tl 3 rfl (List.Sublist.refl _))) hk34)) rfl ?_
          rintro _ _ ⟨S104, ⟨A104, k104, rfl, hk104, hS104⟩, rfl⟩
          refine ne (eo_mv rfl rfl) rfl ?_
          refine ne (eo_extract rfl rfl rfl) rfl ?_
          refine ne (eo_extract rfl rfl rfl) rfl ?_
          refine nx (xo_alloc rfl z24) rfl ?_
          rintro _ _ ⟨g11, rfl, rfl⟩
          refine nu (xo_storeA 0 rfl a24 rfl rfl (ones_cons (by first | rfl | exact AS.one) (ones_cons (by first | rfl | exact AS.one) (ones_cons (by first | rfl | exact AS.one) ones_nil))) rfl rfl rfl rfl) ?_
          rintro _ _ ⟨rfl, rfl⟩
          refine ne (eo_as rfl rfl) rfl ?_
          refine go_nil ?_
          refine gq_next ?_
          refine gc_seq ?_
          refine gc_region ?_
          refine ne (eo_mv rfl rfl) rfl ?_
          refine ne (eo_neq rfl rfl rfl) rfl ?_
          refine ne (eo_mv rfl rfl) rfl ?_
          refine ng rfl rfl (fun h => eo_loadA 0 rfl a24 rfl rfl rfl rfl) rfl ?_
          refine ng rfl rfl (fun h => eo_loadA 2 rfl a24 rfl rfl rfl rfl) rfl ?_
          refine ng rfl rfl (fun h => eo_call rfl en16 (evs_cons (ev_if h rfl) (evs_cons (ev_if h rfl) evs_nil)) (fun W1 hO => same_c _ _ _ _ _ _ _ _ _ _ _ _ W1 (Nat.le_trans cropR_le (by decide)) (hS104.rd (hO.tl 4 rfl (List.sublist_append_right _ _))) (hr1.old0 hO))) rfl ?_
          refine ng rfl rfl (fun h => eo_not rfl (ev_if h rfl)) rfl ?_
          refine ne (eo_or rfl rfl (fun hb => ev_if hb rfl)) rfl ?_
          refine go_nil ?_
          refine gq_next ?_
          refine gc_cond rfl (fun hc4 => ?_) (fun hc4 => ?_)
          ·
            have hd4 := (or_t hc4).imp (fun h => of_decide_eq_true h) (fun h => (not_t h))
            have hb := paste_back (x := x) (y := y) hv hp hx0 hx1 hy0 hy1 (by simp only; omega) (by simp only; omega)
            exact Bool.noConfusion (hc4.symm.trans (show (decide ((cropR (pasteR ⟨W, H, n, f⟩ ⟨W1, H1, n1, f1⟩ x y).1 x y W1 H1).2 ≠ 0) || (!(eqP (cropR (pasteR ⟨W, H, n, f⟩ ⟨W1, H1, n1, f1⟩ x y).1 x y W1 H1).1 ⟨W1, H1, n1, f1⟩))) = false from by simp [hb.1, eqP_of hb.2]))
          ·
            have hd4 := (or_f hc4).imp (fun h => ne_f h) (fun h => (not_f h))
            refine gc_skip ?_
            refine gq_next ?_
            refine gc_seq ?_
            refine gc_seq ?_
            refine gc_region ?_
            refine ne (eo_field rfl f24_2 rfl) rfl ?_
            refine ne (eo_load 3 rfl s22 rfl rfl rfl rfl) rfl ?_
            refine ne (eo_len rfl Try.underlying22 rfl) rfl ?_
            refine ne (eo_mv rfl rfl) rfl ?_
            refine go_nil ?_
            refine gq_next ?_
            refine gc_block ?_
            refine loop1 (fun (i : Nat) => i ≤ n) (fun (i : Nat) => n - i) (fun (i : Nat) => [(2, .int .u8 x), (3, .int .u8 y), (4, .pointer (some ⟨g4, 0, none⟩)), (5, .pointer (some ⟨g5, 0, none⟩)), (9, .pointer (some ⟨g9, 0, none⟩)), (117, .int .i64 ((n : Nat) : Int)), (118, .int .i64 (i : Int))]) (fun (i : Nat) => ⟨g11, 24, [.int .i64 ((cropR (pasteR ⟨W, H, n, f⟩ ⟨W1, H1, n1, f1⟩ x y).1 x y W1 H1).1.W), .int .i64 ((cropR (pasteR ⟨W, H, n, f⟩ ⟨W1, H1, n1, f1⟩ x y).1 x y W1 H1).1.H), .slice A104 ((cropR (pasteR ⟨W, H, n, f⟩ ⟨W1, H1, n1, f1⟩ x y).1 x y W1 H1).1.n) k104]⟩ :: ⟨g9, 24, [.int .i64 ((pasteR ⟨W, H, n, f⟩ ⟨W1, H1, n1, f1⟩ x y).1.W), .int .i64 ((pasteR ⟨W, H, n, f⟩ ⟨W1, H1, n1, f1⟩ x y).1.H), .slice A34 ((pasteR ⟨W, H, n, f⟩ ⟨W1, H1, n1, f1⟩ x y).1.n) k34]⟩ :: ⟨g5, 24, [.int .i64 W1, .int .i64 H1, .slice A1 n1 c1]⟩ :: ⟨g4, 24, [.int .i64 W, .int .i64 H, .slice A n c]⟩ :: (S34 ++ S104)) 0 (by omega) ⟨rfl, rfl, rfl, rfl, rfl, rfl, rfl, trivial⟩ (List.Sublist.refl _) ?_
            intro i hI
            refine gc_seq ?_
            refine gc_region ?_
            refine ne (eo_lss rfl rfl rfl) rfl ?_
            refine go_nil ?_
            refine gq_next ?_
            refine gc_seq ?_
            refine gc_cond rfl (fun hc5 => ?_) (fun hc5 => ?_)
            ·
              replace hc5 := of_decide_eq_true hc5
              have hcb := cell_bd (show vldB W H n = true from hv) (show i < n by omega)
              refine gc_skip ?_
              refine gq_next ?_
              refine gc_seq ?_
              refine gc_block ?_
              refine gc_seq ?_
              refine gc_region ?_
              refine ne (eo_mv rfl rfl) rfl ?_
              refine ne (eo_as rfl rfl) rfl ?_
              refine go_nil ?_
              refine gq_next ?_
              refine gc_seq ?_
              refine gc_draw [] [0, 1, 2, 3, 4, 5, 6, 7, 8, 9, 10, 11, 12, 13, 14, 15] [] [] (by kernel_rfl) (by kernel_rfl) ?_
              refine gp_nil ?_
              refine de rfl (eo_mv rfl rfl) rfl ?_
              refine de rfl (eo_field rfl f24_0 rfl) rfl ?_
              refine de rfl (eo_load 3 rfl s3 rfl rfl rfl rfl) rfl ?_
              refine de rfl (eo_rem rfl rfl rfl (by omega) (by omega)) rfl ?_
              refine de rfl (eo_mv rfl rfl) rfl ?_
              refine de rfl (eo_convi rfl rfl ⟨_, Try.underlying5⟩ Try.underlying3 (by omega) (by omega)) rfl ?_
              refine de rfl (eo_sub rfl rfl rfl (by omega) (by omega)) rfl ?_
              refine de rfl (eo_mv rfl rfl) rfl ?_
              refine de rfl (eo_field rfl f24_0 rfl) rfl ?_
              refine de rfl (eo_load 3 rfl s3 rfl rfl rfl rfl) rfl ?_
              refine de rfl (eo_quo rfl rfl rfl (by omega) (by omega) (by omega)) rfl ?_
              refine de rfl (eo_mv rfl rfl) rfl ?_
              refine de rfl (eo_convi rfl rfl ⟨_, Try.underlying5⟩ Try.underlying3 (by omega) (by omega)) rfl ?_
              refine de rfl (eo_sub rfl rfl rfl (by omega) (by omega)) rfl ?_
              refine de rfl (eo_as rfl rfl) rfl ?_
              refine de rfl (eo_as rfl rfl) rfl ?_
              refine ge_nil ?_
              refine ga_nil ?_
              refine gi_nil ?_
              refine gq_nq ?_
              refine gq_next ?_
              refine gc_seq ?_
              refine gc_draw [] [0, 1, 2, 3, 4, 5, 6, 7, 8, 9, 10, 11, 12, 13, 14, 15, 16, 17, 18, 19, 20, 21, 22, 23, 24, 25, 26, 27, 28, 29, 30] [] [] (by kernel_rfl) (by kernel_rfl) ?_
              refine gp_nil ?_
              refine de rfl (eo_mv rfl rfl) rfl ?_
              refine de rfl (eo_lss rfl rfl rfl) rfl ?_
              refine de rfl (eo_mv rfl rfl) rfl ?_
              refine dg rfl rfl rfl (fun h => eo_mv rfl rfl) rfl ?_
              refine dg rfl rfl rfl (fun h => eo_field rfl f24_0 rfl) rfl ?_
              refine dg rfl rfl rfl (fun h => eo_load 2 rfl s3 (ev_if h rfl) rfl rfl rfl) rfl ?_
              refine dg rfl rfl rfl (fun h => eo_geq rfl (ev_if h rfl) (ev_if h rfl)) rfl ?_
              refine de rfl (eo_or rfl rfl (fun hb => ev_if hb rfl)) rfl ?_
              refine de rfl (eo_mv rfl rfl) rfl ?_
              refine dg rfl rfl rfl (fun h => eo_mv rfl rfl) rfl ?_
              refine dg rfl rfl rfl (fun h => eo_lss rfl (ev_if h rfl) rfl) rfl ?_
              refine de rfl (eo_or rfl rfl (fun hb => ev_if hb rfl)) rfl ?_
              refine de rfl (eo_mv rfl rfl) rfl ?_
              refine dg rfl rfl rfl (fun h => eo_mv rfl rfl) rfl ?_
              refine dg rfl rfl rfl (fun h => eo_field rfl f24_1 rfl) rfl ?_
              refine dg rfl rfl rfl (fun h => eo_load 2 rfl s3 (ev_if h rfl) rfl rfl rfl) rfl ?_
              refine dg rfl rfl rfl (fun h => eo_geq rfl (ev_if h rfl) (ev_if h rfl)) rfl ?_
              refine de rfl (eo_or rfl rfl (fun hb => ev_if hb rfl)) rfl ?_
              refine de rfl (eo_mv rfl rfl) rfl ?_
              refine dg rfl rfl rfl (fun h => eo_field rfl f24_2 rfl) rfl ?_
              refine dg rfl rfl rfl (fun h => eo_load 1 rfl s22 (ev_if h rfl) rfl rfl rfl) rfl ?_
              refine dg rfl rfl rfl (fun h => eo_mv rfl rfl) rfl ?_
              refine dg rfl rfl rfl (fun h => eo_indexS rfl sl22 (ev_if h rfl) (ev_if h rfl) (fun W1 hO => (hS34.rd (hO.tl 4 rfl (List.sublist_append_left _ _)))) (by simp) (by have hg0 := (or_t h).imp (fun h => (or_t h).imp (fun h => (or_t h).imp (fun h => of_decide_eq_true h) (fun h => of_decide_eq_true h)) (fun h => of_decide_eq_true h)) (fun h => of_decide_eq_true h); omega) (by have hg0 := (or_t h).imp (fun h => (or_t h).imp (fun h => (or_t h).imp (fun h => of_decide_eq_true h) (fun h => of_decide_eq_true h)) (fun h => of_decide_eq_true h)) (fun h => of_decide_eq_true h); omega)) rfl ?_
              refine dg rfl rfl rfl (fun h => eo_loadS rfl s4 (ev_if h rfl) (fun W1 hO => Rd.tabb (hS34.rd (hO.tl 4 rfl (List.sublist_append_left _ _))) (by have hg0 := (or_t h).imp (fun h => (or_t h).imp (fun h => (or_t h).imp (fun h => of_decide_eq_true h) (fun h => of_decide_eq_true h)) (fun h => of_decide_eq_true h)) (fun h => of_decide_eq_true h); omega))) rfl ?_
              refine dg rfl rfl rfl (fun h => eo_field rfl f24_2 rfl) rfl ?_
              refine dg rfl rfl rfl (fun h => eo_load 3 rfl s22 (ev_if h rfl) rfl rfl rfl) rfl ?_
              refine dg rfl rfl rfl (fun h => eo_mv rfl rfl) rfl ?_
              refine dg rfl rfl rfl (fun h => eo_indexR rfl sl22 (ev_if h rfl) (ev_if h rfl) hr (by simp) (by have hg0 := (or_t h).imp (fun h => (or_t h).imp (fun h => (or_t h).imp (fun h => of_decide_eq_true h) (fun h => of_decide_eq_true h)) (fun h => of_decide_eq_true h)) (fun h => of_decide_eq_true h); omega) (by have hg0 := (or_t h).imp (fun h => (or_t h).imp (fun h => (or_t h).imp (fun h => of_decide_eq_true h) (fun h => of_decide_eq_true h)) (fun h => of_decide_eq_true h)) (fun h => of_decide_eq_true h); omega)) rfl ?_
              refine dg rfl rfl rfl (fun h => eo_load_old rfl s4 (ev_if h rfl) (Rd.tabb hr (by have hg0 := (or_t h).imp (fun h => (or_t h).imp (fun h => (or_t h).imp (fun h => of_decide_eq_true h) (fun h => of_decide_eq_true h)) (fun h => of_decide_eq_true h)) (fun h => of_decide_eq_true h); omega)) (by simp)) rfl ?_
              refine dg rfl rfl rfl (fun h => eo_bneq rfl (ev_if h rfl) (ev_if h rfl) Try.underlying4) rfl ?_
              refine de rfl (eo_and rfl rfl (fun hb => ev_if hb rfl)) rfl ?_
              refine ge_nil ?_
              refine ga_nil ?_
              refine gi_nil ?_
              refine gq_nq ?_
              refine gq_next ?_
              refine gc_cond rfl (fun hc6 => ?_) (fun hc6 => ?_)
              ·
                have hd6 := (and_t hc6).imp (fun h => (or_t h).imp (fun h => (or_t h).imp (fun h => (or_t h).imp (fun h => of_decide_eq_true h) (fun h => of_decide_eq_true h)) (fun h => of_decide_eq_true h)) (fun h => of_decide_eq_true h)) (fun h => h)
                exact absurd (paste_out (j := i) hv hp hx0 hx1 hy0 hy1 (by simp only; omega) (by simp only; omega)) (by simpa [bne] using hd6.2)
              ·
                have hd6 := (and_f hc6).imp (fun h => (or_f h).imp (fun h => (or_f h).imp (fun h => (or_f h).imp (fun h => of_decide_eq_false h) (fun h => of_decide_eq_false h)) (fun h => of_decide_eq_false h)) (fun h => of_decide_eq_false h)) (fun h => h)
                refine gc_skip ?_
                refine gq_block_end ?_
                refine gq_next ?_
                refine gc_region ?_
                refine ne (eo_add rfl rfl rfl (by omega) (by omega)) rfl ?_
                refine ne (eo_mv rfl rfl) rfl ?_
                refine go_nil ?_
                exact round1 (i + 1) (by omega) (by omega) ⟨rfl, rfl, rfl, rfl, rfl, rfl, rfl, trivial⟩ (List.Sublist.refl _)
            ·
              replace hc5 := of_decide_eq_false hc5
              refine gc_exit ?_
              refine gq_then_exit ?_
              refine gq_then_exit ?_
              refine gq_block_hit ?_
              refine gq_next ?_
              refine gc_seq ?_
              refine gc_region ?_
              refine ne (eo_call rfl en13 rfl (fun W1 hO => examples_c W1  )) rfl ?_
              refine ne (eo_as rfl rfl) rfl ?_
              refine go_nil ?_
              refine gq_next ?_
              refine gc_ret ?_
              refine gq_results (res1 rfl rfl) ?_
              exact fun W2 hO => ⟨rfl, hO.toExt⟩
        ·
          have hd3 := (and_f hc3).imp (fun h => of_decide_eq_false h) (fun h => of_decide_eq_false h)
          refine gc_skip ?_
          refine gq_next ?_
          refine gc_seq ?_
          refine gc_seq ?_
          refine gc_region ?_
          refine ne (eo_field rfl f24_2 rfl) rfl ?_
          refine ne (eo_load 2 rfl s22 rfl rfl rfl rfl) rfl ?_
          refine ne (eo_len rfl Try.underlying22 rfl) rfl ?_
          refine ne (eo_mv rfl rfl) rfl ?_
          refine go_nil ?_
          refine gq_next ?_
          refine gc_block ?_
          refine loop1 (fun (i : Nat) => i ≤ n) (fun (i : Nat) => n - i) (fun (i : Nat) => [(2, .int .u8 x), (3, .int .u8 y), (4, .pointer (some ⟨g4, 0, none⟩)), (5, .pointer (some ⟨g5, 0, none⟩)), (9, .pointer (some ⟨g9, 0, none⟩)), (117, .int .i64 ((n : Nat) : Int)), (118, .int .i64 (i : Int))]) (fun (i : Nat) => ⟨g9, 24, [.int .i64 ((pasteR ⟨W, H, n, f⟩ ⟨W1, H1, n1, f1⟩ x y).1.W), .int .i64 ((pasteR ⟨W, H, n, f⟩ ⟨W1, H1, n1, f1⟩ x y).1.H), .slice A34 ((pasteR ⟨W, H, n, f⟩ ⟨W1, H1, n1, f1⟩ x y).1.n) k34]⟩ :: ⟨g5, 24, [.int .i64 W1, .int .i64 H1, .slice A1 n1 c1]⟩ :: ⟨g4, 24, [.int .i64 W, .int .i64 H, .slice A n c]⟩ :: S34) 0 (by omega) ⟨rfl, rfl, rfl, rfl, rfl, rfl, rfl, trivial⟩ (List.Sublist.refl _) ?_
          intro i hI
          refine gc_seq ?_
          refine gc_region ?_
          refine ne (eo_lss rfl rfl rfl) rfl ?_
          refine go_nil ?_
          refine gq_next ?_
          refine gc_seq ?_
          refine gc_cond rfl (fun hc5 => ?_) (fun hc5 => ?_)
          ·
            replace hc5 := of_decide_eq_true hc5
            have hcb := cell_bd (show vldB W H n = true from hv) (show i < n by omega)
            refine gc_skip ?_
            refine gq_next ?_
            refine gc_seq ?_
            refine gc_block ?_
            refine gc_seq ?_
            refine gc_region ?_
            refine ne (eo_mv rfl rfl) rfl ?_
            refine ne (eo_as rfl rfl) rfl ?_
            refine go_nil ?_
            refine gq_next ?_
            refine gc_seq ?_
            refine gc_draw [] [0, 1, 2, 3, 4, 5, 6, 7, 8, 9, 10, 11, 12, 13, 14, 15] [] [] (by kernel_rfl) (by kernel_rfl) ?_
            refine gp_nil ?_
            refine de rfl (eo_mv rfl rfl) rfl ?_
            refine de rfl (eo_field rfl f24_0 rfl) rfl ?_
            refine de rfl (eo_load 2 rfl s3 rfl rfl rfl rfl) rfl ?_
            refine de rfl (eo_rem rfl rfl rfl (by omega) (by omega)) rfl ?_
            refine de rfl (eo_mv rfl rfl) rfl ?_
            refine de rfl (eo_convi rfl rfl ⟨_, Try.underlying5⟩ Try.underlying3 (by omega) (by omega)) rfl ?_
            refine de rfl (eo_sub rfl rfl rfl (by omega) (by omega)) rfl ?_
            refine de rfl (eo_mv rfl rfl) rfl ?_
            refine de rfl (eo_field rfl f24_0 rfl) rfl ?_
            refine de rfl (eo_load 2 rfl s3 rfl rfl rfl rfl) rfl ?_
            refine de rfl (eo_quo rfl rfl rfl (by omega) (by omega) (by omega)) rfl ?_
            refine de rfl (eo_mv rfl rfl) rfl ?_
            refine de rfl (eo_convi rfl rfl ⟨_, Try.underlying5⟩ Try.underlying3 (by omega) (by omega)) rfl ?_
            refine de rfl (eo_sub rfl rfl rfl (by omega) (by omega)) rfl ?_
            refine de rfl (eo_as rfl rfl) rfl ?_
            refine de rfl (eo_as rfl rfl) rfl ?_
            refine ge_nil ?_
            refine ga_nil ?_
            refine gi_nil ?_
            refine gq_nq ?_
            refine gq_next ?_
            refine gc_seq ?_
            refine gc_draw [] [0, 1, 2, 3, 4, 5, 6, 7, 8, 9, 10, 11, 12, 13, 14, 15, 16, 17, 18, 19, 20, 21, 22, 23, 24, 25, 26, 27, 28, 29, 30] [] [] (by kernel_rfl) (by kernel_rfl) ?_
            refine gp_nil ?_
            refine de rfl (eo_mv rfl rfl) rfl ?_
            refine de rfl (eo_lss rfl rfl rfl) rfl ?_
            refine de rfl (eo_mv rfl rfl) rfl ?_
            refine dg rfl rfl rfl (fun h => eo_mv rfl rfl) rfl ?_
            refine dg rfl rfl rfl (fun h => eo_field rfl f24_0 rfl) rfl ?_
            refine dg rfl rfl rfl (fun h => eo_load 1 rfl s3 (ev_if h rfl) rfl rfl rfl) rfl ?_
            refine dg rfl rfl rfl (fun h => eo_geq rfl (ev_if h rfl) (ev_if h rfl)) rfl ?_
            refine de rfl (eo_or rfl rfl (fun hb => ev_if hb rfl)) rfl ?_
            refine de rfl (eo_mv rfl rfl) rfl ?_
            refine dg rfl rfl rfl (fun h => eo_mv rfl rfl) rfl ?_
            refine dg rfl rfl rfl (fun h => eo_lss rfl (ev_if h rfl) rfl) rfl ?_
            refine de rfl (eo_or rfl rfl (fun hb => ev_if hb rfl)) rfl ?_
            refine de rfl (eo_mv rfl rfl) rfl ?_
            refine dg rfl rfl rfl (fun h => eo_mv rfl rfl) rfl ?_
            refine dg rfl rfl rfl (fun h => eo_field rfl f24_1 rfl) rfl ?_
            refine dg rfl rfl rfl (fun h => eo_load 1 rfl s3 (ev_if h rfl) rfl rfl rfl) rfl ?_
            refine dg rfl rfl rfl (fun h => eo_geq rfl (ev_if h rfl) (ev_if h rfl)) rfl ?_
            refine de rfl (eo_or rfl rfl (fun hb => ev_if hb rfl)) rfl ?_
            refine de rfl (eo_mv rfl rfl) rfl ?_
            refine dg rfl rfl rfl (fun h => eo_field rfl f24_2 rfl) rfl ?_
            refine dg rfl rfl rfl (fun h => eo_load 0 rfl s22 (ev_if h rfl) rfl rfl rfl) rfl ?_
            refine dg rfl rfl rfl (fun h => eo_mv rfl rfl) rfl ?_
            refine dg rfl rfl rfl (fun h => eo_indexS rfl sl22 (ev_if h rfl) (ev_if h rfl) (fun W1 hO => (hS34.rd (hO.tl 3 rfl (List.Sublist.refl _)))) (by simp) (by have hg0 := (or_t h).imp (fun h => (or_t h).imp (fun h => (or_t h).imp (fun h => of_decide_eq_true h) (fun h => of_decide_eq_true h)) (fun h => of_decide_eq_true h)) (fun h => of_decide_eq_true h); omega) (by have hg0 := (or_t h).imp (fun h => (or_t h).imp (fun h => (or_t h).imp (fun h => of_decide_eq_true h) (fun h => of_decide_eq_true h)) (fun h => of_decide_eq_true h)) (fun h => of_decide_eq_true h); omega)) rfl ?_
            refine dg rfl rfl rfl (fun h => eo_loadS rfl s4 (ev_if h rfl) (fun W1 hO => Rd.tabb (hS34.rd (hO.tl 3 rfl (List.Sublist.refl _))) (by have hg0 := (or_t h).imp (fun h => (or_t h).imp (fun h => (or_t h).imp (fun h => of_decide_eq_true h) (fun h => of_decide_eq_true h)) (fun h => of_decide_eq_true h)) (fun h => of_decide_eq_true h); omega))) rfl ?_
            refine dg rfl rfl rfl (fun h => eo_field rfl f24_2 rfl) rfl ?_
            refine dg rfl rfl rfl (fun h => eo_load 2 rfl s22 (ev_if h rfl) rfl rfl rfl) rfl ?_
            refine dg rfl rfl rfl (fun h => eo_mv rfl rfl) rfl ?_
            refine dg rfl rfl rfl (fun h => eo_indexR rfl sl22 (ev_if h rfl) (ev_if h rfl) hr (by simp) (by have hg0 := (or_t h).imp (fun h => (or_t h).imp (fun h => (or_t h).imp (fun h => of_decide_eq_true h) (fun h => of_decide_eq_true h)) (fun h => of_decide_eq_true h)) (fun h => of_decide_eq_true h); omega) (by have hg0 := (or_t h).imp (fun h => (or_t h).imp (fun h => (or_t h).imp (fun h => of_decide_eq_true h) (fun h => of_decide_eq_true h)) (fun h => of_decide_eq_true h)) (fun h => of_decide_eq_true h); omega)) rfl ?_
            refine dg rfl rfl rfl (fun h => eo_load_old rfl s4 (ev_if h rfl) (Rd.tabb hr (by have hg0 := (or_t h).imp (fun h => (or_t h).imp (fun h => (or_t h).imp (fun h => of_decide_eq_true h) (fun h => of_decide_eq_true h)) (fun h => of_decide_eq_true h)) (fun h => of_decide_eq_true h); omega)) (by simp)) rfl ?_
            refine dg rfl rfl rfl (fun h => eo_bneq rfl (ev_if h rfl) (ev_if h rfl) Try.underlying4) rfl ?_
            refine de rfl (eo_and rfl rfl (fun hb => ev_if hb rfl)) rfl ?_
            refine ge_nil ?_
            refine ga_nil ?_
            refine gi_nil ?_
            refine gq_nq ?_
            refine gq_next ?_
            refine gc_cond rfl (fun hc6 => ?_) (fun hc6 => ?_)
            ·
              have hd6 := (and_t hc6).imp (fun h => (or_t h).imp (fun h => (or_t h).imp (fun h => (or_t h).imp (fun h => of_decide_eq_true h) (fun h => of_decide_eq_true h)) (fun h => of_decide_eq_true h)) (fun h => of_decide_eq_true h)) (fun h => h)
              exact absurd (paste_out (j := i) hv hp hx0 hx1 hy0 hy1 (by simp only; omega) (by simp only; omega)) (by simpa [bne] using hd6.2)
            ·
              have hd6 := (and_f hc6).imp (fun h => (or_f h).imp (fun h => (or_f h).imp (fun h => (or_f h).imp (fun h => of_decide_eq_false h) (fun h => of_decide_eq_false h)) (fun h => of_decide_eq_false h)) (fun h => of_decide_eq_false h)) (fun h => h)
              refine gc_skip ?_
              refine gq_block_end ?_
              refine gq_next ?_
              refine gc_region ?_
              refine ne (eo_add rfl rfl rfl (by omega) (by omega)) rfl ?_
              refine ne (eo_mv rfl rfl) rfl ?_
              refine go_nil ?_
              exact round1 (i + 1) (by omega) (by omega) ⟨rfl, rfl, rfl, rfl, rfl, rfl, rfl, trivial⟩ (List.Sublist.refl _)
          ·
            replace hc5 := of_decide_eq_false hc5
            refine gc_exit ?_
            refine gq_then_exit ?_
            refine gq_then_exit ?_
            refine gq_block_hit ?_
            refine gq_next ?_
            refine gc_seq ?_
            refine gc_region ?_
            refine ne (eo_call rfl en13 rfl (fun W1 hO => examples_c W1  )) rfl ?_
            refine ne (eo_as rfl rfl) rfl ?_
            refine go_nil ?_
            refine gq_next ?_
            refine gc_ret ?_
            refine gq_results (res1 rfl rfl) ?_
            exact fun W2 hO => ⟨rfl, hO.toExt⟩

end Go.Proofs.Ytefblgildcaldaa
