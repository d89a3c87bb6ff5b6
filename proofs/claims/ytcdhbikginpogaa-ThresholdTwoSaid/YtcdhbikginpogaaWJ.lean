/-
  The walks of the functions of packages bigint and threshold and of the document's answers (part J): what each call returns, at every argument.
-/
import Derived.Test.YtcdhbikginpogaaWI
namespace Go.Proofs.Ytcdhbikginpogaa
open Go.RowKit Go.Eng

open Go.Bs
theorem en20 : Ent Try.prog 20 := ent_of Try.func20 (by kernel_rfl) rfl
theorem f35_0 : FieldAt Try.prog 35 0 0 := ⟨_, _, 0, Try.underlying35, rfl, by kernel_rfl, rfl⟩
theorem f35_1 : FieldAt Try.prog 35 1 1 := ⟨_, _, 0, Try.underlying35, rfl, by kernel_rfl, rfl⟩
theorem en27 : Ent Try.prog 27 := ent_of Try.func27 (by kernel_rfl) rfl

/-- barscan/threshold.Local -/
theorem loc_x (W H : Int) (A : Option Addr) (n c : Nat) (f : Nat → Int) (r : Int) (pc : Int) (w : World) (hr : Rd w A (tab n (iv .u8 f))) (hp : PixOk n f) :
    Calls Try.prog 22 #[.agg #[.int .i64 W, .int .i64 H, .slice A n c], .int .i64 r, .int .i64 pc] w (fun e w' => ∃ v Hn, e = .returned v ∧ RX (locR ⟨W, H, n, f⟩ r pc) v Hn ∧ Ow [] w w' Hn) := by
  refine calls_enter (N := ⟨162, []⟩) [] ([]) Try.func22 rfl rfl rfl (Ow.start _) ?_
  refine gc_seq ?_
  refine gc_region ?_
  refine nx (xo_boxA rfl rfl) rfl ?_
  rintro _ _ ⟨g3, rfl, rfl⟩
  refine nx (xo_alloc rfl z35) rfl ?_
  rintro _ _ ⟨g6, rfl, rfl⟩
  refine ne (eo_as rfl rfl) rfl ?_
  refine go_nil ?_
  refine gq_next ?_
  refine gc_seq ?_
  refine gc_region ?_
  refine ne (eo_loadA 1 rfl a24 rfl rfl rfl rfl) rfl ?_
  refine nx (xo_freshT rfl en20 rfl (fun W1 hO => int_x _ _ _ _ _ _ W1 (hr.old0 hO) (by assumption))) rfl ?_
  rintro _ _ ⟨S23, ⟨A23, k23, rfl, hk23, hS23⟩, rfl⟩
  refine ne (eo_mv rfl rfl) rfl ?_
  refine ne (eo_extract rfl rfl rfl) rfl ?_
  refine ne (eo_extract rfl rfl rfl) rfl ?_
  refine ne (eo_as rfl rfl) rfl ?_
  refine ne (eo_as rfl rfl) rfl ?_
  refine go_nil ?_
  refine gq_next ?_
  refine gc_seq ?_
  refine gc_seq ?_
  refine gc_region ?_
  refine ne (eo_mv rfl rfl) rfl ?_
  refine ne (eo_neq rfl rfl rfl) rfl ?_
  refine go_nil ?_
  refine gq_next ?_
  refine gc_cond rfl (fun hc0 => ?_) (fun hc0 => ?_)
  ·
    replace hc0 := of_decide_eq_true hc0
    refine gc_seq ?_
    refine gc_region ?_
    refine ne (eo_build rfl rfl (b35_)) rfl ?_
    refine ne (eo_mv rfl rfl) rfl ?_
    refine nu (xo_storeA 0 rfl a35 rfl rfl (ones_cons (by first | rfl | exact AS.one) (ones_cons (by first | rfl | exact AS.one) (ones_cons (by first | rfl | exact AS.one) ones_nil))) rfl rfl rfl rfl) ?_
    rintro _ _ ⟨rfl, rfl⟩
    refine ne (eo_as rfl rfl) rfl ?_
    refine go_nil ?_
    refine gq_next ?_
    refine gc_ret ?_
    refine gq_then_ret ?_
    refine gq_results (resCT 0 rfl a35 rfl rfl rfl rfl rfl) ?_
    exact fun W1 hO => rx_nil hO (by rw [(intR_err hc0).2]; exact locR_no (intR_err hc0).1)
  ·
    replace hc0 := of_decide_eq_false hc0
    have hv := intR_zero hc0
    obtain ⟨v1, v2, v3, v4, v5, v6⟩ := vldB_iff.1 hv
    have v7 := vld_pos hv
    have v8 := mul_up1 v1 v2 v3 v4
    have hg := fx_bd hp
    have hN : (intR ⟨W, H, n, f⟩).1.1 = ((W + 1) * (H + 1)).toNat := by rw [intR_ok hv]
    have hF : (intR ⟨W, H, n, f⟩).1.2 = sumG (fx n f) W := by rw [intR_ok hv]
    refine gc_skip ?_
    refine gq_next ?_
    refine gc_seq ?_
    refine gc_seq ?_
    refine gc_region ?_
    refine ne (eo_mv rfl rfl) rfl ?_
    refine ne (eo_lss rfl rfl rfl) rfl ?_
    refine ne (eo_mv rfl rfl) rfl ?_
    refine ng rfl rfl (fun h => eo_mv rfl rfl) rfl ?_
    refine ng rfl rfl (fun h => eo_gtr rfl (ev_if h rfl) rfl) rfl ?_
    refine ne (eo_or rfl rfl (fun hb => ev_if hb rfl)) rfl ?_
    refine ne (eo_mv rfl rfl) rfl ?_
    refine ng rfl rfl (fun h => eo_mv rfl rfl) rfl ?_
    refine ng rfl rfl (fun h => eo_lss rfl (ev_if h rfl) rfl) rfl ?_
    refine ne (eo_or rfl rfl (fun hb => ev_if hb rfl)) rfl ?_
    refine ne (eo_mv rfl rfl) rfl ?_
    refine ng rfl rfl (fun h => eo_mv rfl rfl) rfl ?_
    refine ng rfl rfl (fun h => eo_gtr rfl (ev_if h rfl) rfl) rfl ?_
    refine ne (eo_or rfl rfl (fun hb => ev_if hb rfl)) rfl ?_
    refine go_nil ?_
    refine gq_next ?_
    refine gc_cond rfl (fun hc1 => ?_) (fun hc1 => ?_)
    ·
      have hd1 := (or_t hc1).imp (fun h => (or_t h).imp (fun h => (or_t h).imp (fun h => of_decide_eq_true h) (fun h => of_decide_eq_true h)) (fun h => of_decide_eq_true h)) (fun h => of_decide_eq_true h)
      refine gc_seq ?_
      refine gc_region ?_
      refine ne (eo_build rfl rfl (b35_)) rfl ?_
      refine nu (xo_storeA 0 rfl a35 rfl rfl (ones_cons (by first | rfl | exact AS.one) (ones_cons (by first | rfl | exact AS.one) (ones_cons (by first | rfl | exact AS.one) ones_nil))) rfl rfl rfl rfl) ?_
      rintro _ _ ⟨rfl, rfl⟩
      refine ne (eo_as rfl rfl) rfl ?_
      refine go_nil ?_
      refine gq_next ?_
      refine gc_ret ?_
      refine gq_then_ret ?_
      refine gq_results (resCT 0 rfl a35 rfl rfl rfl rfl rfl) ?_
      exact fun W1 hO => rx_nil hO (locR_range hv (by omega))
    ·
      have hd1 := (or_f hc1).imp (fun h => (or_f h).imp (fun h => (or_f h).imp (fun h => of_decide_eq_false h) (fun h => of_decide_eq_false h)) (fun h => of_decide_eq_false h)) (fun h => of_decide_eq_false h)
      refine gc_skip ?_
      refine gq_next ?_
      refine gc_seq ?_
      refine gc_region ?_
      refine ne (eo_field rfl f24_0 rfl) rfl ?_
      refine ne (eo_load 1 rfl s3 rfl rfl rfl rfl) rfl ?_
      refine ne (eo_add rfl rfl rfl (by omega) (by omega)) rfl ?_
      refine ne (eo_as rfl rfl) rfl ?_
      refine go_nil ?_
      refine gq_next ?_
      refine gc_seq ?_
      refine gc_draw_new (i := 9) (d := 11) [] [0, 1, 2, 3, 4, 5, 6] [7, 8] [10] (by kernel_rfl) (by kernel_rfl) rfl z35 rfl ?_
      refine gp_nil ?_
      refine de rfl (eo_field rfl f24_0 rfl) rfl ?_
      refine de rfl (eo_load 1 rfl s3 rfl rfl rfl rfl) rfl ?_
      refine de rfl (eo_field rfl f24_1 rfl) rfl ?_
      refine de rfl (eo_load 1 rfl s3 rfl rfl rfl rfl) rfl ?_
      refine de rfl (eo_field rfl f24_2 rfl) rfl ?_
      refine de rfl (eo_load 1 rfl s22 rfl rfl rfl rfl) rfl ?_
      refine de rfl (eo_len rfl Try.underlying22 rfl) rfl ?_
      refine ge_nil ?_
      refine ⟨rfl, ?_⟩
      refine da rfl (xo_makeb rfl Try.underlying33 e4 rfl rfl (by omega) (by omega) (by omega)) rfl ?_
      rintro _ _ ⟨g55, rfl, rfl⟩
      refine ⟨by first | exact (List.Sublist.cons _ (List.Sublist.refl _)) | exact (List.sublist_append_left _ _), ?_⟩
      refine da rfl (xo_of_eo (eo_build rfl rfl (b35_012 _ _ _ _ _))) rfl ?_
      rintro _ _ ⟨rfl, rfl⟩
      refine ⟨by first | exact (List.Sublist.cons _ (List.Sublist.refl _)) | exact (List.sublist_append_left _ _), ?_⟩
      refine ga_nil ?_
      intro g11
      refine iu rfl (xo_storeA 0 rfl a35 rfl rfl (ones_cons (by first | rfl | exact AS.one) (ones_cons (by first | rfl | exact AS.one) (ones_cons (by first | rfl | exact AS.one) ones_nil))) rfl rfl rfl rfl) ?_
      rintro _ _ ⟨rfl, rfl⟩
      refine gi_nil ?_
      refine gq_nq ?_
      refine gq_next ?_
      refine gc_seq ?_
      refine gc_seq ?_
      refine gc_region ?_
      refine ne (eo_field rfl f24_1 rfl) rfl ?_
      refine ne (eo_load 3 rfl s3 rfl rfl rfl rfl) rfl ?_
      refine ne (eo_mv rfl rfl) rfl ?_
      refine go_nil ?_
      refine gq_next ?_
      refine gc_block ?_
      refine loop2 (fun (y : Nat) (f1 : Nat → Bool) => (y : Int) ≤ H ∧ ∀ j, j < n → f1 j = if (j : Int) < y * W then (locF ⟨W, H, n, f⟩ r pc) j else false) (fun (y : Nat) (f1 : Nat → Bool) => (H - y).toNat) (fun (y : Nat) (f1 : Nat → Bool) => [(1, .int .i64 r), (2, .int .i64 pc), (3, .pointer (some ⟨g3, 0, none⟩)), (6, .pointer (some ⟨g6, 0, none⟩)), (8, .slice A23 ((intR ⟨W, H, n, f⟩).1.1) k23), (10, .int .i64 (W + 1)), (11, .pointer (some ⟨g11, 0, none⟩)), (58, .int .i64 H), (59, .int .i64 (y : Int))]) (fun (y : Nat) (f1 : Nat → Bool) => ⟨g11, 35, [.int .i64 W, .int .i64 H, .slice (some ⟨g55, 0, none⟩) n n]⟩ :: ⟨g55, 4, tab n (bv f1) ++ []⟩ :: ⟨g6, 35, [.int .i64 0, .int .i64 0, .slice none 0 0]⟩ :: ⟨g3, 24, [.int .i64 W, .int .i64 H, .slice A n c]⟩ :: S23) 0 (fun _ => false) ⟨by omega, fill_new (by simp)⟩ ⟨rfl, rfl, rfl, rfl, rfl, rfl, rfl, rfl, rfl, trivial⟩ (List.Sublist.refl _) ?_
      rintro y f1 ⟨hy, hI⟩
      refine gc_seq ?_
      refine gc_region ?_
      refine ne (eo_lss rfl rfl rfl) rfl ?_
      refine go_nil ?_
      refine gq_next ?_
      refine gc_seq ?_
      refine gc_cond rfl (fun hc2 => ?_) (fun hc2 => ?_)
      ·
        replace hc2 := of_decide_eq_true hc2
        have hb0 := idx_bd (W := W) (H := H) (x := 0) (y := (y : Int)) (by omega) (by omega) (by omega) (by omega)
        refine gc_skip ?_
        refine gq_next ?_
        refine gc_seq ?_
        refine gc_block ?_
        refine gc_seq ?_
        refine gc_region ?_
        refine ne (eo_mv rfl rfl) rfl ?_
        refine ne (eo_as rfl rfl) rfl ?_
        refine go_nil ?_
        refine gq_next ?_
        refine gc_seq ?_
        refine gc_draw [] [0, 1, 2, 3, 4, 5, 6, 7, 8, 9, 10, 11, 12] [] [] (by kernel_rfl) (by kernel_rfl) ?_
        refine gp_nil ?_
        refine de rfl (eo_mv rfl rfl) rfl ?_
        refine de rfl (eo_mv rfl rfl) rfl ?_
        refine de rfl (eo_sub rfl rfl rfl (by omega) (by omega)) rfl ?_
        refine de rfl (eo_max rfl rfl rfl) rfl ?_
        refine de rfl (eo_field rfl f24_1 rfl) rfl ?_
        refine de rfl (eo_load 3 rfl s3 rfl rfl rfl rfl) rfl ?_
        refine de rfl (eo_mv rfl rfl) rfl ?_
        refine de rfl (eo_mv rfl rfl) rfl ?_
        refine de rfl (eo_add rfl rfl rfl (by omega) (by omega)) rfl ?_
        refine de rfl (eo_add rfl rfl rfl (by omega) (by omega)) rfl ?_
        refine de rfl (eo_min rfl rfl rfl) rfl ?_
        refine de rfl (eo_as rfl rfl) rfl ?_
        refine de rfl (eo_as rfl rfl) rfl ?_
        refine ge_nil ?_
        refine ga_nil ?_
        refine gi_nil ?_
        refine gq_nq ?_
        refine gq_next ?_
        refine gc_seq ?_
        refine gc_region ?_
        refine ne (eo_field rfl f24_0 rfl) rfl ?_
        refine ne (eo_load 3 rfl s3 rfl rfl rfl rfl) rfl ?_
        refine ne (eo_mv rfl rfl) rfl ?_
        refine go_nil ?_
        refine gq_next ?_
        refine gc_block ?_
        refine loop2 (fun (x : Nat) (f1 : Nat → Bool) => (x : Int) ≤ W ∧ ∀ j, j < n → f1 j = if (j : Int) < y * W + x then (locF ⟨W, H, n, f⟩ r pc) j else false) (fun (x : Nat) (f1 : Nat → Bool) => (W - x).toNat) (fun (x : Nat) (f1 : Nat → Bool) => [(1, .int .i64 r), (2, .int .i64 pc), (3, .pointer (some ⟨g3, 0, none⟩)), (6, .pointer (some ⟨g6, 0, none⟩)), (8, .slice A23 ((intR ⟨W, H, n, f⟩).1.1) k23), (10, .int .i64 (W + 1)), (11, .pointer (some ⟨g11, 0, none⟩)), (12, .int .i64 (y : Int)), (13, .int .i64 (max 0 ((y : Int) - r))), (14, .int .i64 (min H (((y : Int) + r) + 1))), (58, .int .i64 H), (59, .int .i64 (y : Int)), (74, .int .i64 W), (75, .int .i64 (x : Int))]) (fun (x : Nat) (f1 : Nat → Bool) => ⟨g11, 35, [.int .i64 W, .int .i64 H, .slice (some ⟨g55, 0, none⟩) n n]⟩ :: ⟨g55, 4, tab n (bv f1) ++ []⟩ :: ⟨g6, 35, [.int .i64 0, .int .i64 0, .slice none 0 0]⟩ :: ⟨g3, 24, [.int .i64 W, .int .i64 H, .slice A n c]⟩ :: S23) 0 f1 ⟨by omega, fill_to hI (by simp)⟩ ⟨rfl, rfl, rfl, rfl, rfl, rfl, rfl, rfl, rfl, rfl, rfl, rfl, rfl, rfl, trivial⟩ (List.Sublist.refl _) ?_
        rintro x f1 ⟨hx, hI⟩
        refine gc_seq ?_
        refine gc_region ?_
        refine ne (eo_lss rfl rfl rfl) rfl ?_
        refine go_nil ?_
        refine gq_next ?_
        refine gc_seq ?_
        refine gc_cond rfl (fun hc3 => ?_) (fun hc3 => ?_)
        ·
          replace hc3 := of_decide_eq_true hc3
          have cq1 : (intR ⟨W, H, n, f⟩).1.2 ((min H ((y : Int) + r + 1)) * (W + 1) + (min W ((x : Int) + r + 1))).toNat = sumS (fx n f) W ((min H ((y : Int) + r + 1))).toNat ((min W ((x : Int) + r + 1))).toNat := by rw [hF]; exact sumG_z (by omega) (by omega) (by omega) (by omega)
          have cb1 := sumS_z (g := (fx n f)) (W := W) (hi := 255) (y := (min H ((y : Int) + r + 1))) (x := (min W ((x : Int) + r + 1))) (by omega) hg (by omega) (by omega) (by omega) (by omega)
          have ci1 := idx_bd (W := W + 1) (H := H + 1) (x := (min W ((x : Int) + r + 1))) (y := (min H ((y : Int) + r + 1))) (by omega) (by omega) (by omega) (by omega)
          have cq2 : (intR ⟨W, H, n, f⟩).1.2 ((min H ((y : Int) + r + 1)) * (W + 1) + (max 0 ((x : Int) - r))).toNat = sumS (fx n f) W ((min H ((y : Int) + r + 1))).toNat ((max 0 ((x : Int) - r))).toNat := by rw [hF]; exact sumG_z (by omega) (by omega) (by omega) (by omega)
          have cb2 := sumS_z (g := (fx n f)) (W := W) (hi := 255) (y := (min H ((y : Int) + r + 1))) (x := (max 0 ((x : Int) - r))) (by omega) hg (by omega) (by omega) (by omega) (by omega)
          have ci2 := idx_bd (W := W + 1) (H := H + 1) (x := (max 0 ((x : Int) - r))) (y := (min H ((y : Int) + r + 1))) (by omega) (by omega) (by omega) (by omega)
          have cq3 : (intR ⟨W, H, n, f⟩).1.2 ((max 0 ((y : Int) - r)) * (W + 1) + (min W ((x : Int) + r + 1))).toNat = sumS (fx n f) W ((max 0 ((y : Int) - r))).toNat ((min W ((x : Int) + r + 1))).toNat := by rw [hF]; exact sumG_z (by omega) (by omega) (by omega) (by omega)
          have cb3 := sumS_z (g := (fx n f)) (W := W) (hi := 255) (y := (max 0 ((y : Int) - r))) (x := (min W ((x : Int) + r + 1))) (by omega) hg (by omega) (by omega) (by omega) (by omega)
          have ci3 := idx_bd (W := W + 1) (H := H + 1) (x := (min W ((x : Int) + r + 1))) (y := (max 0 ((y : Int) - r))) (by omega) (by omega) (by omega) (by omega)
          have cq4 : (intR ⟨W, H, n, f⟩).1.2 ((max 0 ((y : Int) - r)) * (W + 1) + (max 0 ((x : Int) - r))).toNat = sumS (fx n f) W ((max 0 ((y : Int) - r))).toNat ((max 0 ((x : Int) - r))).toNat := by rw [hF]; exact sumG_z (by omega) (by omega) (by omega) (by omega)
          have cb4 := sumS_z (g := (fx n f)) (W := W) (hi := 255) (y := (max 0 ((y : Int) - r))) (x := (max 0 ((x : Int) - r))) (by omega) hg (by omega) (by omega) (by omega) (by omega)
          have ci4 := idx_bd (W := W + 1) (H := H + 1) (x := (max 0 ((x : Int) - r))) (y := (max 0 ((y : Int) - r))) (by omega) (by omega) (by omega) (by omega)
          have hbx : (intR ⟨W, H, n, f⟩).1.2 ((min H ((y : Int) + r + 1)) * (W + 1) + (min W ((x : Int) + r + 1))).toNat - (intR ⟨W, H, n, f⟩).1.2 ((min H ((y : Int) + r + 1)) * (W + 1) + (max 0 ((x : Int) - r))).toNat - (intR ⟨W, H, n, f⟩).1.2 ((max 0 ((y : Int) - r)) * (W + 1) + (min W ((x : Int) + r + 1))).toNat + (intR ⟨W, H, n, f⟩).1.2 ((max 0 ((y : Int) - r)) * (W + 1) + (max 0 ((x : Int) - r))).toNat = boxAt (fx n f) W H (x : Int) (y : Int) r r := by rw [cq1, cq2, cq3, cq4]; rfl
          have hub : 0 ≤ boxAt (fx n f) W H (x : Int) (y : Int) r r ∧ boxAt (fx n f) W H (x : Int) (y : Int) r r ≤ 255 * (4096 * 4096) := box_up hg (by omega) (by omega) (by omega) (by omega) (by omega) (by omega)
          have hid := idx_bd (W := W) (H := H) (x := (x : Int)) (y := (y : Int)) (by omega) (by omega) (by omega) (by omega)
          have hpx := hp ((y : Int) * W + (x : Int)).toNat (by omega)
          have har : 0 ≤ (((min W ((x : Int) + r + 1)) - (max 0 ((x : Int) - r))) * ((min H ((y : Int) + r + 1)) - (max 0 ((y : Int) - r)))) ∧ (((min W ((x : Int) + r + 1)) - (max 0 ((x : Int) - r))) * ((min H ((y : Int) + r + 1)) - (max 0 ((y : Int) - r)))) ≤ 16777216 := ar_bd (r := r) v1 v2 v3 v4 (x := (x : Int)) (y := (y : Int)) (by omega) (by omega) (by omega) (by omega) (by omega)
          have hpv := mul_le2 (a := 100 * (((min W ((x : Int) + r + 1)) - (max 0 ((x : Int) - r))) * ((min H ((y : Int) + r + 1)) - (max 0 ((y : Int) - r))))) (b := f ((y : Int) * W + (x : Int)).toNat) (A := 1677721600) (B := 255) (by omega) (by omega) (by omega) (by omega)
          have hps := mul_le2 (a := pc) (b := boxAt (fx n f) W H (x : Int) (y : Int) r r) (A := 200) (B := 4278190080) (by omega) (by omega) (by omega) (by omega)
          rw [← hbx] at hps hub
          refine gc_skip ?_
          refine gq_next ?_
          refine gc_seq ?_
          refine gc_block ?_
          refine gc_seq ?_
          refine gc_region ?_
          refine ne (eo_mv rfl rfl) rfl ?_
          refine ne (eo_as rfl rfl) rfl ?_
          refine go_nil ?_
          refine gq_next ?_
          refine gc_seq ?_
          refine gc_draw [] [0, 1, 2, 3, 4, 5, 6, 7, 8, 9, 10, 11, 12] [] [] (by kernel_rfl) (by kernel_rfl) ?_
          refine gp_nil ?_
          refine de rfl (eo_mv rfl rfl) rfl ?_
          refine de rfl (eo_mv rfl rfl) rfl ?_
          refine de rfl (eo_sub rfl rfl rfl (by omega) (by omega)) rfl ?_
          refine de rfl (eo_max rfl rfl rfl) rfl ?_
          refine de rfl (eo_field rfl f24_0 rfl) rfl ?_
          refine de rfl (eo_load 3 rfl s3 rfl rfl rfl rfl) rfl ?_
          refine de rfl (eo_mv rfl rfl) rfl ?_
          refine de rfl (eo_mv rfl rfl) rfl ?_
          refine de rfl (eo_add rfl rfl rfl (by omega) (by omega)) rfl ?_
          refine de rfl (eo_add rfl rfl rfl (by omega) (by omega)) rfl ?_
          refine de rfl (eo_min rfl rfl rfl) rfl ?_
          refine de rfl (eo_as rfl rfl) rfl ?_
          refine de rfl (eo_as rfl rfl) rfl ?_
          refine ge_nil ?_
          refine ga_nil ?_
          refine gi_nil ?_
          refine gq_nq ?_
          refine gq_next ?_
          refine gc_seq ?_
          refine gc_region ?_
          refine ne (eo_mv rfl rfl) rfl ?_
          refine ne (eo_mv rfl rfl) rfl ?_
          refine ne (eo_sub rfl rfl rfl (by omega) (by omega)) rfl ?_
          refine ne (eo_mv rfl rfl) rfl ?_
          refine ne (eo_mv rfl rfl) rfl ?_
          refine ne (eo_sub rfl rfl rfl (by omega) (by omega)) rfl ?_
          refine ne (eo_mul rfl rfl rfl (by omega) (by omega)) rfl ?_
          refine ne (eo_as rfl rfl) rfl ?_
          refine go_nil ?_
          refine gq_next ?_
          refine gc_seq ?_
          refine gc_draw [] [0, 1, 2, 3, 4, 5, 6, 7, 8, 9, 10, 11, 12, 13, 14, 15, 16, 17, 18, 19, 20, 21, 22, 23, 24, 25, 26, 27, 28, 29, 30, 31, 32, 33, 34, 35] [] [] (by kernel_rfl) (by kernel_rfl) ?_
          refine gp_nil ?_
          refine de rfl (eo_mv rfl rfl) rfl ?_
          refine de rfl (eo_mv rfl rfl) rfl ?_
          refine de rfl (eo_mv rfl rfl) rfl ?_
          refine de rfl (eo_mul rfl rfl rfl (by omega) (by omega)) rfl ?_
          refine de rfl (eo_mv rfl rfl) rfl ?_
          refine de rfl (eo_add rfl rfl rfl (by omega) (by omega)) rfl ?_
          refine de rfl (eo_indexS rfl sl41 rfl rfl (fun W1 hO => (hS23.rd (hO.tl 4 rfl (List.Sublist.refl _)))) (by simp) (by omega) (by omega)) rfl ?_
          refine de rfl (eo_loadS rfl s3 rfl (fun W1 hO => Rd.tabi (hS23.rd (hO.tl 4 rfl (List.Sublist.refl _))) (by omega))) rfl ?_
          refine de rfl (eo_mv rfl rfl) rfl ?_
          refine de rfl (eo_mv rfl rfl) rfl ?_
          refine de rfl (eo_mv rfl rfl) rfl ?_
          refine de rfl (eo_mul rfl rfl rfl (by omega) (by omega)) rfl ?_
          refine de rfl (eo_mv rfl rfl) rfl ?_
          refine de rfl (eo_add rfl rfl rfl (by omega) (by omega)) rfl ?_
          refine de rfl (eo_indexS rfl sl41 rfl rfl (fun W1 hO => (hS23.rd (hO.tl 4 rfl (List.Sublist.refl _)))) (by simp) (by omega) (by omega)) rfl ?_
          refine de rfl (eo_loadS rfl s3 rfl (fun W1 hO => Rd.tabi (hS23.rd (hO.tl 4 rfl (List.Sublist.refl _))) (by omega))) rfl ?_
          refine de rfl (eo_sub rfl rfl rfl (by omega) (by omega)) rfl ?_
          refine de rfl (eo_mv rfl rfl) rfl ?_
          refine de rfl (eo_mv rfl rfl) rfl ?_
          refine de rfl (eo_mv rfl rfl) rfl ?_
          refine de rfl (eo_mul rfl rfl rfl (by omega) (by omega)) rfl ?_
          refine de rfl (eo_mv rfl rfl) rfl ?_
          refine de rfl (eo_add rfl rfl rfl (by omega) (by omega)) rfl ?_
          refine de rfl (eo_indexS rfl sl41 rfl rfl (fun W1 hO => (hS23.rd (hO.tl 4 rfl (List.Sublist.refl _)))) (by simp) (by omega) (by omega)) rfl ?_
          refine de rfl (eo_loadS rfl s3 rfl (fun W1 hO => Rd.tabi (hS23.rd (hO.tl 4 rfl (List.Sublist.refl _))) (by omega))) rfl ?_
          refine de rfl (eo_sub rfl rfl rfl (by omega) (by omega)) rfl ?_
          refine de rfl (eo_mv rfl rfl) rfl ?_
          refine de rfl (eo_mv rfl rfl) rfl ?_
          refine de rfl (eo_mv rfl rfl) rfl ?_
          refine de rfl (eo_mul rfl rfl rfl (by omega) (by omega)) rfl ?_
          refine de rfl (eo_mv rfl rfl) rfl ?_
          refine de rfl (eo_add rfl rfl rfl (by omega) (by omega)) rfl ?_
          refine de rfl (eo_indexS rfl sl41 rfl rfl (fun W1 hO => (hS23.rd (hO.tl 4 rfl (List.Sublist.refl _)))) (by simp) (by omega) (by omega)) rfl ?_
          refine de rfl (eo_loadS rfl s3 rfl (fun W1 hO => Rd.tabi (hS23.rd (hO.tl 4 rfl (List.Sublist.refl _))) (by omega))) rfl ?_
          refine de rfl (eo_add rfl rfl rfl (by omega) (by omega)) rfl ?_
          refine de rfl (eo_as rfl rfl) rfl ?_
          refine ge_nil ?_
          refine ga_nil ?_
          refine gi_nil ?_
          refine gq_nq ?_
          refine gq_next ?_
          refine gc_seq ?_
          refine gc_region ?_
          refine ne (eo_field rfl f24_2 rfl) rfl ?_
          refine ne (eo_load 3 rfl s22 rfl rfl rfl rfl) rfl ?_
          refine ne (eo_mv rfl rfl) rfl ?_
          refine ne (eo_field rfl f24_0 rfl) rfl ?_
          refine ne (eo_load 3 rfl s3 rfl rfl rfl rfl) rfl ?_
          refine ne (eo_mul rfl rfl rfl (by omega) (by omega)) rfl ?_
          refine ne (eo_mv rfl rfl) rfl ?_
          refine ne (eo_add rfl rfl rfl (by omega) (by omega)) rfl ?_
          refine ne (eo_indexR rfl sl22 rfl rfl hr (by simp) (by omega) (by omega)) rfl ?_
          refine ne (eo_load_old rfl s5 rfl (Rd.tabi hr (by omega)) (by simp)) rfl ?_
          refine ne (eo_convi rfl rfl ⟨_, Try.underlying5⟩ Try.underlying3 (by omega) (by omega)) rfl ?_
          refine ne (eo_as rfl rfl) rfl ?_
          refine go_nil ?_
          refine gq_next ?_
          refine gc_region ?_
          refine ne (eo_field rfl f35_2 rfl) rfl ?_
          refine ne (eo_load 0 rfl s33 rfl rfl rfl rfl) rfl ?_
          refine ne (eo_mv rfl rfl) rfl ?_
          refine ne (eo_field rfl f24_0 rfl) rfl ?_
          refine ne (eo_load 3 rfl s3 rfl rfl rfl rfl) rfl ?_
          refine ne (eo_mul rfl rfl rfl (by omega) (by omega)) rfl ?_
          refine ne (eo_mv rfl rfl) rfl ?_
          refine ne (eo_add rfl rfl rfl (by omega) (by omega)) rfl ?_
          refine ne (eo_mv rfl rfl) rfl ?_
          refine ne (eo_mul rfl rfl rfl (by omega) (by omega)) rfl ?_
          refine ne (eo_mv rfl rfl) rfl ?_
          refine ne (eo_mul rfl rfl rfl (by omega) (by omega)) rfl ?_
          refine ne (eo_mv rfl rfl) rfl ?_
          refine ne (eo_mv rfl rfl) rfl ?_
          refine ne (eo_mul rfl rfl rfl (by omega) (by omega)) rfl ?_
          refine ne (eo_lss rfl rfl rfl) rfl ?_
          refine ne (eo_index0 rfl sl33 rfl rfl (by omega) (by omega)) rfl ?_
          refine nu (xo_setb 1 rfl s4 rfl rfl rfl (by omega)) ?_
          rintro _ _ ⟨rfl, rfl⟩
          refine go_nil ?_
          refine gq_block_end ?_
          refine gq_next ?_
          refine gc_region ?_
          refine ne (eo_add rfl rfl rfl (by omega) (by omega)) rfl ?_
          refine ne (eo_mv rfl rfl) rfl ?_
          refine go_nil ?_
          exact round2 (x + 1) (upd f1 (((((y : Int) * W) + (x : Int))).toNat) (decide (((100 * (((min W (((x : Int) + r) + 1)) - (max 0 ((x : Int) - r))) * ((min H (((y : Int) + r) + 1)) - (max 0 ((y : Int) - r))))) * (f (((((y : Int) * W) + (x : Int))).toNat))) < (pc * ((((((intR ⟨W, H, n, f⟩).1.2) (((((min H (((y : Int) + r) + 1)) * (W + 1)) + (min W (((x : Int) + r) + 1)))).toNat)) - (((intR ⟨W, H, n, f⟩).1.2) (((((min H (((y : Int) + r) + 1)) * (W + 1)) + (max 0 ((x : Int) - r)))).toNat))) - (((intR ⟨W, H, n, f⟩).1.2) (((((max 0 ((y : Int) - r)) * (W + 1)) + (min W (((x : Int) + r) + 1)))).toNat))) + (((intR ⟨W, H, n, f⟩).1.2) (((((max 0 ((y : Int) - r)) * (W + 1)) + (max 0 ((x : Int) - r)))).toNat))))))) ⟨by omega, fill_to (fill_up hI (by omega) (loc_at (m := ⟨W, H, n, f⟩) (by show _ < W; omega) (by show _ = _ * W + _; omega) hbx)) (by push_cast; omega)⟩ (by omega) ⟨rfl, rfl, rfl, rfl, rfl, rfl, rfl, rfl, rfl, rfl, rfl, rfl, rfl, rfl, trivial⟩ (List.Sublist.refl _)
        ·
          replace hc3 := of_decide_eq_false hc3
          refine gc_exit ?_
          refine gq_then_exit ?_
          refine gq_then_exit ?_
          refine gq_block_hit ?_
          refine gq_block_end ?_
          refine gq_next ?_
          refine gc_region ?_
          refine ne (eo_add rfl rfl rfl (by omega) (by omega)) rfl ?_
          refine ne (eo_mv rfl rfl) rfl ?_
          refine go_nil ?_
          exact round2 (y + 1) f1 ⟨by omega, fill_to hI (by push_cast; rw [add1_mul]; omega)⟩ (by omega) ⟨rfl, rfl, rfl, rfl, rfl, rfl, rfl, rfl, rfl, trivial⟩ (List.Sublist.refl _)
      ·
        replace hc2 := of_decide_eq_false hc2
        refine gc_exit ?_
        refine gq_then_exit ?_
        refine gq_then_exit ?_
        refine gq_block_hit ?_
        refine gq_next ?_
        refine gc_seq ?_
        refine gc_region ?_
        refine ne (eo_loadA 0 rfl a35 rfl rfl rfl rfl) rfl ?_
        refine nu (xo_storeA 2 rfl a35 rfl rfl (ones_cons (by first | rfl | exact AS.one) (ones_cons (by first | rfl | exact AS.one) (ones_cons (by first | rfl | exact AS.one) ones_nil))) rfl rfl rfl rfl) ?_
        rintro _ _ ⟨rfl, rfl⟩
        refine ne (eo_as rfl rfl) rfl ?_
        refine go_nil ?_
        refine gq_next ?_
        refine gc_ret ?_
        refine gq_results (resCT 2 rfl a35 rfl rfl rfl rfl rfl) ?_
        exact fun W1 hO => rx_own 1 hO rfl (locR_ok hv (by omega)) (fill_end hI (by rw [show (y : Int) = H by omega, Int.mul_comm H]; omega)) (by omega)

/-- barscan/barscanref01.Same -/
theorem rsameb_c (A : Option Addr) (n c : Nat) (f : Nat → Bool) (A1 : Option Addr) (n1 c1 : Nat) (f1 : Nat → Bool) (w : World) (hr : Rd w A (tab n (bv f))) (hr1 : Rd w A1 (tab n1 (bv f1))) (hnn : n ≤ 140737488355328) :
    Calls Try.prog 27 #[.slice A n c, .slice A1 n1 c1] w (fun e w' => e = .returned (.bool (eqS n f n1 f1)) ∧ Ext w w') := by
  refine calls_enter (N := ⟨26, []⟩) [] ([]) Try.func27 rfl rfl rfl (Ow.start _) ?_
  refine gc_seq ?_
  refine gc_region ?_
  refine ne (eo_as rfl rfl) rfl ?_
  refine go_nil ?_
  refine gq_next ?_
  refine gc_seq ?_
  refine gc_seq ?_
  refine gc_region ?_
  refine ne (eo_mv rfl rfl) rfl ?_
  refine ne (eo_len rfl Try.underlying33 rfl) rfl ?_
  refine ne (eo_mv rfl rfl) rfl ?_
  refine ne (eo_len rfl Try.underlying33 rfl) rfl ?_
  refine ne (eo_neq rfl rfl rfl) rfl ?_
  refine go_nil ?_
  refine gq_next ?_
  refine gc_cond rfl (fun hc0 => ?_) (fun hc0 => ?_)
  ·
    replace hc0 := of_decide_eq_true hc0
    refine gc_seq ?_
    refine gc_region ?_
    refine ne (eo_as rfl rfl) rfl ?_
    refine go_nil ?_
    refine gq_next ?_
    refine gc_ret ?_
    refine gq_then_ret ?_
    refine gq_results (res1 rfl rfl) ?_
    exact fun W1 hO => ⟨ret_bool (eqS_len (by omega)).symm, hO.toExt⟩
  ·
    replace hc0 := of_decide_eq_false hc0
    refine gc_skip ?_
    refine gq_next ?_
    refine gc_seq ?_
    refine gc_seq ?_
    refine gc_region ?_
    refine ne (eo_as rfl rfl) rfl ?_
    refine go_nil ?_
    refine gq_next ?_
    refine gc_block ?_
    refine loop1 (fun (i : Nat) => i ≤ n ∧ ∀ j, j < i → f j = f1 j) (fun (i : Nat) => n - i) (fun (i : Nat) => [(0, .slice A n c), (1, .slice A1 n1 c1), (5, .int .i64 (i : Int))]) (fun (i : Nat) => []) 0 ⟨by omega, fun j hj => by omega⟩ ⟨rfl, rfl, rfl, trivial⟩ (List.Sublist.refl _) ?_
    rintro i ⟨hi, hI⟩
    refine gc_seq ?_
    refine gc_seq ?_
    refine gc_region ?_
    refine ne (eo_mv rfl rfl) rfl ?_
    refine ne (eo_mv rfl rfl) rfl ?_
    refine ne (eo_len rfl Try.underlying33 rfl) rfl ?_
    refine ne (eo_lss rfl rfl rfl) rfl ?_
    refine go_nil ?_
    refine gq_next ?_
    refine gc_cond rfl (fun hc1 => ?_) (fun hc1 => ?_)
    ·
      replace hc1 := of_decide_eq_true hc1
      refine gc_skip ?_
      refine gq_next ?_
      refine gc_seq ?_
      refine gc_block ?_
      refine gc_seq ?_
      refine gc_draw [] [0, 1, 2, 3, 4, 5, 6, 7, 8] [] [] (by kernel_rfl) (by kernel_rfl) ?_
      refine gp_nil ?_
      refine de rfl (eo_mv rfl rfl) rfl ?_
      refine de rfl (eo_mv rfl rfl) rfl ?_
      refine de rfl (eo_indexR rfl sl33 rfl rfl hr (by simp) (by omega) (by omega)) rfl ?_
      refine de rfl (eo_load_old rfl s4 rfl (Rd.tabb hr (by omega)) (by simp)) rfl ?_
      refine de rfl (eo_mv rfl rfl) rfl ?_
      refine de rfl (eo_mv rfl rfl) rfl ?_
      refine de rfl (eo_indexR rfl sl33 rfl rfl hr1 (by simp) (by omega) (by omega)) rfl ?_
      refine de rfl (eo_load_old rfl s4 rfl (Rd.tabb hr1 (by omega)) (by simp)) rfl ?_
      refine de rfl (eo_bneq rfl rfl rfl Try.underlying4) rfl ?_
      refine ge_nil ?_
      refine ga_nil ?_
      refine gi_nil ?_
      refine gq_nq ?_
      refine gq_next ?_
      refine gc_cond rfl (fun hc2 => ?_) (fun hc2 => ?_)
      ·
        refine gc_seq ?_
        refine gc_region ?_
        refine ne (eo_as rfl rfl) rfl ?_
        refine go_nil ?_
        refine gq_next ?_
        refine gc_ret ?_
        refine gq_block_ret ?_
        refine gq_then_ret ?_
        refine gq_then_ret ?_
        refine gq_block_ret ?_
        refine gq_then_ret ?_
        refine gq_results (res1 rfl rfl) ?_
        exact fun W1 hO => ⟨ret_bool (eqS_at (i := i) (by omega) (by first | exact bne_iff_ne.1 hc2 | exact hc2)).symm, hO.toExt⟩
      ·
        refine gc_skip ?_
        refine gq_block_end ?_
        refine gq_next ?_
        refine gc_region ?_
        refine ne (eo_mv rfl rfl) rfl ?_
        refine ne (eo_add rfl rfl rfl (by omega) (by omega)) rfl ?_
        refine ne (eo_as rfl rfl) rfl ?_
        refine go_nil ?_
        exact round1 (i + 1) ⟨by omega, fun j hj => by by_cases e : j = i; (· subst e; first | exact bne_eq_false_iff_eq.1 hc2 | (have h2 := hc2; simp at h2; exact h2) | omega); exact hI j (by omega)⟩ (by omega) ⟨rfl, rfl, rfl, trivial⟩ (List.Sublist.refl _)
    ·
      replace hc1 := of_decide_eq_false hc1
      refine gc_exit ?_
      refine gq_then_exit ?_
      refine gq_then_exit ?_
      refine gq_block_hit ?_
      refine gq_next ?_
      refine gc_seq ?_
      refine gc_region ?_
      refine ne (eo_as rfl rfl) rfl ?_
      refine go_nil ?_
      refine gq_next ?_
      refine gc_ret ?_
      refine gq_results (res1 rfl rfl) ?_
      exact fun W1 hO => ⟨ret_bool (eqS_yes (by omega) fun j hj => hI j (by omega)).symm, hO.toExt⟩

/-- barscan/barscanref01.Ints -/
theorem rsamei_c (A : Option Addr) (n c : Nat) (f : Nat → Int) (A1 : Option Addr) (n1 c1 : Nat) (f1 : Nat → Int) (w : World) (hr : Rd w A (tab n (iv .i64 f))) (hr1 : Rd w A1 (tab n1 (iv .i64 f1))) (hnn : n ≤ 140737488355328) :
    Calls Try.prog 24 #[.slice A n c, .slice A1 n1 c1] w (fun e w' => e = .returned (.bool (eqS n f n1 f1)) ∧ Ext w w') := by
  refine calls_enter (N := ⟨26, []⟩) [] ([]) Try.func24 rfl rfl rfl (Ow.start _) ?_
  refine gc_seq ?_
  refine gc_region ?_
  refine ne (eo_as rfl rfl) rfl ?_
  refine go_nil ?_
  refine gq_next ?_
  refine gc_seq ?_
  refine gc_seq ?_
  refine gc_region ?_
  refine ne (eo_mv rfl rfl) rfl ?_
  refine ne (eo_len rfl Try.underlying41 rfl) rfl ?_
  refine ne (eo_mv rfl rfl) rfl ?_
  refine ne (eo_len rfl Try.underlying41 rfl) rfl ?_
  refine ne (eo_neq rfl rfl rfl) rfl ?_
  refine go_nil ?_
  refine gq_next ?_
  refine gc_cond rfl (fun hc0 => ?_) (fun hc0 => ?_)
  ·
    replace hc0 := of_decide_eq_true hc0
    refine gc_seq ?_
    refine gc_region ?_
    refine ne (eo_as rfl rfl) rfl ?_
    refine go_nil ?_
    refine gq_next ?_
    refine gc_ret ?_
    refine gq_then_ret ?_
    refine gq_results (res1 rfl rfl) ?_
    exact fun W1 hO => ⟨ret_bool (eqS_len (by omega)).symm, hO.toExt⟩
  ·
    replace hc0 := of_decide_eq_false hc0
    refine gc_skip ?_
    refine gq_next ?_
    refine gc_seq ?_
    refine gc_seq ?_
    refine gc_region ?_
    refine ne (eo_as rfl rfl) rfl ?_
    refine go_nil ?_
    refine gq_next ?_
    refine gc_block ?_
    refine loop1 (fun (i : Nat) => i ≤ n ∧ ∀ j, j < i → f j = f1 j) (fun (i : Nat) => n - i) (fun (i : Nat) => [(0, .slice A n c), (1, .slice A1 n1 c1), (5, .int .i64 (i : Int))]) (fun (i : Nat) => []) 0 ⟨by omega, fun j hj => by omega⟩ ⟨rfl, rfl, rfl, trivial⟩ (List.Sublist.refl _) ?_
    rintro i ⟨hi, hI⟩
    refine gc_seq ?_
    refine gc_seq ?_
    refine gc_region ?_
    refine ne (eo_mv rfl rfl) rfl ?_
    refine ne (eo_mv rfl rfl) rfl ?_
    refine ne (eo_len rfl Try.underlying41 rfl) rfl ?_
    refine ne (eo_lss rfl rfl rfl) rfl ?_
    refine go_nil ?_
    refine gq_next ?_
    refine gc_cond rfl (fun hc1 => ?_) (fun hc1 => ?_)
    ·
      replace hc1 := of_decide_eq_true hc1
      refine gc_skip ?_
      refine gq_next ?_
      refine gc_seq ?_
      refine gc_block ?_
      refine gc_seq ?_
      refine gc_draw [] [0, 1, 2, 3, 4, 5, 6, 7, 8] [] [] (by kernel_rfl) (by kernel_rfl) ?_
      refine gp_nil ?_
      refine de rfl (eo_mv rfl rfl) rfl ?_
      refine de rfl (eo_mv rfl rfl) rfl ?_
      refine de rfl (eo_indexR rfl sl41 rfl rfl hr (by simp) (by omega) (by omega)) rfl ?_
      refine de rfl (eo_load_old rfl s3 rfl (Rd.tabi hr (by omega)) (by simp)) rfl ?_
      refine de rfl (eo_mv rfl rfl) rfl ?_
      refine de rfl (eo_mv rfl rfl) rfl ?_
      refine de rfl (eo_indexR rfl sl41 rfl rfl hr1 (by simp) (by omega) (by omega)) rfl ?_
      refine de rfl (eo_load_old rfl s3 rfl (Rd.tabi hr1 (by omega)) (by simp)) rfl ?_
      refine de rfl (eo_neq rfl rfl rfl) rfl ?_
      refine ge_nil ?_
      refine ga_nil ?_
      refine gi_nil ?_
      refine gq_nq ?_
      refine gq_next ?_
      refine gc_cond rfl (fun hc2 => ?_) (fun hc2 => ?_)
      ·
        replace hc2 := of_decide_eq_true hc2
        refine gc_seq ?_
        refine gc_region ?_
        refine ne (eo_as rfl rfl) rfl ?_
        refine go_nil ?_
        refine gq_next ?_
        refine gc_ret ?_
        refine gq_block_ret ?_
        refine gq_then_ret ?_
        refine gq_then_ret ?_
        refine gq_block_ret ?_
        refine gq_then_ret ?_
        refine gq_results (res1 rfl rfl) ?_
        exact fun W1 hO => ⟨ret_bool (eqS_at (i := i) (by omega) (by first | exact bne_iff_ne.1 hc2 | exact hc2)).symm, hO.toExt⟩
      ·
        replace hc2 := of_decide_eq_false hc2
        refine gc_skip ?_
        refine gq_block_end ?_
        refine gq_next ?_
        refine gc_region ?_
        refine ne (eo_mv rfl rfl) rfl ?_
        refine ne (eo_add rfl rfl rfl (by omega) (by omega)) rfl ?_
        refine ne (eo_as rfl rfl) rfl ?_
        refine go_nil ?_
        exact round1 (i + 1) ⟨by omega, fun j hj => by by_cases e : j = i; (· subst e; first | exact bne_eq_false_iff_eq.1 hc2 | (have h2 := hc2; simp at h2; exact h2) | omega); exact hI j (by omega)⟩ (by omega) ⟨rfl, rfl, rfl, trivial⟩ (List.Sublist.refl _)
    ·
      replace hc1 := of_decide_eq_false hc1
      refine gc_exit ?_
      refine gq_then_exit ?_
      refine gq_then_exit ?_
      refine gq_block_hit ?_
      refine gq_next ?_
      refine gc_seq ?_
      refine gc_region ?_
      refine ne (eo_as rfl rfl) rfl ?_
      refine go_nil ?_
      refine gq_next ?_
      refine gc_ret ?_
      refine gq_results (res1 rfl rfl) ?_
      exact fun W1 hO => ⟨ret_bool (eqS_yes (by omega) fun j hj => hI j (by omega)).symm, hO.toExt⟩

/-- barscan/barscanref20.Same -/
theorem same20_c (W H : Int) (A : Option Addr) (n c : Nat) (f : Nat → Bool) (W1 H1 : Int) (A1 : Option Addr) (n1 c1 : Nat) (f1 : Nat → Bool) (w : World) (hr : Rd w A (tab n (bv f))) (hr1 : Rd w A1 (tab n1 (bv f1))) (hnn : n ≤ 140737488355328) :
    Calls Try.prog 19 #[.agg #[.int .i64 W, .int .i64 H, .slice A n c], .agg #[.int .i64 W1, .int .i64 H1, .slice A1 n1 c1]] w (fun e w' => e = .returned (.bool (eqM W H n f W1 H1 n1 f1)) ∧ Ext w w') := by
  refine calls_enter (N := ⟨24, []⟩) [] ([]) Try.func19 rfl rfl rfl (Ow.start _) ?_
  refine gc_seq ?_
  refine gc_region ?_
  refine nx (xo_boxA rfl rfl) rfl ?_
  rintro _ _ ⟨g2, rfl, rfl⟩
  refine nx (xo_boxA rfl rfl) rfl ?_
  rintro _ _ ⟨g3, rfl, rfl⟩
  refine ne (eo_as rfl rfl) rfl ?_
  refine go_nil ?_
  refine gq_next ?_
  refine gc_seq ?_
  refine gc_region ?_
  refine ne (eo_field rfl f35_0 rfl) rfl ?_
  refine ne (eo_load 1 rfl s3 rfl rfl rfl rfl) rfl ?_
  refine ne (eo_field rfl f35_0 rfl) rfl ?_
  refine ne (eo_load 0 rfl s3 rfl rfl rfl rfl) rfl ?_
  refine ne (eo_eql rfl rfl rfl) rfl ?_
  refine ne (eo_mv rfl rfl) rfl ?_
  refine ng rfl rfl (fun h => eo_field rfl f35_1 rfl) rfl ?_
  refine ng rfl rfl (fun h => eo_load 1 rfl s3 (ev_if h rfl) rfl rfl rfl) rfl ?_
  refine ng rfl rfl (fun h => eo_field rfl f35_1 rfl) rfl ?_
  refine ng rfl rfl (fun h => eo_load 0 rfl s3 (ev_if h rfl) rfl rfl rfl) rfl ?_
  refine ng rfl rfl (fun h => eo_eql rfl (ev_if h rfl) (ev_if h rfl)) rfl ?_
  refine ne (eo_and rfl rfl (fun hb => ev_if hb rfl)) rfl ?_
  refine ne (eo_mv rfl rfl) rfl ?_
  refine ng rfl rfl (fun h => eo_field rfl f35_2 rfl) rfl ?_
  refine ng rfl rfl (fun h => eo_load 1 rfl s33 (ev_if h rfl) rfl rfl rfl) rfl ?_
  refine ng rfl rfl (fun h => eo_field rfl f35_2 rfl) rfl ?_
  refine ng rfl rfl (fun h => eo_load 0 rfl s33 (ev_if h rfl) rfl rfl rfl) rfl ?_
  refine ng rfl rfl (fun h => eo_call rfl en27 (evs_cons (ev_if h rfl) (evs_cons (ev_if h rfl) evs_nil)) (fun W1 hO => rsameb_c _ _ _ _ _ _ _ _ W1 (hr.old0 hO) (hr1.old0 hO) (by omega))) rfl ?_
  refine ne (eo_and rfl rfl (fun hb => ev_if hb rfl)) rfl ?_
  refine ne (eo_as rfl rfl) rfl ?_
  refine go_nil ?_
  refine gq_next ?_
  refine gc_ret ?_
  refine gq_results (res1 rfl rfl) ?_
  exact fun W1 hO => ⟨ret_bool eqM_S, hO.toExt⟩

/-- barscan/barscanref20.Sound -/
theorem sound20_c (W H : Int) (A : Option Addr) (n c : Nat) (f : Nat → Bool) (w : World) (_hr : Rd w A (tab n (bv f)))  :
    Calls Try.prog 26 #[.agg #[.int .i64 W, .int .i64 H, .slice A n c]] w (fun e w' => e = .returned (.bool (vldB W H n)) ∧ Ext w w') := by
  refine calls_enter (N := ⟨40, []⟩) [] ([]) Try.func26 rfl rfl rfl (Ow.start _) ?_
  refine gc_seq ?_
  refine gc_region ?_
  refine nx (xo_boxA rfl rfl) rfl ?_
  rintro _ _ ⟨g1, rfl, rfl⟩
  refine ne (eo_as rfl rfl) rfl ?_
  refine go_nil ?_
  refine gq_next ?_
  refine gc_seq ?_
  refine gc_region ?_
  refine ne (eo_field rfl f35_0 rfl) rfl ?_
  refine ne (eo_load 0 rfl s3 rfl rfl rfl rfl) rfl ?_
  refine ne (eo_geq rfl rfl rfl) rfl ?_
  refine ne (eo_mv rfl rfl) rfl ?_
  refine ng rfl rfl (fun h => eo_field rfl f35_0 rfl) rfl ?_
  refine ng rfl rfl (fun h => eo_load 0 rfl s3 (ev_if h rfl) rfl rfl rfl) rfl ?_
  refine ng rfl rfl (fun h => eo_leq rfl (ev_if h rfl) rfl) rfl ?_
  refine ne (eo_and rfl rfl (fun hb => ev_if hb rfl)) rfl ?_
  refine ne (eo_mv rfl rfl) rfl ?_
  refine ng rfl rfl (fun h => eo_field rfl f35_1 rfl) rfl ?_
  refine ng rfl rfl (fun h => eo_load 0 rfl s3 (ev_if h rfl) rfl rfl rfl) rfl ?_
  refine ng rfl rfl (fun h => eo_geq rfl (ev_if h rfl) rfl) rfl ?_
  refine ne (eo_and rfl rfl (fun hb => ev_if hb rfl)) rfl ?_
  refine ne (eo_mv rfl rfl) rfl ?_
  refine ng rfl rfl (fun h => eo_field rfl f35_1 rfl) rfl ?_
  refine ng rfl rfl (fun h => eo_load 0 rfl s3 (ev_if h rfl) rfl rfl rfl) rfl ?_
  refine ng rfl rfl (fun h => eo_leq rfl (ev_if h rfl) rfl) rfl ?_
  refine ne (eo_and rfl rfl (fun hb => ev_if hb rfl)) rfl ?_
  refine ne (eo_mv rfl rfl) rfl ?_
  refine ng rfl rfl (fun h => eo_field rfl f35_0 rfl) rfl ?_
  refine ng rfl rfl (fun h => eo_load 0 rfl s3 (ev_if h rfl) rfl rfl rfl) rfl ?_
  refine ng rfl rfl (fun h => eo_field rfl f35_1 rfl) rfl ?_
  refine ng rfl rfl (fun h => eo_load 0 rfl s3 (ev_if h rfl) rfl rfl rfl) rfl ?_
  refine ng rfl rfl (fun h => eo_mul rfl (ev_if h rfl) (ev_if h rfl) (by have hg0 := (and_t h).imp (fun h => (and_t h).imp (fun h => (and_t h).imp (fun h => of_decide_eq_true h) (fun h => of_decide_eq_true h)) (fun h => of_decide_eq_true h)) (fun h => of_decide_eq_true h); first | omega | (have hm := mul_le2 (show 0 ≤ W by omega) (show W ≤ 4096 by omega) (show 0 ≤ H by omega) (show H ≤ 4096 by omega); omega)) (by have hg0 := (and_t h).imp (fun h => (and_t h).imp (fun h => (and_t h).imp (fun h => of_decide_eq_true h) (fun h => of_decide_eq_true h)) (fun h => of_decide_eq_true h)) (fun h => of_decide_eq_true h); first | omega | (have hm := mul_le2 (show 0 ≤ W by omega) (show W ≤ 4096 by omega) (show 0 ≤ H by omega) (show H ≤ 4096 by omega); omega))) rfl ?_
  refine ng rfl rfl (fun h => eo_leq rfl (ev_if h rfl) rfl) rfl ?_
  refine ne (eo_and rfl rfl (fun hb => ev_if hb rfl)) rfl ?_
  refine ne (eo_mv rfl rfl) rfl ?_
  refine ng rfl rfl (fun h => eo_field rfl f35_2 rfl) rfl ?_
  refine ng rfl rfl (fun h => eo_load 0 rfl s33 (ev_if h rfl) rfl rfl rfl) rfl ?_
  refine ng rfl rfl (fun h => eo_len rfl Try.underlying33 (ev_if h rfl)) rfl ?_
  refine ng rfl rfl (fun h => eo_field rfl f35_0 rfl) rfl ?_
  refine ng rfl rfl (fun h => eo_load 0 rfl s3 (ev_if h rfl) rfl rfl rfl) rfl ?_
  refine ng rfl rfl (fun h => eo_field rfl f35_1 rfl) rfl ?_
  refine ng rfl rfl (fun h => eo_load 0 rfl s3 (ev_if h rfl) rfl rfl rfl) rfl ?_
  refine ng rfl rfl (fun h => eo_mul rfl (ev_if h rfl) (ev_if h rfl) (by have hg0 := (and_t h).imp (fun h => (and_t h).imp (fun h => (and_t h).imp (fun h => (and_t h).imp (fun h => of_decide_eq_true h) (fun h => of_decide_eq_true h)) (fun h => of_decide_eq_true h)) (fun h => of_decide_eq_true h)) (fun h => of_decide_eq_true h); first | omega | (have hm := mul_le2 (show 0 ≤ W by omega) (show W ≤ 4096 by omega) (show 0 ≤ H by omega) (show H ≤ 4096 by omega); omega)) (by have hg0 := (and_t h).imp (fun h => (and_t h).imp (fun h => (and_t h).imp (fun h => (and_t h).imp (fun h => of_decide_eq_true h) (fun h => of_decide_eq_true h)) (fun h => of_decide_eq_true h)) (fun h => of_decide_eq_true h)) (fun h => of_decide_eq_true h); first | omega | (have hm := mul_le2 (show 0 ≤ W by omega) (show W ≤ 4096 by omega) (show 0 ≤ H by omega) (show H ≤ 4096 by omega); omega))) rfl ?_
  refine ng rfl rfl (fun h => eo_eql rfl (ev_if h rfl) (ev_if h rfl)) rfl ?_
  refine ne (eo_and rfl rfl (fun hb => ev_if hb rfl)) rfl ?_
  refine ne (eo_as rfl rfl) rfl ?_
  refine go_nil ?_
  refine gq_next ?_
  refine gc_ret ?_
  refine gq_results (res1 rfl rfl) ?_
  exact fun W1 hO => ⟨ret_bool (by rw [Bool.eq_iff_iff]; simp [vldB_iff, and_assoc]), hO.toExt⟩

/-- barscan/barscanlaw36.few -/
theorem few_c (W H : Int) (A : Option Addr) (n c : Nat) (f : Nat → Int) (w : World) (_hr : Rd w A (tab n (iv .u8 f)))  :
    Calls Try.prog 9 #[.agg #[.int .i64 W, .int .i64 H, .slice A n c]] w (fun e w' => e = .returned (.bool (decide ((n : Int) ≤ 2000))) ∧ Ext w w') := by
  refine calls_enter (N := ⟨7, []⟩) [] ([]) Try.func9 rfl rfl rfl (Ow.start _) ?_
  refine gc_seq ?_
  refine gc_region ?_
  refine nx (xo_boxA rfl rfl) rfl ?_
  rintro _ _ ⟨g1, rfl, rfl⟩
  refine ne (eo_as rfl rfl) rfl ?_
  refine go_nil ?_
  refine gq_next ?_
  refine gc_seq ?_
  refine gc_region ?_
  refine ne (eo_field rfl f24_2 rfl) rfl ?_
  refine ne (eo_load 0 rfl s22 rfl rfl rfl rfl) rfl ?_
  refine ne (eo_len rfl Try.underlying22 rfl) rfl ?_
  refine ne (eo_leq rfl rfl rfl) rfl ?_
  refine ne (eo_as rfl rfl) rfl ?_
  refine go_nil ?_
  refine gq_next ?_
  refine gc_ret ?_
  refine gq_results (res1 rfl rfl) ?_
  exact fun W1 hO => ⟨rfl, hO.toExt⟩

end Go.Proofs.Ytcdhbikginpogaa
