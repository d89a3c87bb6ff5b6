/-
  The walks of the functions of packages bigint and threshold and of the document's answers (part P): what each call returns, at every argument.
-/
import Derived.Test.YtcdhbikginpogaaWO
import Derived.Test.YtcdhbikginpogaaNe
namespace Go.Proofs.Ytcdhbikginpogaa
open Go.RowKit Go.Eng

open Go.Bs
theorem en21 : Ent Try.prog 21 := ent_of Try.func21 (by kernel_rfl) rfl

/-- barscan/barscanref36.Local -/
theorem rloc_x (W H : Int) (A : Option Addr) (n c : Nat) (f : Nat → Int) (r : Int) (pc : Int) (w : World) (hr : Rd w A (tab n (iv .u8 f))) (hp : PixOk n f) :
    Calls Try.prog 23 #[.agg #[.int .i64 W, .int .i64 H, .slice A n c], .int .i64 r, .int .i64 pc] w (fun e w' => ∃ v Hn, e = .returned v ∧ RX (locR ⟨W, H, n, f⟩ r pc) v Hn ∧ Ow [] w w' Hn) := by
  refine calls_enter (N := ⟨150, []⟩) [] ([]) Try.func23 rfl rfl rfl (Ow.start _) ?_
  refine gc_seq ?_
  refine gc_region ?_
  refine nx (xo_boxA rfl rfl) rfl ?_
  rintro _ _ ⟨g3, rfl, rfl⟩
  refine nx (xo_alloc rfl z35) rfl ?_
  rintro _ _ ⟨g6, rfl, rfl⟩
  refine ne (eo_as rfl rfl) rfl ?_
  refine go_nil ?_
  refine gq_next ?_
  refine gc_seq ?_
  refine gc_region ?_
  refine ne (eo_loadA 1 rfl a24 rfl rfl rfl rfl) rfl ?_
  refine nx (xo_freshT rfl en21 rfl (fun W1 hO => rint_x _ _ _ _ _ _ W1 (hr.old0 hO) (by assumption))) rfl ?_
  rintro _ _ ⟨S21, ⟨A21, k21, rfl, hk21, hS21⟩, rfl⟩
  refine ne (eo_mv rfl rfl) rfl ?_
  refine ne (eo_extract rfl rfl rfl) rfl ?_
  refine ne (eo_extract rfl rfl rfl) rfl ?_
  refine ne (eo_as rfl rfl) rfl ?_
  refine ne (eo_as rfl rfl) rfl ?_
  refine go_nil ?_
  refine gq_next ?_
  refine gc_seq ?_
  refine gc_seq ?_
  refine gc_region ?_
  refine ne (eo_mv rfl rfl) rfl ?_
  refine ne (eo_neq rfl rfl rfl) rfl ?_
  refine go_nil ?_
  refine gq_next ?_
  refine gc_cond rfl (fun hc0 => ?_) (fun hc0 => ?_)
  ·
    replace hc0 := of_decide_eq_true hc0
    refine gc_seq ?_
    refine gc_region ?_
    refine ne (eo_build rfl rfl (b35_)) rfl ?_
    refine ne (eo_mv rfl rfl) rfl ?_
    refine nu (xo_storeA 0 rfl a35 rfl rfl (ones_cons (by first | rfl | exact AS.one) (ones_cons (by first | rfl | exact AS.one) (ones_cons (by first | rfl | exact AS.one) ones_nil))) rfl rfl rfl rfl) ?_
    rintro _ _ ⟨rfl, rfl⟩
    refine ne (eo_as rfl rfl) rfl ?_
    refine go_nil ?_
    refine gq_next ?_
    refine gc_ret ?_
    refine gq_then_ret ?_
    refine gq_results (resCT 0 rfl a35 rfl rfl rfl rfl rfl) ?_
    exact fun W1 hO => rx_nil hO (by rw [(intR_err hc0).2]; exact locR_no (intR_err hc0).1)
  ·
    replace hc0 := of_decide_eq_false hc0
    have hv := intR_zero hc0
    obtain ⟨v1, v2, v3, v4, v5, v6⟩ := vldB_iff.1 hv
    have v7 := vld_pos hv
    have v8 := mul_up1 v1 v2 v3 v4
    have hg := fx_bd hp
    have hN : (intR ⟨W, H, n, f⟩).1.1 = ((W + 1) * (H + 1)).toNat := by rw [intR_ok hv]
    have hF : (intR ⟨W, H, n, f⟩).1.2 = sumG (fx n f) W := by rw [intR_ok hv]
    refine gc_skip ?_
    refine gq_next ?_
    refine gc_seq ?_
    refine gc_seq ?_
    refine gc_region ?_
    refine ne (eo_mv rfl rfl) rfl ?_
    refine ne (eo_lss rfl rfl rfl) rfl ?_
    refine ne (eo_mv rfl rfl) rfl ?_
    refine ng rfl rfl (fun h => eo_mv rfl rfl) rfl ?_
    refine ng rfl rfl (fun h => eo_gtr rfl (ev_if h rfl) rfl) rfl ?_
    refine ne (eo_or rfl rfl (fun hb => ev_if hb rfl)) rfl ?_
    refine ne (eo_mv rfl rfl) rfl ?_
    refine ng rfl rfl (fun h => eo_mv rfl rfl) rfl ?_
    refine ng rfl rfl (fun h => eo_lss rfl (ev_if h rfl) rfl) rfl ?_
    refine ne (eo_or rfl rfl (fun hb => ev_if hb rfl)) rfl ?_
    refine ne (eo_mv rfl rfl) rfl ?_
    refine ng rfl rfl (fun h => eo_mv rfl rfl) rfl ?_
    refine ng rfl rfl (fun h => eo_gtr rfl (ev_if h rfl) rfl) rfl ?_
    refine ne (eo_or rfl rfl (fun hb => ev_if hb rfl)) rfl ?_
    refine go_nil ?_
    refine gq_next ?_
    refine gc_cond rfl (fun hc1 => ?_) (fun hc1 => ?_)
    ·
      have hd1 := (or_t hc1).imp (fun h => (or_t h).imp (fun h => (or_t h).imp (fun h => of_decide_eq_true h) (fun h => of_decide_eq_true h)) (fun h => of_decide_eq_true h)) (fun h => of_decide_eq_true h)
      refine gc_seq ?_
      refine gc_region ?_
      refine ne (eo_build rfl rfl (b35_)) rfl ?_
      refine nu (xo_storeA 0 rfl a35 rfl rfl (ones_cons (by first | rfl | exact AS.one) (ones_cons (by first | rfl | exact AS.one) (ones_cons (by first | rfl | exact AS.one) ones_nil))) rfl rfl rfl rfl) ?_
      rintro _ _ ⟨rfl, rfl⟩
      refine ne (eo_as rfl rfl) rfl ?_
      refine go_nil ?_
      refine gq_next ?_
      refine gc_ret ?_
      refine gq_then_ret ?_
      refine gq_results (resCT 0 rfl a35 rfl rfl rfl rfl rfl) ?_
      exact fun W1 hO => rx_nil hO (locR_range hv (by omega))
    ·
      have hd1 := (or_f hc1).imp (fun h => (or_f h).imp (fun h => (or_f h).imp (fun h => of_decide_eq_false h) (fun h => of_decide_eq_false h)) (fun h => of_decide_eq_false h)) (fun h => of_decide_eq_false h)
      refine gc_skip ?_
      refine gq_next ?_
      refine gc_seq ?_
      refine gc_region ?_
      refine ne (eo_field rfl f24_0 rfl) rfl ?_
      refine ne (eo_load 1 rfl s3 rfl rfl rfl rfl) rfl ?_
      refine ne (eo_field rfl f24_1 rfl) rfl ?_
      refine ne (eo_load 1 rfl s3 rfl rfl rfl rfl) rfl ?_
      refine ne (eo_build rfl rfl (b35_01 _ _)) rfl ?_
      refine nx (xo_alloc rfl z35) rfl ?_
      rintro _ _ ⟨g10, rfl, rfl⟩
      refine nu (xo_storeA 0 rfl a35 rfl rfl (ones_cons (by first | rfl | exact AS.one) (ones_cons (by first | rfl | exact AS.one) (ones_cons (by first | rfl | exact AS.one) ones_nil))) rfl rfl rfl rfl) ?_
      rintro _ _ ⟨rfl, rfl⟩
      refine go_nil ?_
      refine gq_next ?_
      refine gc_seq ?_
      refine gc_region ?_
      refine ne (eo_field rfl f24_0 rfl) rfl ?_
      refine ne (eo_load 2 rfl s3 rfl rfl rfl rfl) rfl ?_
      refine ne (eo_add rfl rfl rfl (by omega) (by omega)) rfl ?_
      refine ne (eo_as rfl rfl) rfl ?_
      refine go_nil ?_
      refine gq_next ?_
      refine gc_seq ?_
      refine gc_seq ?_
      refine gc_region ?_
      refine ne (eo_as rfl rfl) rfl ?_
      refine go_nil ?_
      refine gq_next ?_
      refine gc_block ?_
      refine loop3 (fun (y : Nat) (q : Nat) (s : AS) => (y : Int) ≤ H ∧ (q : Int) = y * W ∧ s.Ok 1 q (tab q (bv (locF ⟨W, H, n, f⟩ r pc)))) (fun (y : Nat) (q : Nat) (s : AS) => (H - y).toNat) (fun (y : Nat) (q : Nat) (s : AS) => [(1, .int .i64 r), (2, .int .i64 pc), (3, .pointer (some ⟨g3, 0, none⟩)), (6, .pointer (some ⟨g6, 0, none⟩)), (8, .slice A21 ((intR ⟨W, H, n, f⟩).1.1) k21), (10, .pointer (some ⟨g10, 0, none⟩)), (11, .int .i64 (W + 1)), (12, .int .i64 (y : Int))]) (fun (y : Nat) (q : Nat) (s : AS) => ⟨g10, 35, [.int .i64 W, .int .i64 H, s.val q]⟩ :: ⟨g6, 35, [.int .i64 0, .int .i64 0, .slice none 0 0]⟩ :: ⟨g3, 24, [.int .i64 W, .int .i64 H, .slice A n c]⟩ :: (S21 ++ s.blks 4 (tab q (bv (locF ⟨W, H, n, f⟩ r pc))))) 0 0 .nil ⟨by omega, by simp, AS.Ok0⟩ ⟨rfl, rfl, rfl, rfl, rfl, rfl, rfl, rfl, trivial⟩ (List.Sublist.cons_cons _ (List.Sublist.cons_cons _ (List.Sublist.cons_cons _ sub_nil))) ?_
      rintro y q s ⟨hy, hq, hs⟩
      refine gc_seq ?_
      refine gc_seq ?_
      refine gc_region ?_
      refine ne (eo_mv rfl rfl) rfl ?_
      refine ne (eo_field rfl f24_1 rfl) rfl ?_
      refine ne (eo_load 2 rfl s3 rfl rfl rfl rfl) rfl ?_
      refine ne (eo_lss rfl rfl rfl) rfl ?_
      refine go_nil ?_
      refine gq_next ?_
      refine gc_cond rfl (fun hc2 => ?_) (fun hc2 => ?_)
      ·
        replace hc2 := of_decide_eq_true hc2
        have hb0 := idx_bd (W := W) (H := H) (x := 0) (y := (y : Int)) (by omega) (by omega) (by omega) (by omega)
        refine gc_skip ?_
        refine gq_next ?_
        refine gc_seq ?_
        refine gc_block ?_
        refine gc_seq ?_
        refine gc_region ?_
        refine ne (eo_as rfl rfl) rfl ?_
        refine go_nil ?_
        refine gq_next ?_
        refine gc_block ?_
        refine loop3 (fun (x : Nat) (q : Nat) (s : AS) => (x : Int) ≤ W ∧ (q : Int) = y * W + x ∧ s.Ok 1 q (tab q (bv (locF ⟨W, H, n, f⟩ r pc)))) (fun (x : Nat) (q : Nat) (s : AS) => (W - x).toNat) (fun (x : Nat) (q : Nat) (s : AS) => [(1, .int .i64 r), (2, .int .i64 pc), (3, .pointer (some ⟨g3, 0, none⟩)), (6, .pointer (some ⟨g6, 0, none⟩)), (8, .slice A21 ((intR ⟨W, H, n, f⟩).1.1) k21), (10, .pointer (some ⟨g10, 0, none⟩)), (11, .int .i64 (W + 1)), (12, .int .i64 (y : Int)), (13, .int .i64 (x : Int))]) (fun (x : Nat) (q : Nat) (s : AS) => ⟨g10, 35, [.int .i64 W, .int .i64 H, s.val q]⟩ :: ⟨g6, 35, [.int .i64 0, .int .i64 0, .slice none 0 0]⟩ :: ⟨g3, 24, [.int .i64 W, .int .i64 H, .slice A n c]⟩ :: (S21 ++ s.blks 4 (tab q (bv (locF ⟨W, H, n, f⟩ r pc))))) 0 q s ⟨by omega, by omega, hs⟩ ⟨rfl, rfl, rfl, rfl, rfl, rfl, rfl, rfl, rfl, trivial⟩ (List.Sublist.refl _) ?_
        rintro x q s ⟨hx, hq, hs⟩
        refine gc_seq ?_
        refine gc_seq ?_
        refine gc_region ?_
        refine ne (eo_mv rfl rfl) rfl ?_
        refine ne (eo_field rfl f24_0 rfl) rfl ?_
        refine ne (eo_load 2 rfl s3 rfl rfl rfl rfl) rfl ?_
        refine ne (eo_lss rfl rfl rfl) rfl ?_
        refine go_nil ?_
        refine gq_next ?_
        refine gc_cond rfl (fun hc3 => ?_) (fun hc3 => ?_)
        ·
          replace hc3 := of_decide_eq_true hc3
          have cq1 : (intR ⟨W, H, n, f⟩).1.2 ((min H ((y : Int) + r + 1)) * (W + 1) + (min W ((x : Int) + r + 1))).toNat = sumS (fx n f) W ((min H ((y : Int) + r + 1))).toNat ((min W ((x : Int) + r + 1))).toNat := by rw [hF]; exact sumG_z (by omega) (by omega) (by omega) (by omega)
          have cb1 := sumS_z (g := (fx n f)) (W := W) (hi := 255) (y := (min H ((y : Int) + r + 1))) (x := (min W ((x : Int) + r + 1))) (by omega) hg (by omega) (by omega) (by omega) (by omega)
          have ci1 := idx_bd (W := W + 1) (H := H + 1) (x := (min W ((x : Int) + r + 1))) (y := (min H ((y : Int) + r + 1))) (by omega) (by omega) (by omega) (by omega)
          have cq2 : (intR ⟨W, H, n, f⟩).1.2 ((min H ((y : Int) + r + 1)) * (W + 1) + (max 0 ((x : Int) - r))).toNat = sumS (fx n f) W ((min H ((y : Int) + r + 1))).toNat ((max 0 ((x : Int) - r))).toNat := by rw [hF]; exact sumG_z (by omega) (by omega) (by omega) (by omega)
          have cb2 := sumS_z (g := (fx n f)) (W := W) (hi := 255) (y := (min H ((y : Int) + r + 1))) (x := (max 0 ((x : Int) - r))) (by omega) hg (by omega) (by omega) (by omega) (by omega)
          have ci2 := idx_bd (W := W + 1) (H := H + 1) (x := (max 0 ((x : Int) - r))) (y := (min H ((y : Int) + r + 1))) (by omega) (by omega) (by omega) (by omega)
          have cq3 : (intR ⟨W, H, n, f⟩).1.2 ((max 0 ((y : Int) - r)) * (W + 1) + (min W ((x : Int) + r + 1))).toNat = sumS (fx n f) W ((max 0 ((y : Int) - r))).toNat ((min W ((x : Int) + r + 1))).toNat := by rw [hF]; exact sumG_z (by omega) (by omega) (by omega) (by omega)
          have cb3 := sumS_z (g := (fx n f)) (W := W) (hi := 255) (y := (max 0 ((y : Int) - r))) (x := (min W ((x : Int) + r + 1))) (by omega) hg (by omega) (by omega) (by omega) (by omega)
          have ci3 := idx_bd (W := W + 1) (H := H + 1) (x := (min W ((x : Int) + r + 1))) (y := (max 0 ((y : Int) - r))) (by omega) (by omega) (by omega) (by omega)
          have cq4 : (intR ⟨W, H, n, f⟩).1.2 ((max 0 ((y : Int) - r)) * (W + 1) + (max 0 ((x : Int) - r))).toNat = sumS (fx n f) W ((max 0 ((y : Int) - r))).toNat ((max 0 ((x : Int) - r))).toNat := by rw [hF]; exact sumG_z (by omega) (by omega) (by omega) (by omega)
          have cb4 := sumS_z (g := (fx n f)) (W := W) (hi := 255) (y := (max 0 ((y : Int) - r))) (x := (max 0 ((x : Int) - r))) (by omega) hg (by omega) (by omega) (by omega) (by omega)
          have ci4 := idx_bd (W := W + 1) (H := H + 1) (x := (max 0 ((x : Int) - r))) (y := (max 0 ((y : Int) - r))) (by omega) (by omega) (by omega) (by omega)
          have hbx : (intR ⟨W, H, n, f⟩).1.2 ((min H ((y : Int) + r + 1)) * (W + 1) + (min W ((x : Int) + r + 1))).toNat - (intR ⟨W, H, n, f⟩).1.2 ((min H ((y : Int) + r + 1)) * (W + 1) + (max 0 ((x : Int) - r))).toNat - (intR ⟨W, H, n, f⟩).1.2 ((max 0 ((y : Int) - r)) * (W + 1) + (min W ((x : Int) + r + 1))).toNat + (intR ⟨W, H, n, f⟩).1.2 ((max 0 ((y : Int) - r)) * (W + 1) + (max 0 ((x : Int) - r))).toNat = boxAt (fx n f) W H (x : Int) (y : Int) r r := by rw [cq1, cq2, cq3, cq4]; rfl
          have hub : 0 ≤ boxAt (fx n f) W H (x : Int) (y : Int) r r ∧ boxAt (fx n f) W H (x : Int) (y : Int) r r ≤ 255 * (4096 * 4096) := box_up hg (by omega) (by omega) (by omega) (by omega) (by omega) (by omega)
          have hid := idx_bd (W := W) (H := H) (x := (x : Int)) (y := (y : Int)) (by omega) (by omega) (by omega) (by omega)
          have hpx := hp ((y : Int) * W + (x : Int)).toNat (by omega)
          have har := mul_le2 (a := 100 * ((min W ((x : Int) + r + 1)) - (max 0 ((x : Int) - r)))) (b := (min H ((y : Int) + r + 1)) - (max 0 ((y : Int) - r))) (A := 409600) (B := 4096) (by omega) (by omega) (by omega) (by omega)
          have hpv := mul_le2 (a := 100 * ((min W ((x : Int) + r + 1)) - (max 0 ((x : Int) - r))) * ((min H ((y : Int) + r + 1)) - (max 0 ((y : Int) - r)))) (b := f ((y : Int) * W + (x : Int)).toNat) (A := 1677721600) (B := 255) (by omega) (by omega) (by omega) (by omega)
          have hps := mul_le2 (a := pc) (b := boxAt (fx n f) W H (x : Int) (y : Int) r r) (A := 200) (B := 4278190080) (by omega) (by omega) (by omega) (by omega)
          have hla := loc_at (m := ⟨W, H, n, f⟩) (x := x) (y := y) (q := q) (r := r) (p := pc) (by show _ < W; omega) (by show _ = _ * W + _; omega) hbx
          rw [← hbx] at hps hub
          have hqe : ((y : Int) * W + (x : Int)).toNat = q := by omega
          refine gc_skip ?_
          refine gq_next ?_
          refine gc_seq ?_
          refine gc_block ?_
          refine gc_seq ?_
          refine gc_draw [] [0, 1, 2, 3, 4, 5, 6, 7, 8, 9, 10, 11, 12] [] [] (by kernel_rfl) (by kernel_rfl) ?_
          refine gp_nil ?_
          refine de rfl (eo_mv rfl rfl) rfl ?_
          refine de rfl (eo_mv rfl rfl) rfl ?_
          refine de rfl (eo_sub rfl rfl rfl (by omega) (by omega)) rfl ?_
          refine de rfl (eo_max rfl rfl rfl) rfl ?_
          refine de rfl (eo_field rfl f24_0 rfl) rfl ?_
          refine de rfl (eo_load 2 rfl s3 rfl rfl rfl rfl) rfl ?_
          refine de rfl (eo_mv rfl rfl) rfl ?_
          refine de rfl (eo_mv rfl rfl) rfl ?_
          refine de rfl (eo_add rfl rfl rfl (by omega) (by omega)) rfl ?_
          refine de rfl (eo_add rfl rfl rfl (by omega) (by omega)) rfl ?_
          refine de rfl (eo_min rfl rfl rfl) rfl ?_
          refine de rfl (eo_as rfl rfl) rfl ?_
          refine de rfl (eo_as rfl rfl) rfl ?_
          refine ge_nil ?_
          refine ga_nil ?_
          refine gi_nil ?_
          refine gq_nq ?_
          refine gq_next ?_
          refine gc_seq ?_
          refine gc_draw [] [0, 1, 2, 3, 4, 5, 6, 7, 8, 9, 10, 11, 12] [] [] (by kernel_rfl) (by kernel_rfl) ?_
          refine gp_nil ?_
          refine de rfl (eo_mv rfl rfl) rfl ?_
          refine de rfl (eo_mv rfl rfl) rfl ?_
          refine de rfl (eo_sub rfl rfl rfl (by omega) (by omega)) rfl ?_
          refine de rfl (eo_max rfl rfl rfl) rfl ?_
          refine de rfl (eo_field rfl f24_1 rfl) rfl ?_
          refine de rfl (eo_load 2 rfl s3 rfl rfl rfl rfl) rfl ?_
          refine de rfl (eo_mv rfl rfl) rfl ?_
          refine de rfl (eo_mv rfl rfl) rfl ?_
          refine de rfl (eo_add rfl rfl rfl (by omega) (by omega)) rfl ?_
          refine de rfl (eo_add rfl rfl rfl (by omega) (by omega)) rfl ?_
          refine de rfl (eo_min rfl rfl rfl) rfl ?_
          refine de rfl (eo_as rfl rfl) rfl ?_
          refine de rfl (eo_as rfl rfl) rfl ?_
          refine ge_nil ?_
          refine ga_nil ?_
          refine gi_nil ?_
          refine gq_nq ?_
          refine gq_next ?_
          refine gc_seq ?_
          refine gc_draw [] [0, 1, 2, 3, 4, 5, 6, 7, 8, 9, 10, 11, 12, 13, 14, 15, 16, 17, 18, 19, 20, 21, 22, 23, 24, 25, 26, 27, 28, 29, 30, 31, 32, 33, 34, 35] [] [] (by kernel_rfl) (by kernel_rfl) ?_
          refine gp_nil ?_
          refine de rfl (eo_mv rfl rfl) rfl ?_
          refine de rfl (eo_mv rfl rfl) rfl ?_
          refine de rfl (eo_mv rfl rfl) rfl ?_
          refine de rfl (eo_mul rfl rfl rfl (by omega) (by omega)) rfl ?_
          refine de rfl (eo_mv rfl rfl) rfl ?_
          refine de rfl (eo_add rfl rfl rfl (by omega) (by omega)) rfl ?_
          refine de rfl (eo_indexS rfl sl41 rfl rfl (fun W1 hO => (hS21.rd (hO.tl 3 rfl (List.sublist_append_left _ _)))) (by simp) (by omega) (by omega)) rfl ?_
          refine de rfl (eo_loadS rfl s3 rfl (fun W1 hO => Rd.tabi (hS21.rd (hO.tl 3 rfl (List.sublist_append_left _ _))) (by omega))) rfl ?_
          refine de rfl (eo_mv rfl rfl) rfl ?_
          refine de rfl (eo_mv rfl rfl) rfl ?_
          refine de rfl (eo_mv rfl rfl) rfl ?_
          refine de rfl (eo_mul rfl rfl rfl (by omega) (by omega)) rfl ?_
          refine de rfl (eo_mv rfl rfl) rfl ?_
          refine de rfl (eo_add rfl rfl rfl (by omega) (by omega)) rfl ?_
          refine de rfl (eo_indexS rfl sl41 rfl rfl (fun W1 hO => (hS21.rd (hO.tl 3 rfl (List.sublist_append_left _ _)))) (by simp) (by omega) (by omega)) rfl ?_
          refine de rfl (eo_loadS rfl s3 rfl (fun W1 hO => Rd.tabi (hS21.rd (hO.tl 3 rfl (List.sublist_append_left _ _))) (by omega))) rfl ?_
          refine de rfl (eo_sub rfl rfl rfl (by omega) (by omega)) rfl ?_
          refine de rfl (eo_mv rfl rfl) rfl ?_
          refine de rfl (eo_mv rfl rfl) rfl ?_
          refine de rfl (eo_mv rfl rfl) rfl ?_
          refine de rfl (eo_mul rfl rfl rfl (by omega) (by omega)) rfl ?_
          refine de rfl (eo_mv rfl rfl) rfl ?_
          refine de rfl (eo_add rfl rfl rfl (by omega) (by omega)) rfl ?_
          refine de rfl (eo_indexS rfl sl41 rfl rfl (fun W1 hO => (hS21.rd (hO.tl 3 rfl (List.sublist_append_left _ _)))) (by simp) (by omega) (by omega)) rfl ?_
          refine de rfl (eo_loadS rfl s3 rfl (fun W1 hO => Rd.tabi (hS21.rd (hO.tl 3 rfl (List.sublist_append_left _ _))) (by omega))) rfl ?_
          refine de rfl (eo_sub rfl rfl rfl (by omega) (by omega)) rfl ?_
          refine de rfl (eo_mv rfl rfl) rfl ?_
          refine de rfl (eo_mv rfl rfl) rfl ?_
          refine de rfl (eo_mv rfl rfl) rfl ?_
          refine de rfl (eo_mul rfl rfl rfl (by omega) (by omega)) rfl ?_
          refine de rfl (eo_mv rfl rfl) rfl ?_
          refine de rfl (eo_add rfl rfl rfl (by omega) (by omega)) rfl ?_
          refine de rfl (eo_indexS rfl sl41 rfl rfl (fun W1 hO => (hS21.rd (hO.tl 3 rfl (List.sublist_append_left _ _)))) (by simp) (by omega) (by omega)) rfl ?_
          refine de rfl (eo_loadS rfl s3 rfl (fun W1 hO => Rd.tabi (hS21.rd (hO.tl 3 rfl (List.sublist_append_left _ _))) (by omega))) rfl ?_
          refine de rfl (eo_add rfl rfl rfl (by omega) (by omega)) rfl ?_
          refine de rfl (eo_as rfl rfl) rfl ?_
          refine ge_nil ?_
          refine ga_nil ?_
          refine gi_nil ?_
          refine gq_nq ?_
          refine gq_next ?_
          refine gc_draw [] [0, 1, 2, 3, 4, 5, 6, 7, 8, 9, 10, 11, 12, 13, 14, 15, 16, 17, 18, 19, 20, 21, 22, 23, 24, 25] [26] [27, 28, 29] (by kernel_rfl) (by kernel_rfl) ?_
          refine gp_nil ?_
          refine de rfl (eo_field rfl f35_2 rfl) rfl ?_
          refine de rfl (eo_load 0 rfl s33 rfl rfl rfl rfl) rfl ?_
          refine de rfl (eo_mv rfl rfl) rfl ?_
          refine de rfl (eo_mv rfl rfl) rfl ?_
          refine de rfl (eo_sub rfl rfl rfl (by omega) (by omega)) rfl ?_
          refine de rfl (eo_mul rfl rfl rfl (by omega) (by omega)) rfl ?_
          refine de rfl (eo_mv rfl rfl) rfl ?_
          refine de rfl (eo_mv rfl rfl) rfl ?_
          refine de rfl (eo_sub rfl rfl rfl (by omega) (by omega)) rfl ?_
          refine de rfl (eo_mul rfl rfl rfl (by omega) (by omega)) rfl ?_
          refine de rfl (eo_field rfl f24_2 rfl) rfl ?_
          refine de rfl (eo_load 2 rfl s22 rfl rfl rfl rfl) rfl ?_
          refine de rfl (eo_mv rfl rfl) rfl ?_
          refine de rfl (eo_field rfl f24_0 rfl) rfl ?_
          refine de rfl (eo_load 2 rfl s3 rfl rfl rfl rfl) rfl ?_
          refine de rfl (eo_mul rfl rfl rfl (by omega) (by omega)) rfl ?_
          refine de rfl (eo_mv rfl rfl) rfl ?_
          refine de rfl (eo_add rfl rfl rfl (by omega) (by omega)) rfl ?_
          refine de rfl (eo_indexR rfl sl22 rfl rfl hr (by simp) (by omega) (by omega)) rfl ?_
          refine de rfl (eo_load_old rfl s5 rfl (Rd.tabi hr (by omega)) (by simp)) rfl ?_
          refine de rfl (eo_convi rfl rfl ⟨_, Try.underlying5⟩ Try.underlying3 (by omega) (by omega)) rfl ?_
          refine de rfl (eo_mul rfl rfl rfl (by omega) (by omega)) rfl ?_
          refine de rfl (eo_mv rfl rfl) rfl ?_
          refine de rfl (eo_mv rfl rfl) rfl ?_
          refine de rfl (eo_mul rfl rfl rfl (by omega) (by omega)) rfl ?_
          refine de rfl (eo_lss rfl rfl rfl) rfl ?_
          refine ge_nil ?_
          refine da rfl (xo_lit1 rfl Try.underlying33 e4 rfl (by first | rfl | exact AS.one)) rfl ?_
          rintro _ _ ⟨g146, rfl, rfl⟩
          refine ⟨by first | exact (List.Sublist.cons _ (List.Sublist.refl _)) | exact (List.sublist_append_left _ _), ?_⟩
          refine ga_nil ?_
          refine ix rfl (xo_app1bT (⟨g146, 4, [.bool (decide ((((100 * ((min W (((x : Int) + r) + 1)) - (max 0 ((x : Int) - r)))) * ((min H (((y : Int) + r) + 1)) - (max 0 ((y : Int) - r)))) * (f (((((y : Int) * W) + (x : Int))).toNat))) < (pc * ((((((intR ⟨W, H, n, f⟩).1.2) (((((min H (((y : Int) + r) + 1)) * (W + 1)) + (min W (((x : Int) + r) + 1)))).toNat)) - (((intR ⟨W, H, n, f⟩).1.2) (((((min H (((y : Int) + r) + 1)) * (W + 1)) + (max 0 ((x : Int) - r)))).toNat))) - (((intR ⟨W, H, n, f⟩).1.2) (((((max 0 ((y : Int) - r)) * (W + 1)) + (min W (((x : Int) + r) + 1)))).toNat))) + (((intR ⟨W, H, n, f⟩).1.2) (((((max 0 ((y : Int) - r)) * (W + 1)) + (max 0 ((x : Int) - r)))).toNat))))))]⟩ :: ⟨g10, 35, [.int .i64 W, .int .i64 H, s.val q]⟩ :: ⟨g6, 35, [.int .i64 0, .int .i64 0, .slice none 0 0]⟩ :: ⟨g3, 24, [.int .i64 W, .int .i64 H, .slice A n c]⟩ :: S21) rfl rfl Try.underlying33 e4 rfl hs rfl rfl (Eq.trans (by rw [hqe, Int.mul_assoc 100]; rfl) hla) (by omega)) rfl ?_
          rintro _ _ ⟨s147, hs147, rfl, rfl⟩
          refine ie rfl (eo_field rfl f35_2 rfl) rfl ?_
          refine iu rfl (xo_store 1 rfl s33 rfl rfl (by first | rfl | exact AS.one) rfl rfl (by simp)) ?_
          rintro _ _ ⟨rfl, rfl⟩
          refine gi_nil ?_
          refine gq_nq ?_
          refine gq_block_end ?_
          refine gq_next ?_
          refine gc_region ?_
          refine ne (eo_mv rfl rfl) rfl ?_
          refine ne (eo_add rfl rfl rfl (by omega) (by omega)) rfl ?_
          refine ne (eo_as rfl rfl) rfl ?_
          refine go_nil ?_
          exact round3 (x + 1) (q + 1) s147 ⟨by omega, by push_cast; omega, hs147⟩ (by omega) ⟨rfl, rfl, rfl, rfl, rfl, rfl, rfl, rfl, rfl, trivial⟩ (List.Sublist.cons _ (List.Sublist.refl _))
        ·
          replace hc3 := of_decide_eq_false hc3
          refine gc_exit ?_
          refine gq_then_exit ?_
          refine gq_then_exit ?_
          refine gq_block_hit ?_
          refine gq_block_end ?_
          refine gq_next ?_
          refine gc_region ?_
          refine ne (eo_mv rfl rfl) rfl ?_
          refine ne (eo_add rfl rfl rfl (by omega) (by omega)) rfl ?_
          refine ne (eo_as rfl rfl) rfl ?_
          refine go_nil ?_
          exact round3 (y + 1) q s ⟨by omega, by push_cast; rw [add1_mul]; omega, hs⟩ (by omega) ⟨rfl, rfl, rfl, rfl, rfl, rfl, rfl, rfl, trivial⟩ (List.Sublist.refl _)
      ·
        replace hc2 := of_decide_eq_false hc2
        refine gc_exit ?_
        refine gq_then_exit ?_
        refine gq_then_exit ?_
        refine gq_block_hit ?_
        refine gq_next ?_
        refine gc_seq ?_
        refine gc_region ?_
        refine ne (eo_loadA 0 rfl a35 rfl rfl rfl rfl) rfl ?_
        refine nu (xo_storeA 1 rfl a35 rfl rfl (ones_cons (by first | rfl | exact AS.one) (ones_cons (by first | rfl | exact AS.one) (ones_cons (by first | rfl | exact AS.one) ones_nil))) rfl rfl rfl rfl) ?_
        rintro _ _ ⟨rfl, rfl⟩
        refine ne (eo_as rfl rfl) rfl ?_
        refine go_nil ?_
        refine gq_next ?_
        refine gc_ret ?_
        refine gq_results (resCT 1 rfl a35 rfl rfl rfl rfl rfl) ?_
        have hqn : q = n := by
          have e1 : (y : Int) = H := by omega
          rw [e1, Int.mul_comm] at hq
          omega
        subst hqn
        exact fun W1 hO => rx_as 0 (hO.tl 3 rfl (List.sublist_append_right _ _)) rfl hs (locR_ok hv (by omega))

end Go.Proofs.Ytcdhbikginpogaa
