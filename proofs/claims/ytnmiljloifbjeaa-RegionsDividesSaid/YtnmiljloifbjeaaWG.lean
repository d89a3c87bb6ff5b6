/-
  The walks of the functions of package regions and of the document's answers (part G): what each call returns, at every argument.
-/
import Derived.Test.YtnmiljloifbjeaaWB
namespace Go.Proofs.Ytnmiljloifbjeaa
open Go.RowKit Go.Eng

open Go.Bs
theorem z24 : TyZ Try.prog 24 [.int .i64 0, .int .i64 0, .slice none 0 0] := .inl (by kernel_rfl)
theorem e4 : TyE Try.prog 4 (.bool false) 1 := ⟨rfl, by kernel_rfl⟩
theorem b24_012 (x0 : Int) (x1 : Int) (x2A : Option Addr) (x2n x2c : Nat) (W : World) : (Instr.build 24 #[(0, .int .i64 x0), (1, .int .i64 x1), (2, .slice x2A x2n x2c)]).run Try.prog W = .ok (.agg #[.int .i64 x0, .int .i64 x1, .slice x2A x2n x2c]) W := by kernel_rfl
theorem b24_  (W : World) : (Instr.build 24 #[]).run Try.prog W = .ok (.agg #[.int .i64 0, .int .i64 0, .slice none 0 0]) W := by kernel_rfl
theorem en9 : Ent Try.prog 9 := ent_of Try.func9 (by kernel_rfl) rfl
theorem en32 : Ent Try.prog 32 := ent_of Try.func32 (by kernel_rfl) rfl

/-- barscan/barscanref20.Copy -/
theorem copy20_x (W H : Int) (A : Option Addr) (n c : Nat) (f : Nat → Bool) (w : World) (hr : Rd w A (tab n (bv f))) (hn0 : 0 < n) (hn1 : n ≤ 1073741824) :
    Calls Try.prog 32 #[.agg #[.int .i64 W, .int .i64 H, .slice A n c]] w (fun e w' => ∃ v Hn, e = .returned v ∧ RM 4 W H n f v Hn ∧ Ow [] w w' Hn) := by
  refine calls_enter (N := ⟨14, []⟩) [] ([]) Try.func32 rfl rfl rfl (Ow.start _) ?_
  refine gc_seq ?_
  refine gc_region ?_
  refine nx (xo_boxA rfl rfl) rfl ?_
  rintro _ _ ⟨g1, rfl, rfl⟩
  refine nx (xo_alloc rfl z24) rfl ?_
  rintro _ _ ⟨g2, rfl, rfl⟩
  refine go_nil ?_
  refine gq_next ?_
  refine gc_seq ?_
  refine gc_region ?_
  refine ne (eo_as rfl rfl) rfl ?_
  refine go_nil ?_
  refine gq_next ?_
  refine gc_seq ?_
  refine gc_region ?_
  refine ne (eo_mv rfl rfl) rfl ?_
  refine ne (eo_field rfl f24_2 rfl) rfl ?_
  refine ne (eo_load 1 rfl s22 rfl rfl rfl rfl) rfl ?_
  refine nx (xo_grabN (F := (bv f)) rfl Try.underlying22 e4.toN rfl rfl (fun W1 hO => (hr.old0 hO)) tab_oneb (by omega) (by omega) (by decide)) rfl ?_
  rintro _ _ ⟨gn7, cn7, sn7, rfl, rfl, hcn7⟩
  refine ne (eo_as rfl rfl) rfl ?_
  refine go_nil ?_
  refine gq_next ?_
  refine gc_seq ?_
  refine gc_region ?_
  refine ne (eo_field rfl f24_0 rfl) rfl ?_
  refine ne (eo_load 1 rfl s3 rfl rfl rfl rfl) rfl ?_
  refine ne (eo_field rfl f24_1 rfl) rfl ?_
  refine ne (eo_load 1 rfl s3 rfl rfl rfl rfl) rfl ?_
  refine ne (eo_mv rfl rfl) rfl ?_
  refine ne (eo_build rfl rfl (b24_012 _ _ _ _ _)) rfl ?_
  refine nu (xo_storeA 0 rfl a24 rfl rfl (ones_cons (by first | rfl | exact AS.one) (ones_cons (by first | rfl | exact AS.one) (ones_cons (by first | rfl | exact AS.one) ones_nil))) rfl rfl rfl rfl) ?_
  rintro _ _ ⟨rfl, rfl⟩
  refine go_nil ?_
  refine gq_next ?_
  refine gc_ret ?_
  refine gq_results (resC 0 rfl a24 rfl rfl rfl rfl) ?_
  exact fun W1 hO => ⟨_, _, rfl, ⟨gn7, cn7, sn7, rfl, rfl, hcn7⟩, hO.pick 2 rfl⟩

/-- barscan/regions.Smooth -/
theorem smooth_x (W H : Int) (A : Option Addr) (n c : Nat) (f : Nat → Bool) (gap : Int) (w : World) (hr : Rd w A (tab n (bv f))) (hnn : n ≤ 1073741824) :
    Calls Try.prog 13 #[.agg #[.int .i64 W, .int .i64 H, .slice A n c], .int .i64 gap] w (fun e w' => ∃ v Hn, e = .returned v ∧ RX (smR ⟨W, H, n, f⟩ gap) v Hn ∧ Ow [] w w' Hn) := by
  refine calls_enter (N := ⟨82, []⟩) [] ([]) Try.func13 rfl rfl rfl (Ow.start _) ?_
  refine gc_seq ?_
  refine gc_region ?_
  refine nx (xo_boxA rfl rfl) rfl ?_
  rintro _ _ ⟨g2, rfl, rfl⟩
  refine nx (xo_alloc rfl z24) rfl ?_
  rintro _ _ ⟨g4, rfl, rfl⟩
  refine ne (eo_as rfl rfl) rfl ?_
  refine go_nil ?_
  refine gq_next ?_
  refine gc_seq ?_
  refine gc_seq ?_
  refine gc_region ?_
  refine ne (eo_loadA 1 rfl a24 rfl rfl rfl rfl) rfl ?_
  refine ne (eo_call rfl en24 rfl (fun W1 hO => check_c _ _ _ _ _ W1  )) rfl ?_
  refine ne (eo_neq rfl rfl rfl) rfl ?_
  refine go_nil ?_
  refine gq_next ?_
  refine gc_cond rfl (fun hc0 => ?_) (fun hc0 => ?_)
  ·
    replace hc0 := of_decide_eq_true hc0
    have hv := chk_f hc0
    refine gc_seq ?_
    refine gc_region ?_
    refine ne (eo_build rfl rfl (b24_)) rfl ?_
    refine nu (xo_storeA 0 rfl a24 rfl rfl (ones_cons (by first | rfl | exact AS.one) (ones_cons (by first | rfl | exact AS.one) (ones_cons (by first | rfl | exact AS.one) ones_nil))) rfl rfl rfl rfl) ?_
    rintro _ _ ⟨rfl, rfl⟩
    refine ne (eo_as rfl rfl) rfl ?_
    refine go_nil ?_
    refine gq_next ?_
    refine gc_ret ?_
    refine gq_then_ret ?_
    refine gq_results (resCT 0 rfl a24 rfl rfl rfl rfl rfl) ?_
    exact fun W1 hO => rx_nil hO (smR_no hv)
  ·
    replace hc0 := of_decide_eq_false hc0
    have hv := chk_t hc0
    obtain ⟨v1, v2, v3, v4, v5, v6⟩ := vldB_iff.1 hv
    have v7 := vld_pos hv
    refine gc_skip ?_
    refine gq_next ?_
    refine gc_seq ?_
    refine gc_seq ?_
    refine gc_region ?_
    refine ne (eo_mv rfl rfl) rfl ?_
    refine ne (eo_lss rfl rfl rfl) rfl ?_
    refine ne (eo_mv rfl rfl) rfl ?_
    refine ng rfl rfl (fun h => eo_mv rfl rfl) rfl ?_
    refine ng rfl rfl (fun h => eo_gtr rfl (ev_if h rfl) rfl) rfl ?_
    refine ne (eo_or rfl rfl (fun hb => ev_if hb rfl)) rfl ?_
    refine go_nil ?_
    refine gq_next ?_
    refine gc_cond rfl (fun hc1 => ?_) (fun hc1 => ?_)
    ·
      have hd1 := (or_t hc1).imp (fun h => of_decide_eq_true h) (fun h => of_decide_eq_true h)
      refine gc_seq ?_
      refine gc_region ?_
      refine ne (eo_build rfl rfl (b24_)) rfl ?_
      refine nu (xo_storeA 0 rfl a24 rfl rfl (ones_cons (by first | rfl | exact AS.one) (ones_cons (by first | rfl | exact AS.one) (ones_cons (by first | rfl | exact AS.one) ones_nil))) rfl rfl rfl rfl) ?_
      rintro _ _ ⟨rfl, rfl⟩
      refine ne (eo_as rfl rfl) rfl ?_
      refine go_nil ?_
      refine gq_next ?_
      refine gc_ret ?_
      refine gq_then_ret ?_
      refine gq_results (resCT 0 rfl a24 rfl rfl rfl rfl rfl) ?_
      exact fun W1 hO => rx_nil hO (smR_range hv (by omega))
    ·
      have hd1 := (or_f hc1).imp (fun h => of_decide_eq_false h) (fun h => of_decide_eq_false h)
      refine gc_skip ?_
      refine gq_next ?_
      refine gc_seq ?_
      refine gc_draw_new (i := 8) (d := 6) [] [0, 1, 2, 3, 4, 5] [6, 7] [9] (by kernel_rfl) (by kernel_rfl) rfl z24 rfl ?_
      refine gp_nil ?_
      refine de rfl (eo_field rfl f24_0 rfl) rfl ?_
      refine de rfl (eo_load 1 rfl s3 rfl rfl rfl rfl) rfl ?_
      refine de rfl (eo_field rfl f24_1 rfl) rfl ?_
      refine de rfl (eo_load 1 rfl s3 rfl rfl rfl rfl) rfl ?_
      refine de rfl (eo_field rfl f24_2 rfl) rfl ?_
      refine de rfl (eo_load 1 rfl s22 rfl rfl rfl rfl) rfl ?_
      refine ge_nil ?_
      refine ⟨rfl, ?_⟩
      refine da rfl (xo_grabN (F := (bv f)) rfl Try.underlying22 e4.toN rfl rfl (fun W1 hO => (hr.old0 hO)) tab_oneb (by omega) (by omega) (by decide)) rfl ?_
      rintro _ _ ⟨gn30, cn30, sn30, rfl, rfl, hcn30⟩
      refine ⟨by first | exact (List.Sublist.cons _ (List.Sublist.refl _)) | exact (List.sublist_append_left _ _), ?_⟩
      refine da rfl (xo_of_eo (eo_build rfl rfl (b24_012 _ _ _ _ _))) rfl ?_
      rintro _ _ ⟨rfl, rfl⟩
      refine ⟨by first | exact (List.Sublist.cons _ (List.Sublist.refl _)) | exact (List.sublist_append_left _ _), ?_⟩
      refine ga_nil ?_
      intro g6
      refine iu rfl (xo_storeA 0 rfl a24 rfl rfl (ones_cons (by first | rfl | exact AS.one) (ones_cons (by first | rfl | exact AS.one) (ones_cons (by first | rfl | exact AS.one) ones_nil))) rfl rfl rfl rfl) ?_
      rintro _ _ ⟨rfl, rfl⟩
      refine gi_nil ?_
      refine gq_nq ?_
      refine gq_next ?_
      refine gc_seq ?_
      refine gc_seq ?_
      refine gc_region ?_
      refine ne (eo_field rfl f24_1 rfl) rfl ?_
      refine ne (eo_load 2 rfl s3 rfl rfl rfl rfl) rfl ?_
      refine ne (eo_mv rfl rfl) rfl ?_
      refine go_nil ?_
      refine gq_next ?_
      refine gc_block ?_
      refine loop2 (fun (y : Nat) (f1 : Nat → Bool) => (y : Int) ≤ H ∧ ∀ j, j < n → f1 j = smO f W gap (y : Int) 0 j) (fun (y : Nat) (f1 : Nat → Bool) => (H - y).toNat) (fun (y : Nat) (f1 : Nat → Bool) => [(1, .int .i64 gap), (2, .pointer (some ⟨g2, 0, none⟩)), (4, .pointer (some ⟨g4, 0, none⟩)), (6, .pointer (some ⟨g6, 0, none⟩)), (33, .int .i64 H), (34, .int .i64 (y : Int))]) (fun (y : Nat) (f1 : Nat → Bool) => [⟨g6, 24, [.int .i64 W, .int .i64 H, .slice (some ⟨gn30, 0, none⟩) n cn30]⟩, ⟨g4, 24, [.int .i64 0, .int .i64 0, .slice none 0 0]⟩, ⟨g2, 24, [.int .i64 W, .int .i64 H, .slice A n c]⟩, ⟨gn30, 4, tab n (bv f1) ++ sn30⟩]) 0 f ⟨by omega, fun j _ => (sm_new v1).symm⟩ ⟨rfl, rfl, rfl, rfl, rfl, rfl, trivial⟩ (List.Sublist.refl _) ?_
      rintro y f1 ⟨hy, hI⟩
      refine gc_seq ?_
      refine gc_region ?_
      refine ne (eo_lss rfl rfl rfl) rfl ?_
      refine go_nil ?_
      refine gq_next ?_
      refine gc_seq ?_
      refine gc_cond rfl (fun hc2 => ?_) (fun hc2 => ?_)
      ·
        replace hc2 := of_decide_eq_true hc2
        have hyb := idx_bd (W := W) (H := H) (x := 0) (y := (y : Int)) (by omega) (by omega) (by omega) (by omega)
        have ha : ((y : Int) + 1) * W = y * W + W := add1_mul
        refine gc_skip ?_
        refine gq_next ?_
        refine gc_seq ?_
        refine gc_block ?_
        refine gc_seq ?_
        refine gc_region ?_
        refine ne (eo_mv rfl rfl) rfl ?_
        refine ne (eo_as rfl rfl) rfl ?_
        refine go_nil ?_
        refine gq_next ?_
        refine gc_seq ?_
        refine gc_region ?_
        refine ne (eo_field rfl f24_2 rfl) rfl ?_
        refine ne (eo_load 0 rfl s22 rfl rfl rfl rfl) rfl ?_
        refine ne (eo_mv rfl rfl) rfl ?_
        refine ne (eo_field rfl f24_0 rfl) rfl ?_
        refine ne (eo_load 2 rfl s3 rfl rfl rfl rfl) rfl ?_
        refine ne (eo_mul rfl rfl rfl (by omega) (by omega)) rfl ?_
        refine ne (eo_mv rfl rfl) rfl ?_
        refine ne (eo_add rfl rfl rfl (by omega) (by omega)) rfl ?_
        refine ne (eo_field rfl f24_0 rfl) rfl ?_
        refine ne (eo_load 2 rfl s3 rfl rfl rfl rfl) rfl ?_
        refine ne (eo_mul rfl rfl rfl (by omega) (by omega)) rfl ?_
        refine ne (eo_sl0 rfl sl22 rfl rfl rfl (by omega) (by omega) (by omega) (by omega)) rfl ?_
        refine ne (eo_as rfl rfl) rfl ?_
        refine go_nil ?_
        refine gq_next ?_
        refine gc_seq ?_
        refine gc_region ?_
        refine ne (eo_as rfl rfl) rfl ?_
        refine go_nil ?_
        refine gq_next ?_
        refine gc_seq ?_
        refine gc_region ?_
        refine ne (eo_mv rfl rfl) rfl ?_
        refine ne (eo_len rfl Try.underlying22 rfl) rfl ?_
        refine ne (eo_mv rfl rfl) rfl ?_
        refine go_nil ?_
        refine gq_next ?_
        refine gc_block ?_
        refine loop3 (fun (x : Nat) (last : Int) (f1 : Nat → Bool) => (x : Int) ≤ W ∧ LastD f W (y : Int) (x : Int) last ∧ ∀ j, j < n → f1 j = smO f W gap (y : Int) (x : Int) j) (fun (x : Nat) (last : Int) (f1 : Nat → Bool) => (W - x).toNat) (fun (x : Nat) (last : Int) (f1 : Nat → Bool) => [(1, .int .i64 gap), (2, .pointer (some ⟨g2, 0, none⟩)), (4, .pointer (some ⟨g4, 0, none⟩)), (6, .pointer (some ⟨g6, 0, none⟩)), (8, .slice (some ⟨gn30, (((y : Int) * W)).toNat, none⟩) (((((y : Int) + 1) * W)).toNat - (((y : Int) * W)).toNat) (cn30 - (((y : Int) * W)).toNat)), (9, .int .i64 last), (33, .int .i64 H), (34, .int .i64 (y : Int)), (49, .slice (some ⟨gn30, (((y : Int) * W)).toNat, none⟩) (((((y : Int) + 1) * W)).toNat - (((y : Int) * W)).toNat) (cn30 - (((y : Int) * W)).toNat)), (50, .int .i64 (((((((y : Int) + 1) * W)).toNat - (((y : Int) * W)).toNat) : Nat) : Int)), (51, .int .i64 (x : Int))]) (fun (x : Nat) (last : Int) (f1 : Nat → Bool) => [⟨g6, 24, [.int .i64 W, .int .i64 H, .slice (some ⟨gn30, 0, none⟩) n cn30]⟩, ⟨g4, 24, [.int .i64 0, .int .i64 0, .slice none 0 0]⟩, ⟨g2, 24, [.int .i64 W, .int .i64 H, .slice A n c]⟩, ⟨gn30, 4, tab n (bv f1) ++ sn30⟩]) 0 (-1) f1 ⟨by omega, ld_new, hI⟩ ⟨rfl, rfl, rfl, rfl, rfl, rfl, rfl, rfl, rfl, rfl, rfl, trivial⟩ (List.Sublist.refl _) ?_
        rintro x last f1 ⟨hx, hl, hI⟩
        refine gc_seq ?_
        refine gc_region ?_
        refine ne (eo_lss rfl rfl rfl) rfl ?_
        refine go_nil ?_
        refine gq_next ?_
        refine gc_seq ?_
        refine gc_cond rfl (fun hc3 => ?_) (fun hc3 => ?_)
        ·
          replace hc3 := of_decide_eq_true hc3
          have hi1 := idx_bd (W := W) (H := H) (x := (x : Int)) (y := (y : Int)) (by omega) (by omega) (by omega) (by omega)
          have hlb := ld_bd hl
          refine gc_skip ?_
          refine gq_next ?_
          refine gc_seq ?_
          refine gc_block ?_
          refine gc_seq ?_
          refine gc_region ?_
          refine ne (eo_mv rfl rfl) rfl ?_
          refine ne (eo_index rfl sl22 rfl rfl (by omega) (by omega)) rfl ?_
          refine ne (eo_getb 3 rfl s4 rfl rfl (by omega)) rfl ?_
          refine ne (eo_as rfl rfl) rfl ?_
          refine ne (eo_as rfl rfl) rfl ?_
          refine go_nil ?_
          refine gq_next ?_
          refine gc_seq ?_
          refine gc_seq ?_
          refine gc_region ?_
          refine ne (eo_mv rfl rfl) rfl ?_
          refine ne (eo_not rfl rfl) rfl ?_
          refine go_nil ?_
          refine gq_next ?_
          refine gc_cond rfl (fun hc4 => ?_) (fun hc4 => ?_)
          ·
            have hd4 := (not_t hc4)
            have hpx : pxD W f (x : Int) (y : Int) = false := by
              have e1 := not_t hc4
              rw [hI _ (by omega), sm_at (y := (y : Int)) (x := (x : Int)) (by omega) (by omega) (by omega)] at e1
              unfold pxD
              rw [← e1]
              congr 1
              omega
            refine gc_exit ?_
            refine gq_then_exit ?_
            refine gq_block_hit ?_
            refine gq_next ?_
            refine gc_region ?_
            refine ne (eo_add rfl rfl rfl (by omega) (by omega)) rfl ?_
            refine ne (eo_mv rfl rfl) rfl ?_
            refine go_nil ?_
            exact round3 (x + 1) last f1 ⟨by omega, ld_light hl hpx, fun j hj => by show f1 j = smO f W gap (y : Int) ((x : Int) + 1) j; rw [hI j hj]; exact (sm_light hpx).symm⟩ (by omega) ⟨rfl, rfl, rfl, rfl, rfl, rfl, rfl, rfl, rfl, rfl, rfl, trivial⟩ (List.Sublist.refl _)
          ·
            have hd4 := (not_f hc4)
            have hpx : pxD W f (x : Int) (y : Int) = true := by
              have e1 := not_f hc4
              rw [hI _ (by omega), sm_at (y := (y : Int)) (x := (x : Int)) (by omega) (by omega) (by omega)] at e1
              unfold pxD
              rw [← e1]
              congr 1
              omega
            refine gc_skip ?_
            refine gq_next ?_
            refine gc_seq ?_
            refine gc_seq ?_
            refine gc_region ?_
            refine ne (eo_mv rfl rfl) rfl ?_
            refine ne (eo_geq rfl rfl rfl) rfl ?_
            refine ne (eo_mv rfl rfl) rfl ?_
            refine ng rfl rfl (fun h => eo_mv rfl rfl) rfl ?_
            refine ng rfl rfl (fun h => eo_mv rfl rfl) rfl ?_
            refine ng rfl rfl (fun h => eo_sub rfl (ev_if h rfl) (ev_if h rfl) (by have hg0 := of_decide_eq_true h; omega) (by have hg0 := of_decide_eq_true h; omega)) rfl ?_
            refine ng rfl rfl (fun h => eo_sub rfl (ev_if h rfl) rfl (by have hg0 := of_decide_eq_true h; omega) (by have hg0 := of_decide_eq_true h; omega)) rfl ?_
            refine ng rfl rfl (fun h => eo_mv rfl rfl) rfl ?_
            refine ng rfl rfl (fun h => eo_leq rfl (ev_if h rfl) (ev_if h rfl)) rfl ?_
            refine ne (eo_and rfl rfl (fun hb => ev_if hb rfl)) rfl ?_
            refine go_nil ?_
            refine gq_next ?_
            refine gc_cond rfl (fun hc5 => ?_) (fun hc5 => ?_)
            ·
              have hd5 := (and_t hc5).imp (fun h => of_decide_eq_true h) (fun h => of_decide_eq_true h)
              refine gc_seq ?_
              refine gc_region ?_
              refine ne (eo_mv rfl rfl) rfl ?_
              refine ne (eo_add rfl rfl rfl (by omega) (by omega)) rfl ?_
              refine ne (eo_as rfl rfl) rfl ?_
              refine go_nil ?_
              refine gq_next ?_
              refine gc_block ?_
              refine loop2 (fun (i : Int) (f1 : Nat → Bool) => last < i ∧ i ≤ (x : Int) ∧ ∀ j, j < n → f1 j = smI f W gap (y : Int) (x : Int) last i j) (fun (i : Int) (f1 : Nat → Bool) => ((x : Int) - i).toNat) (fun (i : Int) (f1 : Nat → Bool) => [(1, .int .i64 gap), (2, .pointer (some ⟨g2, 0, none⟩)), (4, .pointer (some ⟨g4, 0, none⟩)), (6, .pointer (some ⟨g6, 0, none⟩)), (8, .slice (some ⟨gn30, (((y : Int) * W)).toNat, none⟩) (((((y : Int) + 1) * W)).toNat - (((y : Int) * W)).toNat) (cn30 - (((y : Int) * W)).toNat)), (10, .int .i64 (x : Int)), (12, .int .i64 i), (33, .int .i64 H), (34, .int .i64 (y : Int)), (49, .slice (some ⟨gn30, (((y : Int) * W)).toNat, none⟩) (((((y : Int) + 1) * W)).toNat - (((y : Int) * W)).toNat) (cn30 - (((y : Int) * W)).toNat)), (50, .int .i64 (((((((y : Int) + 1) * W)).toNat - (((y : Int) * W)).toNat) : Nat) : Int)), (51, .int .i64 (x : Int))]) (fun (i : Int) (f1 : Nat → Bool) => [⟨g6, 24, [.int .i64 W, .int .i64 H, .slice (some ⟨gn30, 0, none⟩) n cn30]⟩, ⟨g4, 24, [.int .i64 0, .int .i64 0, .slice none 0 0]⟩, ⟨g2, 24, [.int .i64 W, .int .i64 H, .slice A n c]⟩, ⟨gn30, 4, tab n (bv f1) ++ sn30⟩]) (last + 1) f1 ⟨by omega, by omega, fun j hj => by rw [hI j hj]; exact (si_new rfl).symm⟩ ⟨rfl, rfl, rfl, rfl, rfl, rfl, rfl, rfl, rfl, rfl, rfl, rfl, trivial⟩ (List.Sublist.refl _) ?_
              rintro i f1 ⟨hi, hix, hI⟩
              refine gc_seq ?_
              refine gc_seq ?_
              refine gc_region ?_
              refine ne (eo_mv rfl rfl) rfl ?_
              refine ne (eo_mv rfl rfl) rfl ?_
              refine ne (eo_lss rfl rfl rfl) rfl ?_
              refine go_nil ?_
              refine gq_next ?_
              refine gc_cond rfl (fun hc6 => ?_) (fun hc6 => ?_)
              ·
                replace hc6 := of_decide_eq_true hc6
                refine gc_skip ?_
                refine gq_next ?_
                refine gc_seq ?_
                refine gc_block ?_
                refine gc_region ?_
                refine ne (eo_mv rfl rfl) rfl ?_
                refine ne (eo_mv rfl rfl) rfl ?_
                refine ne (eo_index rfl sl22 rfl rfl (by omega) (by omega)) rfl ?_
                refine nu (xo_setb 3 rfl s4 rfl rfl rfl (by omega)) ?_
                rintro _ _ ⟨rfl, rfl⟩
                refine go_nil ?_
                refine gq_block_end ?_
                refine gq_next ?_
                refine gc_region ?_
                refine ne (eo_mv rfl rfl) rfl ?_
                refine ne (eo_add rfl rfl rfl (by omega) (by omega)) rfl ?_
                refine ne (eo_as rfl rfl) rfl ?_
                refine go_nil ?_
                exact round2 (i + 1) (upd f1 ((((y : Int) * W)).toNat + (i).toNat) true) ⟨by omega, by omega, si_step (by omega) (by omega) (by omega) (by omega) hI⟩ (by omega) ⟨rfl, rfl, rfl, rfl, rfl, rfl, rfl, rfl, rfl, rfl, rfl, rfl, trivial⟩ (List.Sublist.refl _)
              ·
                replace hc6 := of_decide_eq_false hc6
                refine gc_exit ?_
                refine gq_then_exit ?_
                refine gq_then_exit ?_
                refine gq_block_hit ?_
                refine gq_next ?_
                refine gc_region ?_
                refine ne (eo_mv rfl rfl) rfl ?_
                refine ne (eo_as rfl rfl) rfl ?_
                refine go_nil ?_
                refine gq_block_end ?_
                refine gq_next ?_
                refine gc_region ?_
                refine ne (eo_add rfl rfl rfl (by omega) (by omega)) rfl ?_
                refine ne (eo_mv rfl rfl) rfl ?_
                refine go_nil ?_
                exact round3 (x + 1) (x : Int) f1 ⟨by omega, ld_dark (by omega) hpx, fun j hj => by show f1 j = smO f W gap (y : Int) ((x : Int) + 1) j; rw [hI j hj, show i = (x : Int) by omega]; exact (sm_fill (by omega) (by omega) hl hpx hd5.1 (by omega)).symm⟩ (by omega) ⟨rfl, rfl, rfl, rfl, rfl, rfl, rfl, rfl, rfl, rfl, rfl, trivial⟩ (List.Sublist.refl _)
            ·
              have hd5 := (and_f hc5).imp (fun h => of_decide_eq_false h) (fun h => of_decide_eq_false h)
              refine gc_skip ?_
              refine gq_next ?_
              refine gc_region ?_
              refine ne (eo_mv rfl rfl) rfl ?_
              refine ne (eo_as rfl rfl) rfl ?_
              refine go_nil ?_
              refine gq_block_end ?_
              refine gq_next ?_
              refine gc_region ?_
              refine ne (eo_add rfl rfl rfl (by omega) (by omega)) rfl ?_
              refine ne (eo_mv rfl rfl) rfl ?_
              refine go_nil ?_
              exact round3 (x + 1) (x : Int) f1 ⟨by omega, ld_dark (by omega) hpx, fun j hj => by show f1 j = smO f W gap (y : Int) ((x : Int) + 1) j; rw [hI j hj]; exact (sm_skip (by omega) hl (by omega)).symm⟩ (by omega) ⟨rfl, rfl, rfl, rfl, rfl, rfl, rfl, rfl, rfl, rfl, rfl, trivial⟩ (List.Sublist.refl _)
        ·
          replace hc3 := of_decide_eq_false hc3
          refine gc_exit ?_
          refine gq_then_exit ?_
          refine gq_then_exit ?_
          refine gq_block_hit ?_
          refine gq_block_end ?_
          refine gq_next ?_
          refine gc_region ?_
          refine ne (eo_add rfl rfl rfl (by omega) (by omega)) rfl ?_
          refine ne (eo_mv rfl rfl) rfl ?_
          refine go_nil ?_
          exact round2 (y + 1) f1 ⟨by omega, fun j hj => by show f1 j = smO f W gap ((y : Int) + 1) 0 j; rw [hI j hj, show (x : Int) = W by omega]; exact sm_row v1⟩ (by omega) ⟨rfl, rfl, rfl, rfl, rfl, rfl, trivial⟩ (List.Sublist.refl _)
      ·
        replace hc2 := of_decide_eq_false hc2
        refine gc_exit ?_
        refine gq_then_exit ?_
        refine gq_then_exit ?_
        refine gq_block_hit ?_
        refine gq_next ?_
        refine gc_seq ?_
        refine gc_region ?_
        refine ne (eo_loadA 0 rfl a24 rfl rfl rfl rfl) rfl ?_
        refine nu (xo_storeA 1 rfl a24 rfl rfl (ones_cons (by first | rfl | exact AS.one) (ones_cons (by first | rfl | exact AS.one) (ones_cons (by first | rfl | exact AS.one) ones_nil))) rfl rfl rfl rfl) ?_
        rintro _ _ ⟨rfl, rfl⟩
        refine ne (eo_as rfl rfl) rfl ?_
        refine go_nil ?_
        refine gq_next ?_
        refine gc_ret ?_
        refine gq_results (resCT 1 rfl a24 rfl rfl rfl rfl rfl) ?_
        exact fun W1 hO => rx_own 3 hO rfl (smR_ok hv ⟨by omega, by omega⟩) (fun j hj => by rw [hI j hj]; exact sm_end (by have := (cell_bd hv hj).2.2.2.1; omega)) (by omega)

/-- barscan/barscanref46.Smooth -/
theorem rsmooth_x (W H : Int) (A : Option Addr) (n c : Nat) (f : Nat → Bool) (gap : Int) (w : World) (hr : Rd w A (tab n (bv f))) (hnn : n ≤ 1073741824) :
    Calls Try.prog 15 #[.agg #[.int .i64 W, .int .i64 H, .slice A n c], .int .i64 gap] w (fun e w' => ∃ v Hn, e = .returned v ∧ RX (smR ⟨W, H, n, f⟩ gap) v Hn ∧ Ow [] w w' Hn) := by
  refine calls_enter (N := ⟨77, []⟩) [] ([]) Try.func15 rfl rfl rfl (Ow.start _) ?_
  refine gc_seq ?_
  refine gc_region ?_
  refine nx (xo_boxA rfl rfl) rfl ?_
  rintro _ _ ⟨g2, rfl, rfl⟩
  refine nx (xo_alloc rfl z24) rfl ?_
  rintro _ _ ⟨g4, rfl, rfl⟩
  refine ne (eo_as rfl rfl) rfl ?_
  refine go_nil ?_
  refine gq_next ?_
  refine gc_seq ?_
  refine gc_seq ?_
  refine gc_region ?_
  refine ne (eo_loadA 1 rfl a24 rfl rfl rfl rfl) rfl ?_
  refine ne (eo_call rfl en9 rfl (fun W1 hO => sound20_c _ _ _ _ _ _ W1 (hr.old0 hO) )) rfl ?_
  refine ne (eo_not rfl rfl) rfl ?_
  refine go_nil ?_
  refine gq_next ?_
  refine gc_cond rfl (fun hc0 => ?_) (fun hc0 => ?_)
  ·
    have hd0 := (not_t hc0)
    have hv := not_t hc0
    have hv := not_t hc0
    refine gc_seq ?_
    refine gc_region ?_
    refine ne (eo_build rfl rfl (b24_)) rfl ?_
    refine nu (xo_storeA 0 rfl a24 rfl rfl (ones_cons (by first | rfl | exact AS.one) (ones_cons (by first | rfl | exact AS.one) (ones_cons (by first | rfl | exact AS.one) ones_nil))) rfl rfl rfl rfl) ?_
    rintro _ _ ⟨rfl, rfl⟩
    refine ne (eo_as rfl rfl) rfl ?_
    refine go_nil ?_
    refine gq_next ?_
    refine gc_ret ?_
    refine gq_then_ret ?_
    refine gq_results (resCT 0 rfl a24 rfl rfl rfl rfl rfl) ?_
    exact fun W1 hO => rx_nil hO (smR_no hv)
  ·
    have hd0 := (not_f hc0)
    have hv := not_f hc0
    obtain ⟨v1, v2, v3, v4, v5, v6⟩ := vldB_iff.1 hv
    have v7 := vld_pos hv
    have hv := not_f hc0
    obtain ⟨v1, v2, v3, v4, v5, v6⟩ := vldB_iff.1 hv
    have v7 := vld_pos hv
    refine gc_skip ?_
    refine gq_next ?_
    refine gc_seq ?_
    refine gc_seq ?_
    refine gc_region ?_
    refine ne (eo_mv rfl rfl) rfl ?_
    refine ne (eo_lss rfl rfl rfl) rfl ?_
    refine ne (eo_mv rfl rfl) rfl ?_
    refine ng rfl rfl (fun h => eo_mv rfl rfl) rfl ?_
    refine ng rfl rfl (fun h => eo_gtr rfl (ev_if h rfl) rfl) rfl ?_
    refine ne (eo_or rfl rfl (fun hb => ev_if hb rfl)) rfl ?_
    refine go_nil ?_
    refine gq_next ?_
    refine gc_cond rfl (fun hc1 => ?_) (fun hc1 => ?_)
    ·
      have hd1 := (or_t hc1).imp (fun h => of_decide_eq_true h) (fun h => of_decide_eq_true h)
      refine gc_seq ?_
      refine gc_region ?_
      refine ne (eo_build rfl rfl (b24_)) rfl ?_
      refine nu (xo_storeA 0 rfl a24 rfl rfl (ones_cons (by first | rfl | exact AS.one) (ones_cons (by first | rfl | exact AS.one) (ones_cons (by first | rfl | exact AS.one) ones_nil))) rfl rfl rfl rfl) ?_
      rintro _ _ ⟨rfl, rfl⟩
      refine ne (eo_as rfl rfl) rfl ?_
      refine go_nil ?_
      refine gq_next ?_
      refine gc_ret ?_
      refine gq_then_ret ?_
      refine gq_results (resCT 0 rfl a24 rfl rfl rfl rfl rfl) ?_
      exact fun W1 hO => rx_nil hO (smR_range hv (by omega))
    ·
      have hd1 := (or_f hc1).imp (fun h => of_decide_eq_false h) (fun h => of_decide_eq_false h)
      refine gc_skip ?_
      refine gq_next ?_
      refine gc_seq ?_
      refine gc_region ?_
      refine ne (eo_loadA 1 rfl a24 rfl rfl rfl rfl) rfl ?_
      refine nx (xo_fresh rfl en32 rfl (fun W1 hO => copy20_x _ _ _ _ _ _ W1 (hr.old0 hO) (by omega) (by omega))) rfl ?_
      rintro _ _ ⟨_, ⟨gk23, ck23, sk23, rfl, rfl, hck23⟩, rfl⟩
      refine nx (xo_alloc rfl z24) rfl ?_
      rintro _ _ ⟨g6, rfl, rfl⟩
      refine nu (xo_storeA 0 rfl a24 rfl rfl (ones_cons (by first | rfl | exact AS.one) (ones_cons (by first | rfl | exact AS.one) (ones_cons (by first | rfl | exact AS.one) ones_nil))) rfl rfl rfl rfl) ?_
      rintro _ _ ⟨rfl, rfl⟩
      refine go_nil ?_
      refine gq_next ?_
      refine gc_seq ?_
      refine gc_seq ?_
      refine gc_region ?_
      refine ne (eo_as rfl rfl) rfl ?_
      refine go_nil ?_
      refine gq_next ?_
      refine gc_block ?_
      refine loop2 (fun (y : Nat) (f1 : Nat → Bool) => (y : Int) ≤ H ∧ ∀ j, j < n → f1 j = smO f W gap (y : Int) 0 j) (fun (y : Nat) (f1 : Nat → Bool) => (H - y).toNat) (fun (y : Nat) (f1 : Nat → Bool) => [(1, .int .i64 gap), (2, .pointer (some ⟨g2, 0, none⟩)), (4, .pointer (some ⟨g4, 0, none⟩)), (6, .pointer (some ⟨g6, 0, none⟩)), (7, .int .i64 (y : Int))]) (fun (y : Nat) (f1 : Nat → Bool) => [⟨g6, 24, [.int .i64 W, .int .i64 H, .slice (some ⟨gk23, 0, none⟩) n ck23]⟩, ⟨gk23, 4, tab n (bv f1) ++ sk23⟩, ⟨g4, 24, [.int .i64 0, .int .i64 0, .slice none 0 0]⟩, ⟨g2, 24, [.int .i64 W, .int .i64 H, .slice A n c]⟩]) 0 f ⟨by omega, fun j _ => (sm_new v1).symm⟩ ⟨rfl, rfl, rfl, rfl, rfl, trivial⟩ (List.Sublist.refl _) ?_
      rintro y f1 ⟨hy, hI⟩
      refine gc_seq ?_
      refine gc_seq ?_
      refine gc_region ?_
      refine ne (eo_mv rfl rfl) rfl ?_
      refine ne (eo_field rfl f24_1 rfl) rfl ?_
      refine ne (eo_load 3 rfl s3 rfl rfl rfl rfl) rfl ?_
      refine ne (eo_lss rfl rfl rfl) rfl ?_
      refine go_nil ?_
      refine gq_next ?_
      refine gc_cond rfl (fun hc2 => ?_) (fun hc2 => ?_)
      ·
        replace hc2 := of_decide_eq_true hc2
        have hyb := idx_bd (W := W) (H := H) (x := 0) (y := (y : Int)) (by omega) (by omega) (by omega) (by omega)
        have ha : ((y : Int) + 1) * W = y * W + W := add1_mul
        refine gc_skip ?_
        refine gq_next ?_
        refine gc_seq ?_
        refine gc_block ?_
        refine gc_seq ?_
        refine gc_region ?_
        refine ne (eo_as rfl rfl) rfl ?_
        refine go_nil ?_
        refine gq_next ?_
        refine gc_seq ?_
        refine gc_region ?_
        refine ne (eo_as rfl rfl) rfl ?_
        refine go_nil ?_
        refine gq_next ?_
        refine gc_block ?_
        refine loop3 (fun (x : Nat) (last : Int) (f1 : Nat → Bool) => (x : Int) ≤ W ∧ LastD f W (y : Int) (x : Int) last ∧ ∀ j, j < n → f1 j = smO f W gap (y : Int) (x : Int) j) (fun (x : Nat) (last : Int) (f1 : Nat → Bool) => (W - x).toNat) (fun (x : Nat) (last : Int) (f1 : Nat → Bool) => [(1, .int .i64 gap), (2, .pointer (some ⟨g2, 0, none⟩)), (4, .pointer (some ⟨g4, 0, none⟩)), (6, .pointer (some ⟨g6, 0, none⟩)), (7, .int .i64 (y : Int)), (8, .int .i64 last), (9, .int .i64 (x : Int))]) (fun (x : Nat) (last : Int) (f1 : Nat → Bool) => [⟨g6, 24, [.int .i64 W, .int .i64 H, .slice (some ⟨gk23, 0, none⟩) n ck23]⟩, ⟨gk23, 4, tab n (bv f1) ++ sk23⟩, ⟨g4, 24, [.int .i64 0, .int .i64 0, .slice none 0 0]⟩, ⟨g2, 24, [.int .i64 W, .int .i64 H, .slice A n c]⟩]) 0 (-1) f1 ⟨by omega, ld_new, hI⟩ ⟨rfl, rfl, rfl, rfl, rfl, rfl, rfl, trivial⟩ (List.Sublist.refl _) ?_
        rintro x last f1 ⟨hx, hl, hI⟩
        refine gc_seq ?_
        refine gc_seq ?_
        refine gc_region ?_
        refine ne (eo_mv rfl rfl) rfl ?_
        refine ne (eo_field rfl f24_0 rfl) rfl ?_
        refine ne (eo_load 3 rfl s3 rfl rfl rfl rfl) rfl ?_
        refine ne (eo_lss rfl rfl rfl) rfl ?_
        refine go_nil ?_
        refine gq_next ?_
        refine gc_cond rfl (fun hc3 => ?_) (fun hc3 => ?_)
        ·
          replace hc3 := of_decide_eq_true hc3
          have hi1 := idx_bd (W := W) (H := H) (x := (x : Int)) (y := (y : Int)) (by omega) (by omega) (by omega) (by omega)
          have hlb := ld_bd hl
          refine gc_skip ?_
          refine gq_next ?_
          refine gc_seq ?_
          refine gc_block ?_
          refine gc_seq ?_
          refine gc_seq ?_
          refine gc_region ?_
          refine ne (eo_field rfl f24_2 rfl) rfl ?_
          refine ne (eo_load 3 rfl s22 rfl rfl rfl rfl) rfl ?_
          refine ne (eo_mv rfl rfl) rfl ?_
          refine ne (eo_field rfl f24_0 rfl) rfl ?_
          refine ne (eo_load 3 rfl s3 rfl rfl rfl rfl) rfl ?_
          refine ne (eo_mul rfl rfl rfl (by omega) (by omega)) rfl ?_
          refine ne (eo_mv rfl rfl) rfl ?_
          refine ne (eo_add rfl rfl rfl (by omega) (by omega)) rfl ?_
          refine ne (eo_indexR rfl sl22 rfl rfl hr (by simp) (by omega) (by omega)) rfl ?_
          refine ne (eo_load_old rfl s4 rfl (Rd.tabb hr (by omega)) (by simp)) rfl ?_
          refine ne (eo_not rfl rfl) rfl ?_
          refine go_nil ?_
          refine gq_next ?_
          refine gc_cond rfl (fun hc4 => ?_) (fun hc4 => ?_)
          ·
            have hd4 := (not_t hc4)
            have hpx : pxD W f (x : Int) (y : Int) = false := not_t hc4
            refine gc_exit ?_
            refine gq_then_exit ?_
            refine gq_block_hit ?_
            refine gq_next ?_
            refine gc_region ?_
            refine ne (eo_mv rfl rfl) rfl ?_
            refine ne (eo_add rfl rfl rfl (by omega) (by omega)) rfl ?_
            refine ne (eo_as rfl rfl) rfl ?_
            refine go_nil ?_
            exact round3 (x + 1) last f1 ⟨by omega, ld_light hl hpx, fun j hj => by show f1 j = smO f W gap (y : Int) ((x : Int) + 1) j; rw [hI j hj]; exact (sm_light hpx).symm⟩ (by omega) ⟨rfl, rfl, rfl, rfl, rfl, rfl, rfl, trivial⟩ (List.Sublist.refl _)
          ·
            have hd4 := (not_f hc4)
            have hpx : pxD W f (x : Int) (y : Int) = true := not_f hc4
            refine gc_skip ?_
            refine gq_next ?_
            refine gc_seq ?_
            refine gc_seq ?_
            refine gc_region ?_
            refine ne (eo_mv rfl rfl) rfl ?_
            refine ne (eo_add rfl rfl rfl (by omega) (by omega)) rfl ?_
            refine ne (eo_as rfl rfl) rfl ?_
            refine go_nil ?_
            refine gq_next ?_
            refine gc_block ?_
            refine loop2 (fun (i : Int) (f1 : Nat → Bool) => last < i ∧ i ≤ (x : Int) ∧ ((0 ≤ last ∧ (x : Int) - last - 1 ≤ gap) ∨ i = last + 1) ∧ ∀ j, j < n → f1 j = smI f W gap (y : Int) (x : Int) last i j) (fun (i : Int) (f1 : Nat → Bool) => ((x : Int) - i).toNat) (fun (i : Int) (f1 : Nat → Bool) => [(1, .int .i64 gap), (2, .pointer (some ⟨g2, 0, none⟩)), (4, .pointer (some ⟨g4, 0, none⟩)), (6, .pointer (some ⟨g6, 0, none⟩)), (7, .int .i64 (y : Int)), (8, .int .i64 last), (9, .int .i64 (x : Int)), (10, .int .i64 i)]) (fun (i : Int) (f1 : Nat → Bool) => [⟨g6, 24, [.int .i64 W, .int .i64 H, .slice (some ⟨gk23, 0, none⟩) n ck23]⟩, ⟨gk23, 4, tab n (bv f1) ++ sk23⟩, ⟨g4, 24, [.int .i64 0, .int .i64 0, .slice none 0 0]⟩, ⟨g2, 24, [.int .i64 W, .int .i64 H, .slice A n c]⟩]) (last + 1) f1 ⟨by omega, by omega, .inr rfl, fun j hj => by rw [hI j hj]; exact (si_new rfl).symm⟩ ⟨rfl, rfl, rfl, rfl, rfl, rfl, rfl, rfl, trivial⟩ (List.Sublist.refl _) ?_
            rintro i f1 ⟨hi, hix, hcs, hI⟩
            refine gc_seq ?_
            refine gc_seq ?_
            refine gc_region ?_
            refine ne (eo_mv rfl rfl) rfl ?_
            refine ne (eo_geq rfl rfl rfl) rfl ?_
            refine ne (eo_mv rfl rfl) rfl ?_
            refine ng rfl rfl (fun h => eo_mv rfl rfl) rfl ?_
            refine ng rfl rfl (fun h => eo_mv rfl rfl) rfl ?_
            refine ng rfl rfl (fun h => eo_sub rfl (ev_if h rfl) (ev_if h rfl) (by have hg0 := of_decide_eq_true h; omega) (by have hg0 := of_decide_eq_true h; omega)) rfl ?_
            refine ng rfl rfl (fun h => eo_sub rfl (ev_if h rfl) rfl (by have hg0 := of_decide_eq_true h; omega) (by have hg0 := of_decide_eq_true h; omega)) rfl ?_
            refine ng rfl rfl (fun h => eo_mv rfl rfl) rfl ?_
            refine ng rfl rfl (fun h => eo_leq rfl (ev_if h rfl) (ev_if h rfl)) rfl ?_
            refine ne (eo_and rfl rfl (fun hb => ev_if hb rfl)) rfl ?_
            refine ne (eo_mv rfl rfl) rfl ?_
            refine ng rfl rfl (fun h => eo_mv rfl rfl) rfl ?_
            refine ng rfl rfl (fun h => eo_mv rfl rfl) rfl ?_
            refine ng rfl rfl (fun h => eo_lss rfl (ev_if h rfl) (ev_if h rfl)) rfl ?_
            refine ne (eo_and rfl rfl (fun hb => ev_if hb rfl)) rfl ?_
            refine go_nil ?_
            refine gq_next ?_
            refine gc_cond rfl (fun hc5 => ?_) (fun hc5 => ?_)
            ·
              have hd5 := (and_t hc5).imp (fun h => (and_t h).imp (fun h => of_decide_eq_true h) (fun h => of_decide_eq_true h)) (fun h => of_decide_eq_true h)
              have hi2 := idx_bd (W := W) (H := H) (x := i) (y := (y : Int)) (by omega) (by omega) (by omega) (by omega)
              refine gc_skip ?_
              refine gq_next ?_
              refine gc_seq ?_
              refine gc_block ?_
              refine gc_region ?_
              refine ne (eo_field rfl f24_2 rfl) rfl ?_
              refine ne (eo_load 0 rfl s22 rfl rfl rfl rfl) rfl ?_
              refine ne (eo_mv rfl rfl) rfl ?_
              refine ne (eo_field rfl f24_0 rfl) rfl ?_
              refine ne (eo_load 3 rfl s3 rfl rfl rfl rfl) rfl ?_
              refine ne (eo_mul rfl rfl rfl (by omega) (by omega)) rfl ?_
              refine ne (eo_mv rfl rfl) rfl ?_
              refine ne (eo_add rfl rfl rfl (by omega) (by omega)) rfl ?_
              refine ne (eo_index0 rfl sl22 rfl rfl (by omega) (by omega)) rfl ?_
              refine nu (xo_setb 1 rfl s4 rfl rfl rfl (by omega)) ?_
              rintro _ _ ⟨rfl, rfl⟩
              refine go_nil ?_
              refine gq_block_end ?_
              refine gq_next ?_
              refine gc_region ?_
              refine ne (eo_mv rfl rfl) rfl ?_
              refine ne (eo_add rfl rfl rfl (by omega) (by omega)) rfl ?_
              refine ne (eo_as rfl rfl) rfl ?_
              refine go_nil ?_
              exact round2 (i + 1) (upd f1 (((((y : Int) * W) + i)).toNat) true) ⟨by omega, by omega, by omega, si_step (by omega) (by omega) (by omega) (by omega) hI⟩ (by omega) ⟨rfl, rfl, rfl, rfl, rfl, rfl, rfl, rfl, trivial⟩ (List.Sublist.refl _)
            ·
              have hd5 := (and_f hc5).imp (fun h => (and_f h).imp (fun h => of_decide_eq_false h) (fun h => of_decide_eq_false h)) (fun h => of_decide_eq_false h)
              refine gc_exit ?_
              refine gq_then_exit ?_
              refine gq_then_exit ?_
              refine gq_block_hit ?_
              refine gq_next ?_
              refine gc_region ?_
              refine ne (eo_mv rfl rfl) rfl ?_
              refine ne (eo_as rfl rfl) rfl ?_
              refine go_nil ?_
              refine gq_block_end ?_
              refine gq_next ?_
              refine gc_region ?_
              refine ne (eo_mv rfl rfl) rfl ?_
              refine ne (eo_add rfl rfl rfl (by omega) (by omega)) rfl ?_
              refine ne (eo_as rfl rfl) rfl ?_
              refine go_nil ?_
              exact round3 (x + 1) (x : Int) f1 ⟨by omega, ld_dark (by omega) hpx, fun j hj => by
                show f1 j = smO f W gap (y : Int) ((x : Int) + 1) j
                rw [hI j hj]
                by_cases c : 0 ≤ last ∧ (x : Int) - last - 1 ≤ gap
                · rw [show i = (x : Int) by omega]
                  exact (sm_fill (by omega) (by omega) hl hpx c.1 c.2).symm
                · rw [show i = last + 1 by omega, si_new rfl]
                  exact (sm_skip (by omega) hl c).symm⟩ (by omega) ⟨rfl, rfl, rfl, rfl, rfl, rfl, rfl, trivial⟩ (List.Sublist.refl _)
        ·
          replace hc3 := of_decide_eq_false hc3
          refine gc_exit ?_
          refine gq_then_exit ?_
          refine gq_then_exit ?_
          refine gq_block_hit ?_
          refine gq_block_end ?_
          refine gq_next ?_
          refine gc_region ?_
          refine ne (eo_mv rfl rfl) rfl ?_
          refine ne (eo_add rfl rfl rfl (by omega) (by omega)) rfl ?_
          refine ne (eo_as rfl rfl) rfl ?_
          refine go_nil ?_
          exact round2 (y + 1) f1 ⟨by omega, fun j hj => by show f1 j = smO f W gap ((y : Int) + 1) 0 j; rw [hI j hj, show (x : Int) = W by omega]; exact sm_row v1⟩ (by omega) ⟨rfl, rfl, rfl, rfl, rfl, trivial⟩ (List.Sublist.refl _)
      ·
        replace hc2 := of_decide_eq_false hc2
        refine gc_exit ?_
        refine gq_then_exit ?_
        refine gq_then_exit ?_
        refine gq_block_hit ?_
        refine gq_next ?_
        refine gc_seq ?_
        refine gc_region ?_
        refine ne (eo_loadA 0 rfl a24 rfl rfl rfl rfl) rfl ?_
        refine nu (xo_storeA 2 rfl a24 rfl rfl (ones_cons (by first | rfl | exact AS.one) (ones_cons (by first | rfl | exact AS.one) (ones_cons (by first | rfl | exact AS.one) ones_nil))) rfl rfl rfl rfl) ?_
        rintro _ _ ⟨rfl, rfl⟩
        refine ne (eo_as rfl rfl) rfl ?_
        refine go_nil ?_
        refine gq_next ?_
        refine gc_ret ?_
        refine gq_results (resCT 2 rfl a24 rfl rfl rfl rfl rfl) ?_
        exact fun W1 hO => rx_own 1 hO rfl (smR_ok hv ⟨by omega, by omega⟩) (fun j hj => by rw [hI j hj]; exact sm_end (by have := (cell_bd hv hj).2.2.2.1; omega)) (by omega)

end Go.Proofs.Ytnmiljloifbjeaa
