/-
  The walks of the functions of package skew and of the document's answer (part C): what each call returns, at every argument.
-/
import Derived.Test.YtmgkpdpmjhgekaaWB
namespace Go.Proofs.Ytmgkpdpmjhgekaa
open Go.RowKit Go.Eng

open Go.Bs
theorem en31 : Ent Try.prog 31 := ent_of Try.func31 (by kernel_rfl) rfl
theorem en32 : Ent Try.prog 32 := ent_of Try.func32 (by kernel_rfl) rfl
theorem en33 : Ent Try.prog 33 := ent_of Try.func33 (by kernel_rfl) rfl
theorem en34 : Ent Try.prog 34 := ent_of Try.func34 (by kernel_rfl) rfl
theorem en24 : Ent Try.prog 24 := ent_of Try.func24 (by kernel_rfl) rfl
theorem en35 : Ent Try.prog 35 := ent_of Try.func35 (by kernel_rfl) rfl

/-- barscan/skew.Shear -/
theorem shear_x (W H : Int) (A : Option Addr) (n c : Nat) (f : Nat → Bool) (num : Int) (den : Int) (w : World) (hr : Rd w A (tab n (bv f)))  :
    Calls Try.prog 14 #[.agg #[.int .i64 W, .int .i64 H, .slice A n c], .int .i64 num, .int .i64 den] w (fun e w' => ∃ v Hn, e = .returned v ∧ RX (shearR ⟨W, H, n, f⟩ num den) v Hn ∧ Ow [] w w' Hn) := by
  refine calls_enter (N := ⟨86, []⟩) [] ([]) Try.func14 rfl rfl rfl (Ow.start _) ?_
  refine gc_seq ?_
  refine gc_region ?_
  refine nx (xo_boxA rfl rfl) rfl ?_
  rintro _ _ ⟨g3, rfl, rfl⟩
  refine nx (xo_alloc rfl z24) rfl ?_
  rintro _ _ ⟨g6, rfl, rfl⟩
  refine ne (eo_as rfl rfl) rfl ?_
  refine go_nil ?_
  refine gq_next ?_
  refine gc_seq ?_
  refine gc_seq ?_
  refine gc_region ?_
  refine ne (eo_loadA 1 rfl a24 rfl rfl rfl rfl) rfl ?_
  refine ne (eo_call rfl en30 rfl (fun W1 hO => check_c _ _ _ _ _ W1  )) rfl ?_
  refine ne (eo_neq rfl rfl rfl) rfl ?_
  refine go_nil ?_
  refine gq_next ?_
  refine gc_cond rfl (fun hc0 => ?_) (fun hc0 => ?_)
  ·
    replace hc0 := of_decide_eq_true hc0
    have hv := chk_f hc0
    refine gc_seq ?_
    refine gc_region ?_
    refine ne (eo_build rfl rfl (b24_)) rfl ?_
    refine nu (xo_storeA 0 rfl a24 rfl rfl (ones_cons (by first | rfl | exact AS.one) (ones_cons (by first | rfl | exact AS.one) (ones_cons (by first | rfl | exact AS.one) ones_nil))) rfl rfl rfl rfl) ?_
    rintro _ _ ⟨rfl, rfl⟩
    refine ne (eo_as rfl rfl) rfl ?_
    refine go_nil ?_
    refine gq_next ?_
    refine gc_ret ?_
    refine gq_then_ret ?_
    refine gq_results (resCT 0 rfl a24 rfl rfl rfl rfl rfl) ?_
    exact fun W1 hO => rx_nil hO (shearR_no hv)
  ·
    replace hc0 := of_decide_eq_false hc0
    have hv := chk_t hc0
    obtain ⟨v1, v2, v3, v4, v5, v6⟩ := vldB_iff.1 hv
    have v7 := vld_pos hv
    refine gc_skip ?_
    refine gq_next ?_
    refine gc_seq ?_
    refine gc_seq ?_
    refine gc_region ?_
    refine ne (eo_mv rfl rfl) rfl ?_
    refine ne (eo_mv rfl rfl) rfl ?_
    refine ne (eo_call rfl en31 rfl (fun W1 hO => slope_c _ _ W1  )) rfl ?_
    refine ne (eo_not rfl rfl) rfl ?_
    refine go_nil ?_
    refine gq_next ?_
    refine gc_cond rfl (fun hc1 => ?_) (fun hc1 => ?_)
    ·
      have hd1 := (not_t hc1)
      refine gc_seq ?_
      refine gc_region ?_
      refine ne (eo_build rfl rfl (b24_)) rfl ?_
      refine nu (xo_storeA 0 rfl a24 rfl rfl (ones_cons (by first | rfl | exact AS.one) (ones_cons (by first | rfl | exact AS.one) (ones_cons (by first | rfl | exact AS.one) ones_nil))) rfl rfl rfl rfl) ?_
      rintro _ _ ⟨rfl, rfl⟩
      refine ne (eo_as rfl rfl) rfl ?_
      refine go_nil ?_
      refine gq_next ?_
      refine gc_ret ?_
      refine gq_then_ret ?_
      refine gq_results (resCT 0 rfl a24 rfl rfl rfl rfl rfl) ?_
      exact fun W1 hO => rx_nil hO (shearR_range hv (not_t hc1))
    ·
      have hd1 := (not_f hc1)
      obtain ⟨d1, d2, d3, d4⟩ := slopeB_iff.1 (not_f hc1)
      have hs := not_f hc1
      have hmx0 := shI_bd (W := W) (num := num) (den := den) (x := 0) d1 (by omega) (by omega) (by omega) d3 d4
      have hmx1 := shI_bd (W := W) (num := num) (den := den) (x := W - 1) d1 (by omega) (by omega) (by omega) d3 d4
      have hmx : 0 ≤ shMax W num den ∧ shMax W num den ≤ 33554432 := by unfold shMax; omega
      have hmax := sh_max (W := W) (num := num) (den := den) d1 v1
      refine gc_skip ?_
      refine gq_next ?_
      refine gc_seq ?_
      refine gc_region ?_
      refine ne (eo_field rfl f24_0 rfl) rfl ?_
      refine ne (eo_load 1 rfl s3 rfl rfl rfl rfl) rfl ?_
      refine ne (eo_mv rfl rfl) rfl ?_
      refine ne (eo_mv rfl rfl) rfl ?_
      refine nx (xo_fresh rfl en32 rfl (fun W1 hO => shifts_c _ _ _ W1 (by omega) (by omega) (by assumption))) rfl ?_
      rintro _ _ ⟨_, ⟨gh28, ch28, sh28, rfl, rfl, hch28⟩, rfl⟩
      refine ne (eo_as rfl rfl) rfl ?_
      refine go_nil ?_
      refine gq_next ?_
      refine gc_seq ?_
      refine gc_draw [] [0, 1, 2, 3, 4, 5] [] [] (by kernel_rfl) (by kernel_rfl) ?_
      refine gp_nil ?_
      refine de rfl (eo_field rfl f24_1 rfl) rfl ?_
      refine de rfl (eo_load 2 rfl s3 rfl rfl rfl rfl) rfl ?_
      refine de rfl (eo_mv rfl rfl) rfl ?_
      refine de rfl (eo_call rfl en33 rfl (fun W1 hO => smax_c _ _ _ _ W1 (tabs_rd hO 0 rfl) (by omega) (by omega))) rfl ?_
      refine de rfl (eo_add rfl rfl rfl (by first | omega | (have hm2 := mul_rng (W := W) (h := H + shMax W num den) (by omega) (by omega) (by omega) (by omega); rw [← hmax] at hm2; omega)) (by first | omega | (have hm2 := mul_rng (W := W) (h := H + shMax W num den) (by omega) (by omega) (by omega) (by omega); rw [← hmax] at hm2; omega))) rfl ?_
      refine de rfl (eo_as rfl rfl) rfl ?_
      refine ge_nil ?_
      refine ga_nil ?_
      refine gi_nil ?_
      refine gq_nq ?_
      refine gq_next ?_
      refine gc_seq ?_
      refine gc_seq ?_
      refine gc_region ?_
      refine ne (eo_mv rfl rfl) rfl ?_
      refine ne (eo_gtr rfl rfl rfl) rfl ?_
      refine ne (eo_mv rfl rfl) rfl ?_
      refine ng rfl rfl (fun h => eo_field rfl f24_0 rfl) rfl ?_
      refine ng rfl rfl (fun h => eo_load 2 rfl s3 (ev_if h rfl) rfl rfl rfl) rfl ?_
      refine ng rfl rfl (fun h => eo_mv rfl rfl) rfl ?_
      refine ng rfl rfl (fun h => eo_mul rfl (ev_if h rfl) (ev_if h rfl) (by have hg0 := of_decide_eq_false h; first | omega | (have hm2 := mul_rng (W := W) (h := H + shMax W num den) (by omega) (by omega) (by omega) (by omega); rw [← hmax] at hm2; omega)) (by have hg0 := of_decide_eq_false h; first | omega | (have hm2 := mul_rng (W := W) (h := H + shMax W num den) (by omega) (by omega) (by omega) (by omega); rw [← hmax] at hm2; omega))) rfl ?_
      refine ng rfl rfl (fun h => eo_gtr rfl (ev_if h rfl) rfl) rfl ?_
      refine ne (eo_or rfl rfl (fun hb => ev_if hb rfl)) rfl ?_
      refine go_nil ?_
      refine gq_next ?_
      refine gc_cond rfl (fun hc2 => ?_) (fun hc2 => ?_)
      ·
        have hd2 := (or_t hc2).imp (fun h => of_decide_eq_true h) (fun h => of_decide_eq_true h)
        rw [hmax] at hd2
        have hf : fitsB W (H + shMax W num den) = false := by
          cases hq : fitsB W (H + shMax W num den) with
          | false => rfl
          | true => have := fitsB_iff.1 hq; exfalso; omega
        refine gc_seq ?_
        refine gc_region ?_
        refine ne (eo_build rfl rfl (b24_)) rfl ?_
        refine nu (xo_storeA 1 rfl a24 rfl rfl (ones_cons (by first | rfl | exact AS.one) (ones_cons (by first | rfl | exact AS.one) (ones_cons (by first | rfl | exact AS.one) ones_nil))) rfl rfl rfl rfl) ?_
        rintro _ _ ⟨rfl, rfl⟩
        refine ne (eo_as rfl rfl) rfl ?_
        refine go_nil ?_
        refine gq_next ?_
        refine gc_ret ?_
        refine gq_then_ret ?_
        refine gq_results (resCT 1 rfl a24 rfl rfl rfl rfl rfl) ?_
        exact fun W1 hO => rx_nil hO (shearR_long hv hs hf)
      ·
        have hd2 := (or_f hc2).imp (fun h => of_decide_eq_false h) (fun h => of_decide_eq_false h)
        rw [hmax]
        rw [hmax] at hd2
        have hf : fitsB W (H + shMax W num den) = true := fitsB_iff.2 (by omega)
        have hfb := fits_bd hf
        refine gc_skip ?_
        refine gq_next ?_
        refine gc_seq ?_
        refine gc_draw_new (i := 9) (d := 10) [] [0, 1, 2, 3, 4, 5, 6] [7, 8] [10] (by kernel_rfl) (by kernel_rfl) rfl z24 rfl ?_
        refine gp_nil ?_
        refine de rfl (eo_field rfl f24_0 rfl) rfl ?_
        refine de rfl (eo_load 2 rfl s3 rfl rfl rfl rfl) rfl ?_
        refine de rfl (eo_mv rfl rfl) rfl ?_
        refine de rfl (eo_field rfl f24_0 rfl) rfl ?_
        refine de rfl (eo_load 2 rfl s3 rfl rfl rfl rfl) rfl ?_
        refine de rfl (eo_mv rfl rfl) rfl ?_
        refine de rfl (eo_mul rfl rfl rfl (by first | omega | (have hm2 := mul_rng (W := W) (h := H + shMax W num den) (by omega) (by omega) (by omega) (by omega); rw [← hmax] at hm2; omega)) (by first | omega | (have hm2 := mul_rng (W := W) (h := H + shMax W num den) (by omega) (by omega) (by omega) (by omega); rw [← hmax] at hm2; omega))) rfl ?_
        refine ge_nil ?_
        refine ⟨rfl, ?_⟩
        refine da rfl (xo_makeb rfl Try.underlying22 e4 rfl rfl (by first | omega | (have hm2 := mul_rng (W := W) (h := H + shMax W num den) (by omega) (by omega) (by omega) (by omega); rw [← hmax] at hm2; omega)) (by first | omega | (have hm2 := mul_rng (W := W) (h := H + shMax W num den) (by omega) (by omega) (by omega) (by omega); rw [← hmax] at hm2; omega)) (by first | omega | (have hm2 := mul_rng (W := W) (h := H + shMax W num den) (by omega) (by omega) (by omega) (by omega); rw [← hmax] at hm2; omega))) rfl ?_
        rintro _ _ ⟨g51, rfl, rfl⟩
        refine ⟨by first | exact (List.Sublist.cons _ (List.Sublist.refl _)) | exact (List.sublist_append_left _ _), ?_⟩
        refine da rfl (xo_of_eo (eo_build rfl rfl (b24_012 _ _ _ _ _))) rfl ?_
        rintro _ _ ⟨rfl, rfl⟩
        refine ⟨by first | exact (List.Sublist.cons _ (List.Sublist.refl _)) | exact (List.sublist_append_left _ _), ?_⟩
        refine ga_nil ?_
        intro g10
        refine iu rfl (xo_storeA 0 rfl a24 rfl rfl (ones_cons (by first | rfl | exact AS.one) (ones_cons (by first | rfl | exact AS.one) (ones_cons (by first | rfl | exact AS.one) ones_nil))) rfl rfl rfl rfl) ?_
        rintro _ _ ⟨rfl, rfl⟩
        refine gi_nil ?_
        refine gq_nq ?_
        refine gq_next ?_
        refine gc_seq ?_
        refine gc_seq ?_
        refine gc_region ?_
        refine ne (eo_field rfl f24_2 rfl) rfl ?_
        refine ne (eo_load 4 rfl s22 rfl rfl rfl rfl) rfl ?_
        refine ne (eo_len rfl Try.underlying22 rfl) rfl ?_
        refine ne (eo_mv rfl rfl) rfl ?_
        refine go_nil ?_
        refine gq_next ?_
        refine gc_block ?_
        refine loop2 (fun (i : Nat) (f1 : Nat → Bool) => i ≤ n ∧ ∀ j, j < (W * (H + shMax W num den)).toNat → f1 j = shP W num den f i j) (fun (i : Nat) (f1 : Nat → Bool) => n - i) (fun (i : Nat) (f1 : Nat → Bool) => [(3, .pointer (some ⟨g3, 0, none⟩)), (6, .pointer (some ⟨g6, 0, none⟩)), (8, .slice (some ⟨gh28, 0, none⟩) W.toNat ch28), (10, .pointer (some ⟨g10, 0, none⟩)), (54, .slice A n c), (55, .int .i64 ((n : Nat) : Int)), (56, .int .i64 (i : Int))]) (fun (i : Nat) (f1 : Nat → Bool) => [⟨g10, 24, [.int .i64 W, .int .i64 (H + (shMax W num den)), .slice (some ⟨g51, 0, none⟩) (((W * (H + (shMax W num den)))).toNat) (((W * (H + (shMax W num den)))).toNat)]⟩, ⟨g51, 4, tab (((W * (H + (shMax W num den)))).toNat) (bv f1) ++ []⟩, ⟨gh28, 3, tab W.toNat (iv .i64 (fun x : Nat => shI W num den (x : Int))) ++ sh28⟩, ⟨g6, 24, [.int .i64 0, .int .i64 0, .slice none 0 0]⟩, ⟨g3, 24, [.int .i64 W, .int .i64 H, .slice A n c]⟩]) 0 (fun _ => false) ⟨by omega, fun j _ => shp_new j⟩ ⟨rfl, rfl, rfl, rfl, rfl, rfl, rfl, trivial⟩ (List.Sublist.refl _) ?_
        rintro i f1 ⟨hi, hI⟩
        refine gc_seq ?_
        refine gc_region ?_
        refine ne (eo_lss rfl rfl rfl) rfl ?_
        refine go_nil ?_
        refine gq_next ?_
        refine gc_seq ?_
        refine gc_cond rfl (fun hc3 => ?_) (fun hc3 => ?_)
        ·
          replace hc3 := of_decide_eq_true hc3
          have hcb := cell_bd hv (show i < n by omega)
          have hmod : ((((i : Int) % W).toNat : Nat) : Int) = (i : Int) % W := by omega
          have hkey : shI W num den ((((i : Int) % W).toNat : Nat) : Int) = shI W num den ((i : Int) % W) := by rw [hmod]
          have hsb := shI_bd (W := W) (num := num) (den := den) (x := (i : Int) % W) d1 (by omega) (by omega) (by omega) d3 d4
          have hle := shI_le (W := W) (num := num) (den := den) (x := (i : Int) % W) d1 (by omega) (by omega)
          have hid := idx_bd (W := W) (H := H + shMax W num den) (x := (i : Int) % W) (y := (i : Int) / W + shI W num den ((((i : Int) % W).toNat : Nat) : Int)) (by omega) (by omega) (by omega) (by omega)
          refine gc_skip ?_
          refine gq_next ?_
          refine gc_seq ?_
          refine gc_block ?_
          refine gc_seq ?_
          refine gc_region ?_
          refine ne (eo_mv rfl rfl) rfl ?_
          refine ne (eo_indexR rfl sl22 rfl rfl hr (by simp) (by first | omega | (have hm2 := mul_rng (W := W) (h := H + shMax W num den) (by omega) (by omega) (by omega) (by omega); rw [← hmax] at hm2; omega)) (by first | omega | (have hm2 := mul_rng (W := W) (h := H + shMax W num den) (by omega) (by omega) (by omega) (by omega); rw [← hmax] at hm2; omega))) rfl ?_
          refine ne (eo_load_old rfl s4 rfl (Rd.tabb hr (by first | omega | (have hm2 := mul_rng (W := W) (h := H + shMax W num den) (by omega) (by omega) (by omega) (by omega); rw [← hmax] at hm2; omega))) (by simp)) rfl ?_
          refine ne (eo_as rfl rfl) rfl ?_
          refine ne (eo_as rfl rfl) rfl ?_
          refine go_nil ?_
          refine gq_next ?_
          refine gc_seq ?_
          refine gc_region ?_
          refine ne (eo_mv rfl rfl) rfl ?_
          refine go_nil ?_
          refine gq_next ?_
          refine gc_cond rfl (fun hc4 => ?_) (fun hc4 => ?_)
          ·
            refine gc_seq ?_
            refine gc_draw [] [0, 1, 2, 3, 4, 5, 6, 7, 8, 9] [] [] (by kernel_rfl) (by kernel_rfl) ?_
            refine gp_nil ?_
            refine de rfl (eo_mv rfl rfl) rfl ?_
            refine de rfl (eo_field rfl f24_0 rfl) rfl ?_
            refine de rfl (eo_load 4 rfl s3 rfl rfl rfl rfl) rfl ?_
            refine de rfl (eo_rem rfl rfl rfl (by first | omega | (have hm2 := mul_rng (W := W) (h := H + shMax W num den) (by omega) (by omega) (by omega) (by omega); rw [← hmax] at hm2; omega)) (by first | omega | (have hm2 := mul_rng (W := W) (h := H + shMax W num den) (by omega) (by omega) (by omega) (by omega); rw [← hmax] at hm2; omega))) rfl ?_
            refine de rfl (eo_mv rfl rfl) rfl ?_
            refine de rfl (eo_field rfl f24_0 rfl) rfl ?_
            refine de rfl (eo_load 4 rfl s3 rfl rfl rfl rfl) rfl ?_
            refine de rfl (eo_quo rfl rfl rfl (by first | omega | (have hm2 := mul_rng (W := W) (h := H + shMax W num den) (by omega) (by omega) (by omega) (by omega); rw [← hmax] at hm2; omega)) (by first | omega | (have hm2 := mul_rng (W := W) (h := H + shMax W num den) (by omega) (by omega) (by omega) (by omega); rw [← hmax] at hm2; omega)) (by first | omega | (have hm2 := mul_rng (W := W) (h := H + shMax W num den) (by omega) (by omega) (by omega) (by omega); rw [← hmax] at hm2; omega))) rfl ?_
            refine de rfl (eo_as rfl rfl) rfl ?_
            refine de rfl (eo_as rfl rfl) rfl ?_
            refine ge_nil ?_
            refine ga_nil ?_
            refine gi_nil ?_
            refine gq_nq ?_
            refine gq_next ?_
            refine gc_draw [] [0, 1, 2, 3, 4, 5, 6, 7, 8, 9, 10, 11, 12, 13] [] [14] (by kernel_rfl) (by kernel_rfl) ?_
            refine gp_nil ?_
            refine de rfl (eo_field rfl f24_2 rfl) rfl ?_
            refine de rfl (eo_load 0 rfl s22 rfl rfl rfl rfl) rfl ?_
            refine de rfl (eo_mv rfl rfl) rfl ?_
            refine de rfl (eo_mv rfl rfl) rfl ?_
            refine de rfl (eo_mv rfl rfl) rfl ?_
            refine de rfl (eo_index0 rfl sl44 rfl rfl (by first | omega | (have hm2 := mul_rng (W := W) (h := H + shMax W num den) (by omega) (by omega) (by omega) (by omega); rw [← hmax] at hm2; omega)) (by first | omega | (have hm2 := mul_rng (W := W) (h := H + shMax W num den) (by omega) (by omega) (by omega) (by omega); rw [← hmax] at hm2; omega))) rfl ?_
            refine de rfl (eo_geti 2 rfl s3 rfl rfl (by first | omega | (have hm2 := mul_rng (W := W) (h := H + shMax W num den) (by omega) (by omega) (by omega) (by omega); rw [← hmax] at hm2; omega))) rfl ?_
            refine de rfl (eo_add rfl rfl rfl (by first | omega | (have hm2 := mul_rng (W := W) (h := H + shMax W num den) (by omega) (by omega) (by omega) (by omega); rw [← hmax] at hm2; omega)) (by first | omega | (have hm2 := mul_rng (W := W) (h := H + shMax W num den) (by omega) (by omega) (by omega) (by omega); rw [← hmax] at hm2; omega))) rfl ?_
            refine de rfl (eo_field rfl f24_0 rfl) rfl ?_
            refine de rfl (eo_load 4 rfl s3 rfl rfl rfl rfl) rfl ?_
            refine de rfl (eo_mul rfl rfl rfl (by first | omega | (have hm2 := mul_rng (W := W) (h := H + shMax W num den) (by omega) (by omega) (by omega) (by omega); rw [← hmax] at hm2; omega)) (by first | omega | (have hm2 := mul_rng (W := W) (h := H + shMax W num den) (by omega) (by omega) (by omega) (by omega); rw [← hmax] at hm2; omega))) rfl ?_
            refine de rfl (eo_mv rfl rfl) rfl ?_
            refine de rfl (eo_add rfl rfl rfl (by first | omega | (have hm2 := mul_rng (W := W) (h := H + shMax W num den) (by omega) (by omega) (by omega) (by omega); rw [← hmax] at hm2; omega)) (by first | omega | (have hm2 := mul_rng (W := W) (h := H + shMax W num den) (by omega) (by omega) (by omega) (by omega); rw [← hmax] at hm2; omega))) rfl ?_
            refine de rfl (eo_index0 rfl sl22 rfl rfl (by first | omega | (have hm2 := mul_rng (W := W) (h := H + shMax W num den) (by omega) (by omega) (by omega) (by omega); rw [← hmax] at hm2; omega)) (by first | omega | (have hm2 := mul_rng (W := W) (h := H + shMax W num den) (by omega) (by omega) (by omega) (by omega); rw [← hmax] at hm2; omega))) rfl ?_
            refine ge_nil ?_
            refine ga_nil ?_
            refine iu rfl (xo_setb 1 rfl s4 rfl rfl rfl (by first | omega | (have hm2 := mul_rng (W := W) (h := H + shMax W num den) (by omega) (by omega) (by omega) (by omega); rw [← hmax] at hm2; omega))) ?_
            rintro _ _ ⟨rfl, rfl⟩
            refine gi_nil ?_
            refine gq_nq ?_
            refine gq_block_end ?_
            refine gq_next ?_
            refine gc_region ?_
            refine ne (eo_add rfl rfl rfl (by first | omega | (have hm2 := mul_rng (W := W) (h := H + shMax W num den) (by omega) (by omega) (by omega) (by omega); rw [← hmax] at hm2; omega)) (by first | omega | (have hm2 := mul_rng (W := W) (h := H + shMax W num den) (by omega) (by omega) (by omega) (by omega); rw [← hmax] at hm2; omega))) rfl ?_
            refine ne (eo_mv rfl rfl) rfl ?_
            refine go_nil ?_
            exact round2 (i + 1) (upd f1 (((((((i : Int) / W) + ((fun x : Nat => shI W num den (x : Int)) ((((i : Int) % W)).toNat))) * W) + ((i : Int) % W))).toNat) true) ⟨by omega, shp_step (i := i) hv (by omega) hc4 (by unfold keyI; rw [← hkey]; exact Int.toNat_of_nonneg (a := ((i : Int) / W + shI W num den ((((i : Int) % W).toNat : Nat) : Int)) * W + (i : Int) % W) (by omega)) hI⟩ (by omega) ⟨rfl, rfl, rfl, rfl, rfl, rfl, rfl, trivial⟩ (List.Sublist.refl _)
          ·
            refine gc_skip ?_
            refine gq_block_end ?_
            refine gq_next ?_
            refine gc_region ?_
            refine ne (eo_add rfl rfl rfl (by first | omega | (have hm2 := mul_rng (W := W) (h := H + shMax W num den) (by omega) (by omega) (by omega) (by omega); rw [← hmax] at hm2; omega)) (by first | omega | (have hm2 := mul_rng (W := W) (h := H + shMax W num den) (by omega) (by omega) (by omega) (by omega); rw [← hmax] at hm2; omega))) rfl ?_
            refine ne (eo_mv rfl rfl) rfl ?_
            refine go_nil ?_
            exact round2 (i + 1) f1 ⟨by omega, shp_skip (i := i) hc4 hI⟩ (by omega) ⟨rfl, rfl, rfl, rfl, rfl, rfl, rfl, trivial⟩ (List.Sublist.refl _)
        ·
          replace hc3 := of_decide_eq_false hc3
          refine gc_exit ?_
          refine gq_then_exit ?_
          refine gq_then_exit ?_
          refine gq_block_hit ?_
          refine gq_next ?_
          refine gc_seq ?_
          refine gc_region ?_
          refine ne (eo_loadA 0 rfl a24 rfl rfl rfl rfl) rfl ?_
          refine nu (xo_storeA 3 rfl a24 rfl rfl (ones_cons (by first | rfl | exact AS.one) (ones_cons (by first | rfl | exact AS.one) (ones_cons (by first | rfl | exact AS.one) ones_nil))) rfl rfl rfl rfl) ?_
          rintro _ _ ⟨rfl, rfl⟩
          refine ne (eo_as rfl rfl) rfl ?_
          refine go_nil ?_
          refine gq_next ?_
          refine gc_ret ?_
          refine gq_results (resCT 3 rfl a24 rfl rfl rfl rfl rfl) ?_
          exact fun W1 hO => rx_own 1 hO rfl (shearR_ok hv hs hf) (fun j hj => by rw [hI j hj, show i = n by omega]) (by omega)

/-- barscan/barscanref45.Shear -/
theorem rshear_a (W H : Int) (A : Option Addr) (n c : Nat) (f : Nat → Bool) (num : Int) (den : Int) (w : World) (hr : Rd w A (tab n (bv f))) (hf : fitsB W (H + shMax W num den) = true) :
    Calls Try.prog 15 #[.agg #[.int .i64 W, .int .i64 H, .slice A n c], .int .i64 num, .int .i64 den] w (fun e w' => ∃ v Hn, e = .returned v ∧ RX (shearR ⟨W, H, n, f⟩ num den) v Hn ∧ Ow [] w w' Hn) := by
  have hfb := fits_bd hf
  obtain ⟨f1, f2, f3, f4, f5⟩ := fitsB_iff.1 hf
  refine calls_enter (N := ⟨87, []⟩) [] ([]) Try.func15 rfl rfl rfl (Ow.start _) ?_
  refine gc_seq ?_
  refine gc_region ?_
  refine nx (xo_boxA rfl rfl) rfl ?_
  rintro _ _ ⟨g3, rfl, rfl⟩
  refine nx (xo_alloc rfl z24) rfl ?_
  rintro _ _ ⟨g6, rfl, rfl⟩
  refine ne (eo_as rfl rfl) rfl ?_
  refine go_nil ?_
  refine gq_next ?_
  refine gc_seq ?_
  refine gc_seq ?_
  refine gc_region ?_
  refine ne (eo_loadA 1 rfl a24 rfl rfl rfl rfl) rfl ?_
  refine ne (eo_call rfl en25 rfl (fun W1 hO => rcheck_c _ _ _ _ _ W1  )) rfl ?_
  refine ne (eo_neq rfl rfl rfl) rfl ?_
  refine go_nil ?_
  refine gq_next ?_
  refine gc_cond rfl (fun hc0 => ?_) (fun hc0 => ?_)
  ·
    replace hc0 := of_decide_eq_true hc0
    have hv := chk_f hc0
    refine gc_seq ?_
    refine gc_region ?_
    refine ne (eo_build rfl rfl (b24_)) rfl ?_
    refine nu (xo_storeA 0 rfl a24 rfl rfl (ones_cons (by first | rfl | exact AS.one) (ones_cons (by first | rfl | exact AS.one) (ones_cons (by first | rfl | exact AS.one) ones_nil))) rfl rfl rfl rfl) ?_
    rintro _ _ ⟨rfl, rfl⟩
    refine ne (eo_as rfl rfl) rfl ?_
    refine go_nil ?_
    refine gq_next ?_
    refine gc_ret ?_
    refine gq_then_ret ?_
    refine gq_results (resCT 0 rfl a24 rfl rfl rfl rfl rfl) ?_
    exact fun W1 hO => rx_nil hO (shearR_no hv)
  ·
    replace hc0 := of_decide_eq_false hc0
    have hv := chk_t hc0
    obtain ⟨v1, v2, v3, v4, v5, v6⟩ := vldB_iff.1 hv
    have v7 := vld_pos hv
    refine gc_skip ?_
    refine gq_next ?_
    refine gc_seq ?_
    refine gc_seq ?_
    refine gc_region ?_
    refine ne (eo_mv rfl rfl) rfl ?_
    refine ne (eo_mv rfl rfl) rfl ?_
    refine ne (eo_call rfl en34 rfl (fun W1 hO => rslope_c _ _ W1  )) rfl ?_
    refine ne (eo_not rfl rfl) rfl ?_
    refine go_nil ?_
    refine gq_next ?_
    refine gc_cond rfl (fun hc1 => ?_) (fun hc1 => ?_)
    ·
      have hd1 := (not_t hc1)
      refine gc_seq ?_
      refine gc_region ?_
      refine ne (eo_build rfl rfl (b24_)) rfl ?_
      refine nu (xo_storeA 0 rfl a24 rfl rfl (ones_cons (by first | rfl | exact AS.one) (ones_cons (by first | rfl | exact AS.one) (ones_cons (by first | rfl | exact AS.one) ones_nil))) rfl rfl rfl rfl) ?_
      rintro _ _ ⟨rfl, rfl⟩
      refine ne (eo_as rfl rfl) rfl ?_
      refine go_nil ?_
      refine gq_next ?_
      refine gc_ret ?_
      refine gq_then_ret ?_
      refine gq_results (resCT 0 rfl a24 rfl rfl rfl rfl rfl) ?_
      exact fun W1 hO => rx_nil hO (shearR_range hv (not_t hc1))
    ·
      have hd1 := (not_f hc1)
      obtain ⟨d1, d2, d3, d4⟩ := slopeB_iff.1 (not_f hc1)
      have hs := not_f hc1
      have hmx0 := shI_bd (W := W) (num := num) (den := den) (x := 0) d1 (by omega) (by omega) (by omega) d3 d4
      have hmx1 := shI_bd (W := W) (num := num) (den := den) (x := W - 1) d1 (by omega) (by omega) (by omega) d3 d4
      have hmx : 0 ≤ shMax W num den ∧ shMax W num den ≤ 33554432 := by unfold shMax; omega
      have hmax := sh_max (W := W) (num := num) (den := den) d1 v1
      refine gc_skip ?_
      refine gq_next ?_
      refine gc_seq ?_
      refine gc_draw [] [0, 1, 2, 3, 4, 5, 6, 7, 8, 9, 10, 11, 12, 13, 14] [] [] (by kernel_rfl) (by kernel_rfl) ?_
      refine gp_nil ?_
      refine de rfl (eo_field rfl f24_0 rfl) rfl ?_
      refine de rfl (eo_load 1 rfl s3 rfl rfl rfl rfl) rfl ?_
      refine de rfl (eo_mv rfl rfl) rfl ?_
      refine de rfl (eo_mv rfl rfl) rfl ?_
      refine de rfl (eo_call rfl en24 rfl (fun W1 hO => shift_c _ _ _ _ W1  (by omega) (by omega) (by omega) (by omega) (by omega) (by omega) (by omega))) rfl ?_
      refine de rfl (eo_field rfl f24_0 rfl) rfl ?_
      refine de rfl (eo_load 1 rfl s3 rfl rfl rfl rfl) rfl ?_
      refine de rfl (eo_sub rfl rfl rfl (by omega) (by omega)) rfl ?_
      refine de rfl (eo_field rfl f24_0 rfl) rfl ?_
      refine de rfl (eo_load 1 rfl s3 rfl rfl rfl rfl) rfl ?_
      refine de rfl (eo_mv rfl rfl) rfl ?_
      refine de rfl (eo_mv rfl rfl) rfl ?_
      refine de rfl (eo_call rfl en24 rfl (fun W1 hO => shift_c _ _ _ _ W1  (by omega) (by omega) (by omega) (by omega) (by omega) (by omega) (by omega))) rfl ?_
      refine de rfl (eo_max rfl rfl rfl) rfl ?_
      refine de rfl (eo_as rfl rfl) rfl ?_
      refine ge_nil ?_
      refine ga_nil ?_
      refine gi_nil ?_
      refine gq_nq ?_
      refine gq_next ?_
      refine gc_seq ?_
      refine gc_region ?_
      refine ne (eo_field rfl f24_0 rfl) rfl ?_
      refine ne (eo_load 1 rfl s3 rfl rfl rfl rfl) rfl ?_
      refine ne (eo_field rfl f24_1 rfl) rfl ?_
      refine ne (eo_load 1 rfl s3 rfl rfl rfl rfl) rfl ?_
      refine ne (eo_mv rfl rfl) rfl ?_
      refine ne (eo_add rfl rfl rfl (by omega) (by omega)) rfl ?_
      refine nx (xo_fresh rfl en35 rfl (fun W1 hO => rnew_ok _ _ W1 hf)) rfl ?_
      rintro _ _ ⟨_, ⟨gw44, cw44, sw44, rfl, rfl, hcw44⟩, rfl⟩
      refine ne (eo_mv rfl rfl) rfl ?_
      refine ne (eo_extract rfl rfl rfl) rfl ?_
      refine ne (eo_extract rfl rfl rfl) rfl ?_
      refine nx (xo_alloc rfl z24) rfl ?_
      rintro _ _ ⟨g9, rfl, rfl⟩
      refine nu (xo_storeA 0 rfl a24 rfl rfl (ones_cons (by first | rfl | exact AS.one) (ones_cons (by first | rfl | exact AS.one) (ones_cons (by first | rfl | exact AS.one) ones_nil))) rfl rfl rfl rfl) ?_
      rintro _ _ ⟨rfl, rfl⟩
      refine ne (eo_as rfl rfl) rfl ?_
      refine go_nil ?_
      refine gq_next ?_
      refine gc_seq ?_
      refine gc_seq ?_
      refine gc_region ?_
      refine ne (eo_mv rfl rfl) rfl ?_
      refine ne (eo_neq rfl rfl rfl) rfl ?_
      refine go_nil ?_
      refine gq_next ?_
      refine gc_cond rfl (fun hc2 => ?_) (fun hc2 => ?_)
      ·
        replace hc2 := of_decide_eq_true hc2
        exact absurd rfl hc2
      ·
        replace hc2 := of_decide_eq_false hc2
        rw [show max (shI W num den 0) (shI W num den (W - 1)) = (shMax W num den) from rfl] at hcw44 ⊢
        refine gc_skip ?_
        refine gq_next ?_
        refine gc_seq ?_
        refine gc_seq ?_
        refine gc_region ?_
        refine ne (eo_as rfl rfl) rfl ?_
        refine go_nil ?_
        refine gq_next ?_
        refine gc_block ?_
        refine loop2 (fun (i : Nat) (f1 : Nat → Bool) => i ≤ n ∧ ∀ j, j < (W * (H + shMax W num den)).toNat → f1 j = shP W num den f i j) (fun (i : Nat) (f1 : Nat → Bool) => n - i) (fun (i : Nat) (f1 : Nat → Bool) => [(1, .int .i64 num), (2, .int .i64 den), (3, .pointer (some ⟨g3, 0, none⟩)), (6, .pointer (some ⟨g6, 0, none⟩)), (9, .pointer (some ⟨g9, 0, none⟩)), (11, .int .i64 (i : Int))]) (fun (i : Nat) (f1 : Nat → Bool) => [⟨g9, 24, [.int .i64 W, .int .i64 (H + (shMax W num den)), .slice (some ⟨gw44, 0, none⟩) ((W * (H + (shMax W num den))).toNat) cw44]⟩, ⟨gw44, 4, tab ((W * (H + (shMax W num den))).toNat) (bv f1) ++ sw44⟩, ⟨g6, 24, [.int .i64 0, .int .i64 0, .slice none 0 0]⟩, ⟨g3, 24, [.int .i64 W, .int .i64 H, .slice A n c]⟩]) 0 (fun _ => false) ⟨by omega, fun j _ => shp_new j⟩ ⟨rfl, rfl, rfl, rfl, rfl, rfl, trivial⟩ (List.Sublist.refl _) ?_
        rintro i f1 ⟨hi, hI⟩
        refine gc_seq ?_
        refine gc_seq ?_
        refine gc_region ?_
        refine ne (eo_mv rfl rfl) rfl ?_
        refine ne (eo_field rfl f24_2 rfl) rfl ?_
        refine ne (eo_load 3 rfl s22 rfl rfl rfl rfl) rfl ?_
        refine ne (eo_len rfl Try.underlying22 rfl) rfl ?_
        refine ne (eo_lss rfl rfl rfl) rfl ?_
        refine go_nil ?_
        refine gq_next ?_
        refine gc_cond rfl (fun hc3 => ?_) (fun hc3 => ?_)
        ·
          replace hc3 := of_decide_eq_true hc3
          have hcb := cell_bd hv (show i < n by omega)
          have hmod : ((((i : Int) % W).toNat : Nat) : Int) = (i : Int) % W := by omega
          have hkey : shI W num den ((((i : Int) % W).toNat : Nat) : Int) = shI W num den ((i : Int) % W) := by rw [hmod]
          have hsb := shI_bd (W := W) (num := num) (den := den) (x := (i : Int) % W) d1 (by omega) (by omega) (by omega) d3 d4
          have hle := shI_le (W := W) (num := num) (den := den) (x := (i : Int) % W) d1 (by omega) (by omega)
          have hid := idx_bd (W := W) (H := H + shMax W num den) (x := (i : Int) % W) (y := (i : Int) / W + shI W num den ((i : Int) % W)) (by omega) (by omega) (by omega) (by omega)
          refine gc_skip ?_
          refine gq_next ?_
          refine gc_seq ?_
          refine gc_block ?_
          refine gc_seq ?_
          refine gc_region ?_
          refine ne (eo_field rfl f24_2 rfl) rfl ?_
          refine ne (eo_load 3 rfl s22 rfl rfl rfl rfl) rfl ?_
          refine ne (eo_mv rfl rfl) rfl ?_
          refine ne (eo_indexR rfl sl22 rfl rfl hr (by simp) (by omega) (by omega)) rfl ?_
          refine ne (eo_load_old rfl s4 rfl (Rd.tabb hr (by omega)) (by simp)) rfl ?_
          refine go_nil ?_
          refine gq_next ?_
          refine gc_cond rfl (fun hc4 => ?_) (fun hc4 => ?_)
          ·
            refine gc_seq ?_
            refine gc_draw [] [0, 1, 2, 3, 4, 5, 6, 7, 8, 9] [] [] (by kernel_rfl) (by kernel_rfl) ?_
            refine gp_nil ?_
            refine de rfl (eo_mv rfl rfl) rfl ?_
            refine de rfl (eo_field rfl f24_0 rfl) rfl ?_
            refine de rfl (eo_load 3 rfl s3 rfl rfl rfl rfl) rfl ?_
            refine de rfl (eo_rem rfl rfl rfl (by omega) (by omega)) rfl ?_
            refine de rfl (eo_mv rfl rfl) rfl ?_
            refine de rfl (eo_field rfl f24_0 rfl) rfl ?_
            refine de rfl (eo_load 3 rfl s3 rfl rfl rfl rfl) rfl ?_
            refine de rfl (eo_quo rfl rfl rfl (by omega) (by omega) (by omega)) rfl ?_
            refine de rfl (eo_as rfl rfl) rfl ?_
            refine de rfl (eo_as rfl rfl) rfl ?_
            refine ge_nil ?_
            refine ga_nil ?_
            refine gi_nil ?_
            refine gq_nq ?_
            refine gq_next ?_
            refine gc_draw [] [0, 1, 2, 3, 4, 5, 6, 7, 8, 9, 10, 11, 12, 13, 14, 15] [] [16] (by kernel_rfl) (by kernel_rfl) ?_
            refine gp_nil ?_
            refine de rfl (eo_field rfl f24_2 rfl) rfl ?_
            refine de rfl (eo_load 0 rfl s22 rfl rfl rfl rfl) rfl ?_
            refine de rfl (eo_mv rfl rfl) rfl ?_
            refine de rfl (eo_mv rfl rfl) rfl ?_
            refine de rfl (eo_field rfl f24_0 rfl) rfl ?_
            refine de rfl (eo_load 3 rfl s3 rfl rfl rfl rfl) rfl ?_
            refine de rfl (eo_mv rfl rfl) rfl ?_
            refine de rfl (eo_mv rfl rfl) rfl ?_
            refine de rfl (eo_call rfl en24 rfl (fun W1 hO => shift_c _ _ _ _ W1  (by omega) (by omega) (by omega) (by omega) (by omega) (by omega) (by omega))) rfl ?_
            refine de rfl (eo_add rfl rfl rfl (by omega) (by omega)) rfl ?_
            refine de rfl (eo_field rfl f24_0 rfl) rfl ?_
            refine de rfl (eo_load 3 rfl s3 rfl rfl rfl rfl) rfl ?_
            refine de rfl (eo_mul rfl rfl rfl (by omega) (by omega)) rfl ?_
            refine de rfl (eo_mv rfl rfl) rfl ?_
            refine de rfl (eo_add rfl rfl rfl (by omega) (by omega)) rfl ?_
            refine de rfl (eo_index0 rfl sl22 rfl rfl (by omega) (by omega)) rfl ?_
            refine ge_nil ?_
            refine ga_nil ?_
            refine iu rfl (xo_setb 1 rfl s4 rfl rfl rfl (by omega)) ?_
            rintro _ _ ⟨rfl, rfl⟩
            refine gi_nil ?_
            refine gq_nq ?_
            refine gq_block_end ?_
            refine gq_next ?_
            refine gc_region ?_
            refine ne (eo_mv rfl rfl) rfl ?_
            refine ne (eo_add rfl rfl rfl (by omega) (by omega)) rfl ?_
            refine ne (eo_as rfl rfl) rfl ?_
            refine go_nil ?_
            exact round2 (i + 1) (upd f1 (((((((i : Int) / W) + (shI W num den ((i : Int) % W))) * W) + ((i : Int) % W))).toNat) true) ⟨by omega, shp_step (i := i) hv (by omega) hc4 (by unfold keyI; omega) hI⟩ (by omega) ⟨rfl, rfl, rfl, rfl, rfl, rfl, trivial⟩ (List.Sublist.refl _)
          ·
            refine gc_skip ?_
            refine gq_block_end ?_
            refine gq_next ?_
            refine gc_region ?_
            refine ne (eo_mv rfl rfl) rfl ?_
            refine ne (eo_add rfl rfl rfl (by omega) (by omega)) rfl ?_
            refine ne (eo_as rfl rfl) rfl ?_
            refine go_nil ?_
            exact round2 (i + 1) f1 ⟨by omega, shp_skip (i := i) hc4 hI⟩ (by omega) ⟨rfl, rfl, rfl, rfl, rfl, rfl, trivial⟩ (List.Sublist.refl _)
        ·
          replace hc3 := of_decide_eq_false hc3
          refine gc_exit ?_
          refine gq_then_exit ?_
          refine gq_then_exit ?_
          refine gq_block_hit ?_
          refine gq_next ?_
          refine gc_seq ?_
          refine gc_region ?_
          refine ne (eo_loadA 0 rfl a24 rfl rfl rfl rfl) rfl ?_
          refine nu (xo_storeA 2 rfl a24 rfl rfl (ones_cons (by first | rfl | exact AS.one) (ones_cons (by first | rfl | exact AS.one) (ones_cons (by first | rfl | exact AS.one) ones_nil))) rfl rfl rfl rfl) ?_
          rintro _ _ ⟨rfl, rfl⟩
          refine ne (eo_as rfl rfl) rfl ?_
          refine go_nil ?_
          refine gq_next ?_
          refine gc_ret ?_
          refine gq_results (resCT 2 rfl a24 rfl rfl rfl rfl rfl) ?_
          exact fun W1 hO => rx_own 1 hO rfl (shearR_ok hv hs hf) (fun j hj => by rw [hI j hj, show i = n by omega]) (by omega)

/-- barscan/barscanref45.Shear -/
theorem rshear_b (W H : Int) (A : Option Addr) (n c : Nat) (f : Nat → Bool) (num : Int) (den : Int) (w : World) (hr : Rd w A (tab n (bv f))) (hf : fitsB W (H + shMax W num den) = false) :
    Calls Try.prog 15 #[.agg #[.int .i64 W, .int .i64 H, .slice A n c], .int .i64 num, .int .i64 den] w (fun e w' => ∃ v Hn, e = .returned v ∧ RX (shearR ⟨W, H, n, f⟩ num den) v Hn ∧ Ow [] w w' Hn) := by
  refine calls_enter (N := ⟨87, []⟩) [] ([]) Try.func15 rfl rfl rfl (Ow.start _) ?_
  refine gc_seq ?_
  refine gc_region ?_
  refine nx (xo_boxA rfl rfl) rfl ?_
  rintro _ _ ⟨g3, rfl, rfl⟩
  refine nx (xo_alloc rfl z24) rfl ?_
  rintro _ _ ⟨g6, rfl, rfl⟩
  refine ne (eo_as rfl rfl) rfl ?_
  refine go_nil ?_
  refine gq_next ?_
  refine gc_seq ?_
  refine gc_seq ?_
  refine gc_region ?_
  refine ne (eo_loadA 1 rfl a24 rfl rfl rfl rfl) rfl ?_
  refine ne (eo_call rfl en25 rfl (fun W1 hO => rcheck_c _ _ _ _ _ W1  )) rfl ?_
  refine ne (eo_neq rfl rfl rfl) rfl ?_
  refine go_nil ?_
  refine gq_next ?_
  refine gc_cond rfl (fun hc0 => ?_) (fun hc0 => ?_)
  ·
    replace hc0 := of_decide_eq_true hc0
    have hv := chk_f hc0
    refine gc_seq ?_
    refine gc_region ?_
    refine ne (eo_build rfl rfl (b24_)) rfl ?_
    refine nu (xo_storeA 0 rfl a24 rfl rfl (ones_cons (by first | rfl | exact AS.one) (ones_cons (by first | rfl | exact AS.one) (ones_cons (by first | rfl | exact AS.one) ones_nil))) rfl rfl rfl rfl) ?_
    rintro _ _ ⟨rfl, rfl⟩
    refine ne (eo_as rfl rfl) rfl ?_
    refine go_nil ?_
    refine gq_next ?_
    refine gc_ret ?_
    refine gq_then_ret ?_
    refine gq_results (resCT 0 rfl a24 rfl rfl rfl rfl rfl) ?_
    exact fun W1 hO => rx_nil hO (shearR_no hv)
  ·
    replace hc0 := of_decide_eq_false hc0
    have hv := chk_t hc0
    obtain ⟨v1, v2, v3, v4, v5, v6⟩ := vldB_iff.1 hv
    have v7 := vld_pos hv
    refine gc_skip ?_
    refine gq_next ?_
    refine gc_seq ?_
    refine gc_seq ?_
    refine gc_region ?_
    refine ne (eo_mv rfl rfl) rfl ?_
    refine ne (eo_mv rfl rfl) rfl ?_
    refine ne (eo_call rfl en34 rfl (fun W1 hO => rslope_c _ _ W1  )) rfl ?_
    refine ne (eo_not rfl rfl) rfl ?_
    refine go_nil ?_
    refine gq_next ?_
    refine gc_cond rfl (fun hc1 => ?_) (fun hc1 => ?_)
    ·
      have hd1 := (not_t hc1)
      refine gc_seq ?_
      refine gc_region ?_
      refine ne (eo_build rfl rfl (b24_)) rfl ?_
      refine nu (xo_storeA 0 rfl a24 rfl rfl (ones_cons (by first | rfl | exact AS.one) (ones_cons (by first | rfl | exact AS.one) (ones_cons (by first | rfl | exact AS.one) ones_nil))) rfl rfl rfl rfl) ?_
      rintro _ _ ⟨rfl, rfl⟩
      refine ne (eo_as rfl rfl) rfl ?_
      refine go_nil ?_
      refine gq_next ?_
      refine gc_ret ?_
      refine gq_then_ret ?_
      refine gq_results (resCT 0 rfl a24 rfl rfl rfl rfl rfl) ?_
      exact fun W1 hO => rx_nil hO (shearR_range hv (not_t hc1))
    ·
      have hd1 := (not_f hc1)
      obtain ⟨d1, d2, d3, d4⟩ := slopeB_iff.1 (not_f hc1)
      have hs := not_f hc1
      have hmx0 := shI_bd (W := W) (num := num) (den := den) (x := 0) d1 (by omega) (by omega) (by omega) d3 d4
      have hmx1 := shI_bd (W := W) (num := num) (den := den) (x := W - 1) d1 (by omega) (by omega) (by omega) d3 d4
      have hmx : 0 ≤ shMax W num den ∧ shMax W num den ≤ 33554432 := by unfold shMax; omega
      have hmax := sh_max (W := W) (num := num) (den := den) d1 v1
      refine gc_skip ?_
      refine gq_next ?_
      refine gc_seq ?_
      refine gc_draw [] [0, 1, 2, 3, 4, 5, 6, 7, 8, 9, 10, 11, 12, 13, 14] [] [] (by kernel_rfl) (by kernel_rfl) ?_
      refine gp_nil ?_
      refine de rfl (eo_field rfl f24_0 rfl) rfl ?_
      refine de rfl (eo_load 1 rfl s3 rfl rfl rfl rfl) rfl ?_
      refine de rfl (eo_mv rfl rfl) rfl ?_
      refine de rfl (eo_mv rfl rfl) rfl ?_
      refine de rfl (eo_call rfl en24 rfl (fun W1 hO => shift_c _ _ _ _ W1  (by omega) (by omega) (by omega) (by omega) (by omega) (by omega) (by omega))) rfl ?_
      refine de rfl (eo_field rfl f24_0 rfl) rfl ?_
      refine de rfl (eo_load 1 rfl s3 rfl rfl rfl rfl) rfl ?_
      refine de rfl (eo_sub rfl rfl rfl (by omega) (by omega)) rfl ?_
      refine de rfl (eo_field rfl f24_0 rfl) rfl ?_
      refine de rfl (eo_load 1 rfl s3 rfl rfl rfl rfl) rfl ?_
      refine de rfl (eo_mv rfl rfl) rfl ?_
      refine de rfl (eo_mv rfl rfl) rfl ?_
      refine de rfl (eo_call rfl en24 rfl (fun W1 hO => shift_c _ _ _ _ W1  (by omega) (by omega) (by omega) (by omega) (by omega) (by omega) (by omega))) rfl ?_
      refine de rfl (eo_max rfl rfl rfl) rfl ?_
      refine de rfl (eo_as rfl rfl) rfl ?_
      refine ge_nil ?_
      refine ga_nil ?_
      refine gi_nil ?_
      refine gq_nq ?_
      refine gq_next ?_
      refine gc_seq ?_
      refine gc_region ?_
      refine ne (eo_field rfl f24_0 rfl) rfl ?_
      refine ne (eo_load 1 rfl s3 rfl rfl rfl rfl) rfl ?_
      refine ne (eo_field rfl f24_1 rfl) rfl ?_
      refine ne (eo_load 1 rfl s3 rfl rfl rfl rfl) rfl ?_
      refine ne (eo_mv rfl rfl) rfl ?_
      refine ne (eo_add rfl rfl rfl (by omega) (by omega)) rfl ?_
      refine ne (eo_call rfl en35 rfl (fun W1 hO => rnew_no _ _ W1 hf)) rfl ?_
      refine ne (eo_mv rfl rfl) rfl ?_
      refine ne (eo_extract rfl rfl rfl) rfl ?_
      refine ne (eo_extract rfl rfl rfl) rfl ?_
      refine nx (xo_alloc rfl z24) rfl ?_
      rintro _ _ ⟨g9, rfl, rfl⟩
      refine nu (xo_storeA 0 rfl a24 rfl rfl (ones_cons (by first | rfl | exact AS.one) (ones_cons (by first | rfl | exact AS.one) (ones_cons (by first | rfl | exact AS.one) ones_nil))) rfl rfl rfl rfl) ?_
      rintro _ _ ⟨rfl, rfl⟩
      refine ne (eo_as rfl rfl) rfl ?_
      refine go_nil ?_
      refine gq_next ?_
      refine gc_seq ?_
      refine gc_seq ?_
      refine gc_region ?_
      refine ne (eo_mv rfl rfl) rfl ?_
      refine ne (eo_neq rfl rfl rfl) rfl ?_
      refine go_nil ?_
      refine gq_next ?_
      refine gc_cond rfl (fun hc2 => ?_) (fun hc2 => ?_)
      ·
        replace hc2 := of_decide_eq_true hc2
        refine gc_seq ?_
        refine gc_region ?_
        refine ne (eo_build rfl rfl (b24_)) rfl ?_
        refine nu (xo_storeA 1 rfl a24 rfl rfl (ones_cons (by first | rfl | exact AS.one) (ones_cons (by first | rfl | exact AS.one) (ones_cons (by first | rfl | exact AS.one) ones_nil))) rfl rfl rfl rfl) ?_
        rintro _ _ ⟨rfl, rfl⟩
        refine ne (eo_as rfl rfl) rfl ?_
        refine go_nil ?_
        refine gq_next ?_
        refine gc_ret ?_
        refine gq_then_ret ?_
        refine gq_results (resCT 1 rfl a24 rfl rfl rfl rfl rfl) ?_
        exact fun W1 hO => rx_nil hO (shearR_long hv hs hf)
      ·
        replace hc2 := of_decide_eq_false hc2
        exact absurd (by decide) hc2

theorem rshear_x (W H : Int) (A : Option Addr) (n c : Nat) (f : Nat → Bool) (num den : Int) (w : World) (hr : Rd w A (tab n (bv f))) :
    Calls Try.prog 15 #[.agg #[.int .i64 W, .int .i64 H, .slice A n c], .int .i64 num, .int .i64 den] w (fun e w' => ∃ v Hn, e = .returned v ∧ RX (shearR ⟨W, H, n, f⟩ num den) v Hn ∧ Ow [] w w' Hn) := by
  cases hf : fitsB W (H + shMax W num den)
  · exact rshear_b W H A n c f num den w hr hf
  · exact rshear_a W H A n c f num den w hr hf

end Go.Proofs.Ytmgkpdpmjhgekaa
