/-
  The walks of the functions of package regions and of the document's answers (part R): what each call returns, at every argument.
-/
import Derived.Test.YtnmiljloifbjeaaWQ
namespace Go.Proofs.Ytnmiljloifbjeaa
open Go.RowKit Go.Eng

open Go.Bs
theorem en9 : Ent Try.prog 9 := ent_of Try.func9 (by kernel_rfl) rfl
theorem en33 : Ent Try.prog 33 := ent_of Try.func33 (by kernel_rfl) rfl
theorem en36 : Ent Try.prog 36 := ent_of Try.func36 (by kernel_rfl) rfl
theorem en34 : Ent Try.prog 34 := ent_of Try.func34 (by kernel_rfl) rfl

/-- barscan/barscanref46.Classify -/
theorem rclassify_c (W H : Int) (A : Option Addr) (n c : Nat) (f : Nat → Bool) (X Y BW BH : Int) (w : World) (hr : Rd w A (tab n (bv f)))  :
    Calls Try.prog 18 #[.agg #[.int .i64 W, .int .i64 H, .slice A n c], .agg #[.int .i64 X, .int .i64 Y, .int .i64 BW, .int .i64 BH]] w (fun e w' => e = .returned (.tuple #[.int .i64 (clsR ⟨W, H, n, f⟩ ⟨X, Y, BW, BH⟩).1, .int .i64 (clsR ⟨W, H, n, f⟩ ⟨X, Y, BW, BH⟩).2]) ∧ Ext w w') := by
  refine calls_enter (N := ⟨175, []⟩) [] ([]) Try.func18 rfl rfl rfl (Ow.start _) ?_
  refine gc_seq ?_
  refine gc_region ?_
  refine nx (xo_boxA rfl rfl) rfl ?_
  rintro _ _ ⟨g2, rfl, rfl⟩
  refine nx (xo_boxA rfl rfl) rfl ?_
  rintro _ _ ⟨g3, rfl, rfl⟩
  refine ne (eo_as rfl rfl) rfl ?_
  refine ne (eo_as rfl rfl) rfl ?_
  refine go_nil ?_
  refine gq_next ?_
  refine gc_seq ?_
  refine gc_seq ?_
  refine gc_region ?_
  refine ne (eo_loadA 1 rfl a24 rfl rfl rfl rfl) rfl ?_
  refine ne (eo_call rfl en9 rfl (fun W1 hO => sound20_c _ _ _ _ _ _ W1 (hr.old0 hO) )) rfl ?_
  refine ne (eo_not rfl rfl) rfl ?_
  refine go_nil ?_
  refine gq_next ?_
  refine gc_cond rfl (fun hc0 => ?_) (fun hc0 => ?_)
  ·
    have hd0 := (not_t hc0)
    have hv := not_t hc0
    refine gc_seq ?_
    refine gc_region ?_
    refine ne (eo_as rfl rfl) rfl ?_
    refine ne (eo_as rfl rfl) rfl ?_
    refine go_nil ?_
    refine gq_next ?_
    refine gc_ret ?_
    refine gq_then_ret ?_
    refine gq_results (res2 rfl rfl rfl) ?_
    exact fun W1 hO => ⟨ret_ipair (by rw [clsR_no (not_t hc0)]) (by rw [clsR_no (not_t hc0)]), hO.toExt⟩
  ·
    have hd0 := (not_f hc0)
    have hv := not_f hc0
    obtain ⟨v1, v2, v3, v4, v5, v6⟩ := vldB_iff.1 hv
    have v7 := vld_pos hv
    have hv := not_f hc0
    obtain ⟨v1, v2, v3, v4, v5, v6⟩ := vldB_iff.1 hv
    have v7 := vld_pos hv
    refine gc_skip ?_
    refine gq_next ?_
    refine gc_seq ?_
    refine gc_seq ?_
    refine gc_region ?_
    refine ne (eo_loadA 1 rfl a24 rfl rfl rfl rfl) rfl ?_
    refine ne (eo_loadA 0 rfl a32 rfl rfl rfl rfl) rfl ?_
    refine ne (eo_call rfl en33 rfl (fun W1 hO => rinside_c _ _ _ _ _ _ _ _ _ _ W1 (hr.old0 hO) (by omega) (by omega) (by omega) (by omega))) rfl ?_
    refine ne (eo_not rfl rfl) rfl ?_
    refine go_nil ?_
    refine gq_next ?_
    refine gc_cond rfl (fun hc1 => ?_) (fun hc1 => ?_)
    ·
      have hd1 := (not_t hc1)
      refine gc_seq ?_
      refine gc_region ?_
      refine ne (eo_as rfl rfl) rfl ?_
      refine ne (eo_as rfl rfl) rfl ?_
      refine go_nil ?_
      refine gq_next ?_
      refine gc_ret ?_
      refine gq_then_ret ?_
      refine gq_results (res2 rfl rfl rfl) ?_
      exact fun W1 hO => ⟨ret_ipair (by rw [clsR_range hv (not_t hc1)]) (by rw [clsR_range hv (not_t hc1)]), hO.toExt⟩
    ·
      have hd1 := (not_f hc1)
      have hin := not_f hc1
      obtain ⟨i1, i2, i3, i4, i5, i6⟩ := insB_iff.1 hin
      have har := mul_le2 (a := BW) (b := BH) (A := 4096) (B := 4096) (by omega) (by omega) (by omega) (by omega)
      have hbd := bxS_bd (f := f) (insB_in hin)
      simp only at hbd
      refine gc_skip ?_
      refine gq_next ?_
      refine gc_seq ?_
      refine gc_draw [] [0, 1, 2, 3, 4, 5, 6, 7, 8, 9] [] [] (by kernel_rfl) (by kernel_rfl) ?_
      refine gp_nil ?_
      refine de rfl (eo_loadA 1 rfl a24 rfl rfl rfl rfl) rfl ?_
      refine de rfl (eo_loadA 0 rfl a32 rfl rfl rfl rfl) rfl ?_
      refine de rfl (eo_call rfl en36 rfl (fun W1 hO => rcount_c _ _ _ _ _ _ _ _ _ _ W1 (hr.old0 hO) hv (bin_mk (by omega) (by omega) (by omega) (by omega) (by omega) (by omega)))) rfl ?_
      refine de rfl (eo_field rfl f32_2 rfl) rfl ?_
      refine de rfl (eo_load 0 rfl s3 rfl rfl rfl rfl) rfl ?_
      refine de rfl (eo_field rfl f32_3 rfl) rfl ?_
      refine de rfl (eo_load 0 rfl s3 rfl rfl rfl rfl) rfl ?_
      refine de rfl (eo_mul rfl rfl rfl (by omega) (by omega)) rfl ?_
      refine de rfl (eo_as rfl rfl) rfl ?_
      refine de rfl (eo_as rfl rfl) rfl ?_
      refine ge_nil ?_
      refine ga_nil ?_
      refine gi_nil ?_
      refine gq_nq ?_
      refine gq_next ?_
      refine gc_seq ?_
      refine gc_draw [] [0, 1, 2, 3, 4, 5, 6, 7, 8, 9, 10, 11, 12, 13, 14, 15, 16, 17, 18, 19, 20, 21, 22, 23] [] [] (by kernel_rfl) (by kernel_rfl) ?_
      refine gp_nil ?_
      refine de rfl (eo_loadA 1 rfl a24 rfl rfl rfl rfl) rfl ?_
      refine de rfl (eo_field rfl f32_0 rfl) rfl ?_
      refine de rfl (eo_load 0 rfl s3 rfl rfl rfl rfl) rfl ?_
      refine de rfl (eo_field rfl f32_1 rfl) rfl ?_
      refine de rfl (eo_load 0 rfl s3 rfl rfl rfl rfl) rfl ?_
      refine de rfl (eo_field rfl f32_2 rfl) rfl ?_
      refine de rfl (eo_load 0 rfl s3 rfl rfl rfl rfl) rfl ?_
      refine de rfl (eo_build rfl rfl (b32_0123 _ _ _ _)) rfl ?_
      refine de rfl (eo_call rfl en36 rfl (fun W1 hO => rcount_c _ _ _ _ _ _ _ _ _ _ W1 (hr.old0 hO) hv (bin_mk (by omega) (by omega) (by omega) (by omega) (by omega) (by omega)))) rfl ?_
      refine de rfl (eo_loadA 1 rfl a24 rfl rfl rfl rfl) rfl ?_
      refine de rfl (eo_field rfl f32_0 rfl) rfl ?_
      refine de rfl (eo_load 0 rfl s3 rfl rfl rfl rfl) rfl ?_
      refine de rfl (eo_field rfl f32_1 rfl) rfl ?_
      refine de rfl (eo_load 0 rfl s3 rfl rfl rfl rfl) rfl ?_
      refine de rfl (eo_field rfl f32_3 rfl) rfl ?_
      refine de rfl (eo_load 0 rfl s3 rfl rfl rfl rfl) rfl ?_
      refine de rfl (eo_add rfl rfl rfl (by omega) (by omega)) rfl ?_
      refine de rfl (eo_sub rfl rfl rfl (by omega) (by omega)) rfl ?_
      refine de rfl (eo_field rfl f32_2 rfl) rfl ?_
      refine de rfl (eo_load 0 rfl s3 rfl rfl rfl rfl) rfl ?_
      refine de rfl (eo_build rfl rfl (b32_0123 _ _ _ _)) rfl ?_
      refine de rfl (eo_call rfl en36 rfl (fun W1 hO => rcount_c _ _ _ _ _ _ _ _ _ _ W1 (hr.old0 hO) hv (bin_mk (by omega) (by omega) (by omega) (by omega) (by omega) (by omega)))) rfl ?_
      refine de rfl (eo_as rfl rfl) rfl ?_
      refine de rfl (eo_as rfl rfl) rfl ?_
      refine ge_nil ?_
      refine ga_nil ?_
      refine gi_nil ?_
      refine gq_nq ?_
      refine gq_next ?_
      refine gc_seq ?_
      refine gc_draw [] [0, 1, 2, 3, 4, 5, 6, 7, 8, 9, 10, 11, 12, 13, 14, 15, 16, 17, 18, 19, 20, 21, 22, 23] [] [] (by kernel_rfl) (by kernel_rfl) ?_
      refine gp_nil ?_
      refine de rfl (eo_loadA 1 rfl a24 rfl rfl rfl rfl) rfl ?_
      refine de rfl (eo_field rfl f32_0 rfl) rfl ?_
      refine de rfl (eo_load 0 rfl s3 rfl rfl rfl rfl) rfl ?_
      refine de rfl (eo_field rfl f32_1 rfl) rfl ?_
      refine de rfl (eo_load 0 rfl s3 rfl rfl rfl rfl) rfl ?_
      refine de rfl (eo_field rfl f32_3 rfl) rfl ?_
      refine de rfl (eo_load 0 rfl s3 rfl rfl rfl rfl) rfl ?_
      refine de rfl (eo_build rfl rfl (b32_0123 _ _ _ _)) rfl ?_
      refine de rfl (eo_call rfl en36 rfl (fun W1 hO => rcount_c _ _ _ _ _ _ _ _ _ _ W1 (hr.old0 hO) hv (bin_mk (by omega) (by omega) (by omega) (by omega) (by omega) (by omega)))) rfl ?_
      refine de rfl (eo_loadA 1 rfl a24 rfl rfl rfl rfl) rfl ?_
      refine de rfl (eo_field rfl f32_0 rfl) rfl ?_
      refine de rfl (eo_load 0 rfl s3 rfl rfl rfl rfl) rfl ?_
      refine de rfl (eo_field rfl f32_2 rfl) rfl ?_
      refine de rfl (eo_load 0 rfl s3 rfl rfl rfl rfl) rfl ?_
      refine de rfl (eo_add rfl rfl rfl (by omega) (by omega)) rfl ?_
      refine de rfl (eo_sub rfl rfl rfl (by omega) (by omega)) rfl ?_
      refine de rfl (eo_field rfl f32_1 rfl) rfl ?_
      refine de rfl (eo_load 0 rfl s3 rfl rfl rfl rfl) rfl ?_
      refine de rfl (eo_field rfl f32_3 rfl) rfl ?_
      refine de rfl (eo_load 0 rfl s3 rfl rfl rfl rfl) rfl ?_
      refine de rfl (eo_build rfl rfl (b32_0123 _ _ _ _)) rfl ?_
      refine de rfl (eo_call rfl en36 rfl (fun W1 hO => rcount_c _ _ _ _ _ _ _ _ _ _ W1 (hr.old0 hO) hv (bin_mk (by omega) (by omega) (by omega) (by omega) (by omega) (by omega)))) rfl ?_
      refine de rfl (eo_as rfl rfl) rfl ?_
      refine de rfl (eo_as rfl rfl) rfl ?_
      refine ge_nil ?_
      refine ga_nil ?_
      refine gi_nil ?_
      refine gq_nq ?_
      refine gq_next ?_
      refine gc_seq ?_
      refine gc_block ?_
      refine gc_seq ?_
      refine gc_region ?_
      refine ne (eo_field rfl f32_2 rfl) rfl ?_
      refine ne (eo_load 0 rfl s3 rfl rfl rfl rfl) rfl ?_
      refine ne (eo_leq rfl rfl rfl) rfl ?_
      refine ne (eo_mv rfl rfl) rfl ?_
      refine ng rfl rfl (fun h => eo_field rfl f32_3 rfl) rfl ?_
      refine ng rfl rfl (fun h => eo_load 0 rfl s3 (ev_if h rfl) rfl rfl rfl) rfl ?_
      refine ng rfl rfl (fun h => eo_leq rfl (ev_if h rfl) rfl) rfl ?_
      refine ne (eo_and rfl rfl (fun hb => ev_if hb rfl)) rfl ?_
      refine ne (eo_mv rfl rfl) rfl ?_
      refine ng rfl rfl (fun h => eo_mv rfl rfl) rfl ?_
      refine ng rfl rfl (fun h => eo_eql rfl (ev_if h rfl) rfl) rfl ?_
      refine ne (eo_or rfl rfl (fun hb => ev_if hb rfl)) rfl ?_
      refine ne (eo_as rfl rfl) rfl ?_
      refine go_nil ?_
      refine gq_next ?_
      refine gc_cond rfl (fun hc2 => ?_) (fun hc2 => ?_)
      ·
        have hd2 := (or_t hc2).imp (fun h => (and_t h).imp (fun h => of_decide_eq_true h) (fun h => of_decide_eq_true h)) (fun h => of_decide_eq_true h)
        refine gc_seq ?_
        refine gc_region ?_
        refine ne (eo_as rfl rfl) rfl ?_
        refine ne (eo_as rfl rfl) rfl ?_
        refine go_nil ?_
        refine gq_next ?_
        refine gc_ret ?_
        refine gq_block_ret ?_
        refine gq_then_ret ?_
        refine gq_results (res2 rfl rfl rfl) ?_
        exact fun W1 hO => ⟨ret_ipair (by rw [clsR_ok hv hin]; unfold clsI; simp only; first | rw [if_pos (by omega)] | rw [if_neg (by omega), if_pos (by omega)] | rw [if_neg (by omega), if_neg (by omega), if_pos (by omega)] | rw [if_neg (by omega), if_neg (by omega), if_neg (by omega), if_pos (by omega)] | rw [if_neg (by omega), if_neg (by omega), if_neg (by omega), if_neg (by omega)]) (by rw [clsR_ok hv hin]), hO.toExt⟩
      ·
        have hd2 := (or_f hc2).imp (fun h => (and_f h).imp (fun h => of_decide_eq_false h) (fun h => of_decide_eq_false h)) (fun h => of_decide_eq_false h)
        refine gc_seq ?_
        refine gc_region ?_
        refine ne (eo_mv rfl rfl) rfl ?_
        refine ne (eo_mv rfl rfl) rfl ?_
        refine ne (eo_eql rfl rfl rfl) rfl ?_
        refine ne (eo_mv rfl rfl) rfl ?_
        refine ng rfl rfl (fun h => eo_field rfl f32_2 rfl) rfl ?_
        refine ng rfl rfl (fun h => eo_load 0 rfl s3 (ev_if h rfl) rfl rfl rfl) rfl ?_
        refine ng rfl rfl (fun h => eo_field rfl f32_3 rfl) rfl ?_
        refine ng rfl rfl (fun h => eo_load 0 rfl s3 (ev_if h rfl) rfl rfl rfl) rfl ?_
        refine ng rfl rfl (fun h => eo_mul rfl rfl (ev_if h rfl) (by have hg0 := of_decide_eq_true h; omega) (by have hg0 := of_decide_eq_true h; omega)) rfl ?_
        refine ng rfl rfl (fun h => eo_geq rfl (ev_if h rfl) (ev_if h rfl)) rfl ?_
        refine ng rfl rfl (fun h => eo_mv rfl (ev_if h rfl)) rfl ?_
        refine ngc rfl rfl (fun h => eo_field rfl f32_3 rfl) rfl ?_
        refine ngc rfl rfl (fun h => eo_load 0 rfl s3 (ev_if h rfl) rfl rfl rfl) rfl ?_
        refine ngc rfl rfl (fun h => eo_field rfl f32_2 rfl) rfl ?_
        refine ngc rfl rfl (fun h => eo_load 0 rfl s3 (ev_if h rfl) rfl rfl rfl) rfl ?_
        refine ngc rfl rfl (fun h => eo_mul rfl rfl (ev_if h rfl) (by have hg1 := of_decide_eq_false h.2; have hg0 := of_decide_eq_true h.1; omega) (by have hg1 := of_decide_eq_false h.2; have hg0 := of_decide_eq_true h.1; omega)) rfl ?_
        refine ngc rfl rfl (fun h => eo_geq rfl (ev_if h rfl) (ev_if h rfl)) rfl ?_
        refine ng rfl rfl (fun h => eo_or rfl (ev_if h rfl) (fun hb => ev_if ⟨h, hb⟩ rfl)) rfl ?_
        refine ne (eo_and rfl rfl (fun hb => ev_if hb rfl)) rfl ?_
        refine ne (eo_as rfl rfl) rfl ?_
        refine go_nil ?_
        refine gq_next ?_
        refine gc_cond rfl (fun hc3 => ?_) (fun hc3 => ?_)
        ·
          have hd3 := (and_t hc3).imp (fun h => of_decide_eq_true h) (fun h => (or_t h).imp (fun h => of_decide_eq_true h) (fun h => of_decide_eq_true h))
          refine gc_seq ?_
          refine gc_region ?_
          refine ne (eo_as rfl rfl) rfl ?_
          refine ne (eo_as rfl rfl) rfl ?_
          refine go_nil ?_
          refine gq_next ?_
          refine gc_ret ?_
          refine gq_block_ret ?_
          refine gq_then_ret ?_
          refine gq_results (res2 rfl rfl rfl) ?_
          exact fun W1 hO => ⟨ret_ipair (by rw [clsR_ok hv hin]; unfold clsI; simp only; first | rw [if_pos (by omega)] | rw [if_neg (by omega), if_pos (by omega)] | rw [if_neg (by omega), if_neg (by omega), if_pos (by omega)] | rw [if_neg (by omega), if_neg (by omega), if_neg (by omega), if_pos (by omega)] | rw [if_neg (by omega), if_neg (by omega), if_neg (by omega), if_neg (by omega)]) (by rw [clsR_ok hv hin]), hO.toExt⟩
        ·
          have hd3 := (and_f hc3).imp (fun h => of_decide_eq_false h) (fun h => (or_f h).imp (fun h => of_decide_eq_false h) (fun h => of_decide_eq_false h))
          refine gc_seq ?_
          refine gc_region ?_
          refine ne (eo_field rfl f32_2 rfl) rfl ?_
          refine ne (eo_load 0 rfl s3 rfl rfl rfl rfl) rfl ?_
          refine ne (eo_geq rfl rfl rfl) rfl ?_
          refine ne (eo_mv rfl rfl) rfl ?_
          refine ng rfl rfl (fun h => eo_field rfl f32_3 rfl) rfl ?_
          refine ng rfl rfl (fun h => eo_load 0 rfl s3 (ev_if h rfl) rfl rfl rfl) rfl ?_
          refine ng rfl rfl (fun h => eo_geq rfl (ev_if h rfl) rfl) rfl ?_
          refine ne (eo_and rfl rfl (fun hb => ev_if hb rfl)) rfl ?_
          refine ne (eo_mv rfl rfl) rfl ?_
          refine ng rfl rfl (fun h => eo_mv rfl rfl) rfl ?_
          refine ng rfl rfl (fun h => eo_field rfl f32_2 rfl) rfl ?_
          refine ng rfl rfl (fun h => eo_load 0 rfl s3 (ev_if h rfl) rfl rfl rfl) rfl ?_
          refine ng rfl rfl (fun h => eo_eql rfl (ev_if h rfl) (ev_if h rfl)) rfl ?_
          refine ne (eo_and rfl rfl (fun hb => ev_if hb rfl)) rfl ?_
          refine ne (eo_mv rfl rfl) rfl ?_
          refine ng rfl rfl (fun h => eo_mv rfl rfl) rfl ?_
          refine ng rfl rfl (fun h => eo_field rfl f32_2 rfl) rfl ?_
          refine ng rfl rfl (fun h => eo_load 0 rfl s3 (ev_if h rfl) rfl rfl rfl) rfl ?_
          refine ng rfl rfl (fun h => eo_eql rfl (ev_if h rfl) (ev_if h rfl)) rfl ?_
          refine ne (eo_and rfl rfl (fun hb => ev_if hb rfl)) rfl ?_
          refine ne (eo_mv rfl rfl) rfl ?_
          refine ng rfl rfl (fun h => eo_mv rfl rfl) rfl ?_
          refine ng rfl rfl (fun h => eo_field rfl f32_3 rfl) rfl ?_
          refine ng rfl rfl (fun h => eo_load 0 rfl s3 (ev_if h rfl) rfl rfl rfl) rfl ?_
          refine ng rfl rfl (fun h => eo_eql rfl (ev_if h rfl) (ev_if h rfl)) rfl ?_
          refine ne (eo_and rfl rfl (fun hb => ev_if hb rfl)) rfl ?_
          refine ne (eo_mv rfl rfl) rfl ?_
          refine ng rfl rfl (fun h => eo_mv rfl rfl) rfl ?_
          refine ng rfl rfl (fun h => eo_field rfl f32_3 rfl) rfl ?_
          refine ng rfl rfl (fun h => eo_load 0 rfl s3 (ev_if h rfl) rfl rfl rfl) rfl ?_
          refine ng rfl rfl (fun h => eo_eql rfl (ev_if h rfl) (ev_if h rfl)) rfl ?_
          refine ne (eo_and rfl rfl (fun hb => ev_if hb rfl)) rfl ?_
          refine ne (eo_as rfl rfl) rfl ?_
          refine go_nil ?_
          refine gq_next ?_
          refine gc_cond rfl (fun hc4 => ?_) (fun hc4 => ?_)
          ·
            have hd4 := (and_t hc4).imp (fun h => (and_t h).imp (fun h => (and_t h).imp (fun h => (and_t h).imp (fun h => (and_t h).imp (fun h => of_decide_eq_true h) (fun h => of_decide_eq_true h)) (fun h => of_decide_eq_true h)) (fun h => of_decide_eq_true h)) (fun h => of_decide_eq_true h)) (fun h => of_decide_eq_true h)
            refine gc_seq ?_
            refine gc_region ?_
            refine ne (eo_as rfl rfl) rfl ?_
            refine ne (eo_as rfl rfl) rfl ?_
            refine go_nil ?_
            refine gq_next ?_
            refine gc_ret ?_
            refine gq_block_ret ?_
            refine gq_then_ret ?_
            refine gq_results (res2 rfl rfl rfl) ?_
            exact fun W1 hO => ⟨ret_ipair (by rw [clsR_ok hv hin]; unfold clsI; simp only; first | rw [if_pos (by omega)] | rw [if_neg (by omega), if_pos (by omega)] | rw [if_neg (by omega), if_neg (by omega), if_pos (by omega)] | rw [if_neg (by omega), if_neg (by omega), if_neg (by omega), if_pos (by omega)] | rw [if_neg (by omega), if_neg (by omega), if_neg (by omega), if_neg (by omega)]) (by rw [clsR_ok hv hin]), hO.toExt⟩
          ·
            have hd4 := (and_f hc4).imp (fun h => (and_f h).imp (fun h => (and_f h).imp (fun h => (and_f h).imp (fun h => (and_f h).imp (fun h => of_decide_eq_false h) (fun h => of_decide_eq_false h)) (fun h => of_decide_eq_false h)) (fun h => of_decide_eq_false h)) (fun h => of_decide_eq_false h)) (fun h => of_decide_eq_false h)
            refine gc_seq ?_
            refine gc_region ?_
            refine ne (eo_field rfl f32_2 rfl) rfl ?_
            refine ne (eo_load 0 rfl s3 rfl rfl rfl rfl) rfl ?_
            refine ne (eo_geq rfl rfl rfl) rfl ?_
            refine ne (eo_mv rfl rfl) rfl ?_
            refine ng rfl rfl (fun h => eo_field rfl f32_3 rfl) rfl ?_
            refine ng rfl rfl (fun h => eo_load 0 rfl s3 (ev_if h rfl) rfl rfl rfl) rfl ?_
            refine ng rfl rfl (fun h => eo_geq rfl (ev_if h rfl) rfl) rfl ?_
            refine ne (eo_and rfl rfl (fun hb => ev_if hb rfl)) rfl ?_
            refine ne (eo_mv rfl rfl) rfl ?_
            refine ng rfl rfl (fun h => eo_field rfl f32_2 rfl) rfl ?_
            refine ng rfl rfl (fun h => eo_load 0 rfl s3 (ev_if h rfl) rfl rfl rfl) rfl ?_
            refine ng rfl rfl (fun h => eo_field rfl f32_3 rfl) rfl ?_
            refine ng rfl rfl (fun h => eo_load 0 rfl s3 (ev_if h rfl) rfl rfl rfl) rfl ?_
            refine ng rfl rfl (fun h => eo_min rfl (ev_if h rfl) (ev_if h rfl)) rfl ?_
            refine ng rfl rfl (fun h => eo_mul rfl rfl (ev_if h rfl) (by have hg0 := (and_t h).imp (fun h => of_decide_eq_true h) (fun h => of_decide_eq_true h); omega) (by have hg0 := (and_t h).imp (fun h => of_decide_eq_true h) (fun h => of_decide_eq_true h); omega)) rfl ?_
            refine ng rfl rfl (fun h => eo_field rfl f32_2 rfl) rfl ?_
            refine ng rfl rfl (fun h => eo_load 0 rfl s3 (ev_if h rfl) rfl rfl rfl) rfl ?_
            refine ng rfl rfl (fun h => eo_field rfl f32_3 rfl) rfl ?_
            refine ng rfl rfl (fun h => eo_load 0 rfl s3 (ev_if h rfl) rfl rfl rfl) rfl ?_
            refine ng rfl rfl (fun h => eo_max rfl (ev_if h rfl) (ev_if h rfl)) rfl ?_
            refine ng rfl rfl (fun h => eo_mul rfl rfl (ev_if h rfl) (by have hg0 := (and_t h).imp (fun h => of_decide_eq_true h) (fun h => of_decide_eq_true h); omega) (by have hg0 := (and_t h).imp (fun h => of_decide_eq_true h) (fun h => of_decide_eq_true h); omega)) rfl ?_
            refine ng rfl rfl (fun h => eo_geq rfl (ev_if h rfl) (ev_if h rfl)) rfl ?_
            refine ne (eo_and rfl rfl (fun hb => ev_if hb rfl)) rfl ?_
            refine ne (eo_mv rfl rfl) rfl ?_
            refine ng rfl rfl (fun h => eo_mv rfl rfl) rfl ?_
            refine ng rfl rfl (fun h => eo_mul rfl rfl (ev_if h rfl) (by have hg0 := (and_t h).imp (fun h => (and_t h).imp (fun h => of_decide_eq_true h) (fun h => of_decide_eq_true h)) (fun h => of_decide_eq_true h); omega) (by have hg0 := (and_t h).imp (fun h => (and_t h).imp (fun h => of_decide_eq_true h) (fun h => of_decide_eq_true h)) (fun h => of_decide_eq_true h); omega)) rfl ?_
            refine ng rfl rfl (fun h => eo_mv rfl rfl) rfl ?_
            refine ng rfl rfl (fun h => eo_mul rfl rfl (ev_if h rfl) (by have hg0 := (and_t h).imp (fun h => (and_t h).imp (fun h => of_decide_eq_true h) (fun h => of_decide_eq_true h)) (fun h => of_decide_eq_true h); omega) (by have hg0 := (and_t h).imp (fun h => (and_t h).imp (fun h => of_decide_eq_true h) (fun h => of_decide_eq_true h)) (fun h => of_decide_eq_true h); omega)) rfl ?_
            refine ng rfl rfl (fun h => eo_geq rfl (ev_if h rfl) (ev_if h rfl)) rfl ?_
            refine ne (eo_and rfl rfl (fun hb => ev_if hb rfl)) rfl ?_
            refine ne (eo_mv rfl rfl) rfl ?_
            refine ng rfl rfl (fun h => eo_mv rfl rfl) rfl ?_
            refine ng rfl rfl (fun h => eo_mul rfl rfl (ev_if h rfl) (by have hg0 := (and_t h).imp (fun h => (and_t h).imp (fun h => (and_t h).imp (fun h => of_decide_eq_true h) (fun h => of_decide_eq_true h)) (fun h => of_decide_eq_true h)) (fun h => of_decide_eq_true h); omega) (by have hg0 := (and_t h).imp (fun h => (and_t h).imp (fun h => (and_t h).imp (fun h => of_decide_eq_true h) (fun h => of_decide_eq_true h)) (fun h => of_decide_eq_true h)) (fun h => of_decide_eq_true h); omega)) rfl ?_
            refine ng rfl rfl (fun h => eo_mv rfl rfl) rfl ?_
            refine ng rfl rfl (fun h => eo_mul rfl rfl (ev_if h rfl) (by have hg0 := (and_t h).imp (fun h => (and_t h).imp (fun h => (and_t h).imp (fun h => of_decide_eq_true h) (fun h => of_decide_eq_true h)) (fun h => of_decide_eq_true h)) (fun h => of_decide_eq_true h); omega) (by have hg0 := (and_t h).imp (fun h => (and_t h).imp (fun h => (and_t h).imp (fun h => of_decide_eq_true h) (fun h => of_decide_eq_true h)) (fun h => of_decide_eq_true h)) (fun h => of_decide_eq_true h); omega)) rfl ?_
            refine ng rfl rfl (fun h => eo_leq rfl (ev_if h rfl) (ev_if h rfl)) rfl ?_
            refine ne (eo_and rfl rfl (fun hb => ev_if hb rfl)) rfl ?_
            refine ne (eo_as rfl rfl) rfl ?_
            refine go_nil ?_
            refine gq_next ?_
            refine gc_cond rfl (fun hc5 => ?_) (fun hc5 => ?_)
            ·
              have hd5 := (and_t hc5).imp (fun h => (and_t h).imp (fun h => (and_t h).imp (fun h => (and_t h).imp (fun h => of_decide_eq_true h) (fun h => of_decide_eq_true h)) (fun h => of_decide_eq_true h)) (fun h => of_decide_eq_true h)) (fun h => of_decide_eq_true h)
              refine gc_seq ?_
              refine gc_region ?_
              refine ne (eo_as rfl rfl) rfl ?_
              refine ne (eo_as rfl rfl) rfl ?_
              refine go_nil ?_
              refine gq_next ?_
              refine gc_ret ?_
              refine gq_block_ret ?_
              refine gq_then_ret ?_
              refine gq_results (res2 rfl rfl rfl) ?_
              exact fun W1 hO => ⟨ret_ipair (by rw [clsR_ok hv hin]; unfold clsI; simp only; first | rw [if_pos (by omega)] | rw [if_neg (by omega), if_pos (by omega)] | rw [if_neg (by omega), if_neg (by omega), if_pos (by omega)] | rw [if_neg (by omega), if_neg (by omega), if_neg (by omega), if_pos (by omega)] | rw [if_neg (by omega), if_neg (by omega), if_neg (by omega), if_neg (by omega)]) (by rw [clsR_ok hv hin]), hO.toExt⟩
            ·
              have hd5 := (and_f hc5).imp (fun h => (and_f h).imp (fun h => (and_f h).imp (fun h => (and_f h).imp (fun h => of_decide_eq_false h) (fun h => of_decide_eq_false h)) (fun h => of_decide_eq_false h)) (fun h => of_decide_eq_false h)) (fun h => of_decide_eq_false h)
              refine gc_skip ?_
              refine gq_block_end ?_
              refine gq_next ?_
              refine gc_seq ?_
              refine gc_region ?_
              refine ne (eo_as rfl rfl) rfl ?_
              refine ne (eo_as rfl rfl) rfl ?_
              refine go_nil ?_
              refine gq_next ?_
              refine gc_ret ?_
              refine gq_results (res2 rfl rfl rfl) ?_
              exact fun W1 hO => ⟨ret_ipair (by rw [clsR_ok hv hin]; unfold clsI; simp only; first | rw [if_pos (by omega)] | rw [if_neg (by omega), if_pos (by omega)] | rw [if_neg (by omega), if_neg (by omega), if_pos (by omega)] | rw [if_neg (by omega), if_neg (by omega), if_neg (by omega), if_pos (by omega)] | rw [if_neg (by omega), if_neg (by omega), if_neg (by omega), if_neg (by omega)]) (by rw [clsR_ok hv hin]), hO.toExt⟩

/-- barscan/barscanref46.Gaps -/
theorem rGaps_x (W H : Int) (A : Option Addr) (n c : Nat) (f : Nat → Bool) (X Y BW BH : Int) (v : Bool) (w : World) (hr : Rd w A (tab n (bv f)))  :
    Calls Try.prog 16 #[.agg #[.int .i64 W, .int .i64 H, .slice A n c], .agg #[.int .i64 X, .int .i64 Y, .int .i64 BW, .int .i64 BH], .bool v] w (fun e w' => ∃ v9 Hn, e = .returned v9 ∧ RNs 2 (gapR ⟨W, H, n, f⟩ ⟨X, Y, BW, BH⟩ v).1.length (ptG (gapR ⟨W, H, n, f⟩ ⟨X, Y, BW, BH⟩ v).1) (gapR ⟨W, H, n, f⟩ ⟨X, Y, BW, BH⟩ v).2 v9 Hn ∧ Ow [] w w' Hn) := by
  refine calls_enter (N := ⟨19, []⟩) [] ([]) Try.func16 rfl rfl rfl (Ow.start _) ?_
  refine gc_seq ?_
  refine gc_region ?_
  refine nx (xo_boxA rfl rfl) rfl ?_
  rintro _ _ ⟨g3, rfl, rfl⟩
  refine nx (xo_boxA rfl rfl) rfl ?_
  rintro _ _ ⟨g4, rfl, rfl⟩
  refine ne (eo_as rfl rfl) rfl ?_
  refine ne (eo_as rfl rfl) rfl ?_
  refine go_nil ?_
  refine gq_next ?_
  refine gc_seq ?_
  refine gc_seq ?_
  refine gc_region ?_
  refine ne (eo_loadA 1 rfl a24 rfl rfl rfl rfl) rfl ?_
  refine ne (eo_call rfl en9 rfl (fun W1 hO => sound20_c _ _ _ _ _ _ W1 (hr.old0 hO) )) rfl ?_
  refine ne (eo_not rfl rfl) rfl ?_
  refine go_nil ?_
  refine gq_next ?_
  refine gc_cond rfl (fun hc0 => ?_) (fun hc0 => ?_)
  ·
    have hd0 := (not_t hc0)
    have hv := not_t hc0
    refine gc_seq ?_
    refine gc_region ?_
    refine ne (eo_as rfl rfl) rfl ?_
    refine ne (eo_as rfl rfl) rfl ?_
    refine go_nil ?_
    refine gq_next ?_
    refine gc_ret ?_
    refine gq_then_ret ?_
    refine gq_results (res2 rfl rfl rfl) ?_
    exact fun W1 hO => rns_nil hO (by rw [gapR_no (not_t hc0)]; rfl) (by rw [gapR_no (not_t hc0)])
  ·
    have hd0 := (not_f hc0)
    have hv := not_f hc0
    obtain ⟨v1, v2, v3, v4, v5, v6⟩ := vldB_iff.1 hv
    have v7 := vld_pos hv
    have hv := not_f hc0
    obtain ⟨v1, v2, v3, v4, v5, v6⟩ := vldB_iff.1 hv
    have v7 := vld_pos hv
    refine gc_skip ?_
    refine gq_next ?_
    refine gc_seq ?_
    refine gc_seq ?_
    refine gc_region ?_
    refine ne (eo_loadA 1 rfl a24 rfl rfl rfl rfl) rfl ?_
    refine ne (eo_loadA 0 rfl a32 rfl rfl rfl rfl) rfl ?_
    refine ne (eo_call rfl en33 rfl (fun W1 hO => rinside_c _ _ _ _ _ _ _ _ _ _ W1 (hr.old0 hO) (by omega) (by omega) (by omega) (by omega))) rfl ?_
    refine ne (eo_not rfl rfl) rfl ?_
    refine go_nil ?_
    refine gq_next ?_
    refine gc_cond rfl (fun hc1 => ?_) (fun hc1 => ?_)
    ·
      have hd1 := (not_t hc1)
      refine gc_seq ?_
      refine gc_region ?_
      refine ne (eo_as rfl rfl) rfl ?_
      refine ne (eo_as rfl rfl) rfl ?_
      refine go_nil ?_
      refine gq_next ?_
      refine gc_ret ?_
      refine gq_then_ret ?_
      refine gq_results (res2 rfl rfl rfl) ?_
      exact fun W1 hO => rns_nil hO (by rw [gapR_range hv (not_t hc1)]; rfl) (by rw [gapR_range hv (not_t hc1)])
    ·
      have hd1 := (not_f hc1)
      have hin := not_f hc1
      obtain ⟨i1, i2, i3, i4, i5, i6⟩ := insB_iff.1 hin
      refine gc_skip ?_
      refine gq_next ?_
      refine gc_seq ?_
      refine gc_region ?_
      refine ne (eo_loadA 1 rfl a24 rfl rfl rfl rfl) rfl ?_
      refine ne (eo_loadA 0 rfl a32 rfl rfl rfl rfl) rfl ?_
      refine ne (eo_mv rfl rfl) rfl ?_
      refine nx (xo_freshT rfl en34 rfl (fun W1 hO => rgaps_x _ _ _ _ _ _ _ _ _ _ _ W1 (hr.old0 hO) hv (bin_mk (by omega) (by omega) (by omega) (by omega) (by omega) (by omega)))) rfl ?_
      rintro _ _ ⟨S18, ⟨A18, k18, rfl, hk18, hS18⟩, rfl⟩
      refine ne (eo_as rfl rfl) rfl ?_
      refine ne (eo_as rfl rfl) rfl ?_
      refine go_nil ?_
      refine gq_next ?_
      refine gc_ret ?_
      refine gq_results (res2 rfl rfl rfl) ?_
      exact fun W1 hO => rns_pass hO (List.Sublist.cons _ (List.Sublist.cons _ (List.Sublist.refl _))) hk18 hS18 (by rw [gapR_ok hv hin]) (by rw [gapR_ok hv hin]) (fun j _ => by rw [gapR_ok hv hin])

end Go.Proofs.Ytnmiljloifbjeaa
