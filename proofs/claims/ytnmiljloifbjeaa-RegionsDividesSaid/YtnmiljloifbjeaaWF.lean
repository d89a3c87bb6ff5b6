/-
  The walks of the functions of package regions and of the document's answers (part F): what each call returns, at every argument.
-/
import Derived.Test.YtnmiljloifbjeaaWD
import Derived.Test.YtnmiljloifbjeaaWE
namespace Go.Proofs.Ytnmiljloifbjeaa
open Go.RowKit Go.Eng

open Go.Bs
theorem en29 : Ent Try.prog 29 := ent_of Try.func29 (by kernel_rfl) rfl
theorem en26 : Ent Try.prog 26 := ent_of Try.func26 (by kernel_rfl) rfl
theorem en35 : Ent Try.prog 35 := ent_of Try.func35 (by kernel_rfl) rfl
theorem en30 : Ent Try.prog 30 := ent_of Try.func30 (by kernel_rfl) rfl

/-- barscan/regions.Classify -/
theorem classify_c (W H : Int) (A : Option Addr) (n c : Nat) (f : Nat → Bool) (X Y BW BH : Int) (w : World) (hr : Rd w A (tab n (bv f)))  :
    Calls Try.prog 17 #[.agg #[.int .i64 W, .int .i64 H, .slice A n c], .agg #[.int .i64 X, .int .i64 Y, .int .i64 BW, .int .i64 BH]] w (fun e w' => e = .returned (.tuple #[.int .i64 (clsR ⟨W, H, n, f⟩ ⟨X, Y, BW, BH⟩).1, .int .i64 (clsR ⟨W, H, n, f⟩ ⟨X, Y, BW, BH⟩).2]) ∧ Ext w w') := by
  refine calls_enter (N := ⟨17, []⟩) [] ([]) Try.func17 rfl rfl rfl (Ow.start _) ?_
  refine gc_seq ?_
  refine gc_region ?_
  refine nx (xo_boxA rfl rfl) rfl ?_
  rintro _ _ ⟨g2, rfl, rfl⟩
  refine nx (xo_boxA rfl rfl) rfl ?_
  rintro _ _ ⟨g3, rfl, rfl⟩
  refine ne (eo_as rfl rfl) rfl ?_
  refine ne (eo_as rfl rfl) rfl ?_
  refine go_nil ?_
  refine gq_next ?_
  refine gc_seq ?_
  refine gc_seq ?_
  refine gc_region ?_
  refine ne (eo_loadA 1 rfl a24 rfl rfl rfl rfl) rfl ?_
  refine ne (eo_call rfl en24 rfl (fun W1 hO => check_c _ _ _ _ _ W1  )) rfl ?_
  refine ne (eo_neq rfl rfl rfl) rfl ?_
  refine go_nil ?_
  refine gq_next ?_
  refine gc_cond rfl (fun hc0 => ?_) (fun hc0 => ?_)
  ·
    replace hc0 := of_decide_eq_true hc0
    have hv := chk_f hc0
    refine gc_seq ?_
    refine gc_region ?_
    refine ne (eo_as rfl rfl) rfl ?_
    refine ne (eo_as rfl rfl) rfl ?_
    refine go_nil ?_
    refine gq_next ?_
    refine gc_ret ?_
    refine gq_then_ret ?_
    refine gq_results (res2 rfl rfl rfl) ?_
    exact fun W1 hO => ⟨ret_ipair (by rw [clsR_no hv]) (by rw [clsR_no hv]), hO.toExt⟩
  ·
    replace hc0 := of_decide_eq_false hc0
    have hv := chk_t hc0
    obtain ⟨v1, v2, v3, v4, v5, v6⟩ := vldB_iff.1 hv
    have v7 := vld_pos hv
    refine gc_skip ?_
    refine gq_next ?_
    refine gc_seq ?_
    refine gc_seq ?_
    refine gc_region ?_
    refine ne (eo_loadA 1 rfl a24 rfl rfl rfl rfl) rfl ?_
    refine ne (eo_loadA 0 rfl a32 rfl rfl rfl rfl) rfl ?_
    refine ne (eo_call rfl en29 rfl (fun W1 hO => inside_c _ _ _ _ _ _ _ _ _ _ W1 (hr.old0 hO) (by omega) (by omega) (by omega) (by omega))) rfl ?_
    refine ne (eo_not rfl rfl) rfl ?_
    refine go_nil ?_
    refine gq_next ?_
    refine gc_cond rfl (fun hc1 => ?_) (fun hc1 => ?_)
    ·
      have hd1 := (not_t hc1)
      refine gc_seq ?_
      refine gc_region ?_
      refine ne (eo_as rfl rfl) rfl ?_
      refine ne (eo_as rfl rfl) rfl ?_
      refine go_nil ?_
      refine gq_next ?_
      refine gc_ret ?_
      refine gq_then_ret ?_
      refine gq_results (res2 rfl rfl rfl) ?_
      exact fun W1 hO => ⟨ret_ipair (by rw [clsR_range hv (not_t hc1)]) (by rw [clsR_range hv (not_t hc1)]), hO.toExt⟩
    ·
      have hd1 := (not_f hc1)
      have hin := not_f hc1
      refine gc_skip ?_
      refine gq_next ?_
      refine gc_seq ?_
      refine gc_draw [] [0, 2] [1, 3, 4, 5] [] (by kernel_rfl) (by kernel_rfl) ?_
      refine gp_nil ?_
      refine de rfl (eo_loadA 1 rfl a24 rfl rfl rfl rfl) rfl ?_
      refine de rfl (eo_loadA 0 rfl a32 rfl rfl rfl rfl) rfl ?_
      refine ge_nil ?_
      refine da rfl (xo_freshT rfl en26 rfl (fun W1 hO => count_x _ _ _ _ _ _ W1 (hr.old0 hO) (by assumption))) rfl ?_
      rintro _ _ ⟨S14, ⟨A14, k14, rfl, hk14, hS14⟩, rfl⟩
      refine ⟨by first | exact (List.sublist_append_left _ _) | exact (List.sublist_append_left _ _), ?_⟩
      refine da rfl (xo_of_eo (eo_call rfl en35 rfl (fun W1 hO => cls_c _ _ _ _ _ _ _ _ _ W1 (hS14.rd (hO.tl 2 rfl (List.Sublist.refl _))) (by omega) (by omega) (by omega) (by omega) (by assumption)))) rfl ?_
      rintro _ _ ⟨rfl, rfl⟩
      refine ⟨by first | exact (List.sublist_append_left _ _) | exact (List.sublist_append_left _ _), ?_⟩
      refine da rfl (xo_of_eo (eo_as rfl rfl)) rfl ?_
      rintro _ _ ⟨rfl, rfl⟩
      refine ⟨by first | exact (List.sublist_append_left _ _) | exact (List.sublist_append_left _ _), ?_⟩
      refine da rfl (xo_of_eo (eo_as rfl rfl)) rfl ?_
      rintro _ _ ⟨rfl, rfl⟩
      refine ⟨by first | exact (List.sublist_append_left _ _) | exact (List.sublist_append_left _ _), ?_⟩
      refine ga_nil ?_
      refine gi_nil ?_
      refine gq_nq ?_
      refine gq_next ?_
      refine gc_ret ?_
      refine gq_results (res2 rfl rfl rfl) ?_
      exact fun W1 hO => ⟨ret_ipair (by rw [clsR_ok hv hin]) (by rw [clsR_ok hv hin]), hO.toExt⟩

/-- barscan/regions.Gaps -/
theorem Gaps_x (W H : Int) (A : Option Addr) (n c : Nat) (f : Nat → Bool) (X Y BW BH : Int) (v : Bool) (w : World) (hr : Rd w A (tab n (bv f)))  :
    Calls Try.prog 12 #[.agg #[.int .i64 W, .int .i64 H, .slice A n c], .agg #[.int .i64 X, .int .i64 Y, .int .i64 BW, .int .i64 BH], .bool v] w (fun e w' => ∃ v9 Hn, e = .returned v9 ∧ RNs 2 (gapR ⟨W, H, n, f⟩ ⟨X, Y, BW, BH⟩ v).1.length (ptG (gapR ⟨W, H, n, f⟩ ⟨X, Y, BW, BH⟩ v).1) (gapR ⟨W, H, n, f⟩ ⟨X, Y, BW, BH⟩ v).2 v9 Hn ∧ Ow [] w w' Hn) := by
  refine calls_enter (N := ⟨20, []⟩) [] ([]) Try.func12 rfl rfl rfl (Ow.start _) ?_
  refine gc_seq ?_
  refine gc_region ?_
  refine nx (xo_boxA rfl rfl) rfl ?_
  rintro _ _ ⟨g3, rfl, rfl⟩
  refine nx (xo_boxA rfl rfl) rfl ?_
  rintro _ _ ⟨g4, rfl, rfl⟩
  refine ne (eo_as rfl rfl) rfl ?_
  refine ne (eo_as rfl rfl) rfl ?_
  refine go_nil ?_
  refine gq_next ?_
  refine gc_seq ?_
  refine gc_seq ?_
  refine gc_region ?_
  refine ne (eo_loadA 1 rfl a24 rfl rfl rfl rfl) rfl ?_
  refine ne (eo_call rfl en24 rfl (fun W1 hO => check_c _ _ _ _ _ W1  )) rfl ?_
  refine ne (eo_neq rfl rfl rfl) rfl ?_
  refine go_nil ?_
  refine gq_next ?_
  refine gc_cond rfl (fun hc0 => ?_) (fun hc0 => ?_)
  ·
    replace hc0 := of_decide_eq_true hc0
    have hv := chk_f hc0
    refine gc_seq ?_
    refine gc_region ?_
    refine ne (eo_as rfl rfl) rfl ?_
    refine ne (eo_as rfl rfl) rfl ?_
    refine go_nil ?_
    refine gq_next ?_
    refine gc_ret ?_
    refine gq_then_ret ?_
    refine gq_results (res2 rfl rfl rfl) ?_
    exact fun W1 hO => rns_nil hO (by rw [gapR_no hv]; rfl) (by rw [gapR_no hv])
  ·
    replace hc0 := of_decide_eq_false hc0
    have hv := chk_t hc0
    obtain ⟨v1, v2, v3, v4, v5, v6⟩ := vldB_iff.1 hv
    have v7 := vld_pos hv
    refine gc_skip ?_
    refine gq_next ?_
    refine gc_seq ?_
    refine gc_seq ?_
    refine gc_region ?_
    refine ne (eo_loadA 1 rfl a24 rfl rfl rfl rfl) rfl ?_
    refine ne (eo_loadA 0 rfl a32 rfl rfl rfl rfl) rfl ?_
    refine ne (eo_call rfl en29 rfl (fun W1 hO => inside_c _ _ _ _ _ _ _ _ _ _ W1 (hr.old0 hO) (by omega) (by omega) (by omega) (by omega))) rfl ?_
    refine ne (eo_not rfl rfl) rfl ?_
    refine go_nil ?_
    refine gq_next ?_
    refine gc_cond rfl (fun hc1 => ?_) (fun hc1 => ?_)
    ·
      have hd1 := (not_t hc1)
      refine gc_seq ?_
      refine gc_region ?_
      refine ne (eo_as rfl rfl) rfl ?_
      refine ne (eo_as rfl rfl) rfl ?_
      refine go_nil ?_
      refine gq_next ?_
      refine gc_ret ?_
      refine gq_then_ret ?_
      refine gq_results (res2 rfl rfl rfl) ?_
      exact fun W1 hO => rns_nil hO (by rw [gapR_range hv (not_t hc1)]; rfl) (by rw [gapR_range hv (not_t hc1)])
    ·
      have hd1 := (not_f hc1)
      have hin := not_f hc1
      obtain ⟨i1, i2, i3, i4, i5, i6⟩ := insB_iff.1 hin
      refine gc_skip ?_
      refine gq_next ?_
      refine gc_seq ?_
      refine gc_draw [] [0, 2, 3] [1, 4, 5, 6] [] (by kernel_rfl) (by kernel_rfl) ?_
      refine gp_nil ?_
      refine de rfl (eo_loadA 1 rfl a24 rfl rfl rfl rfl) rfl ?_
      refine de rfl (eo_loadA 0 rfl a32 rfl rfl rfl rfl) rfl ?_
      refine de rfl (eo_mv rfl rfl) rfl ?_
      refine ge_nil ?_
      refine da rfl (xo_freshT rfl en26 rfl (fun W1 hO => count_x _ _ _ _ _ _ W1 (hr.old0 hO) (by assumption))) rfl ?_
      rintro _ _ ⟨S16, ⟨A16, k16, rfl, hk16, hS16⟩, rfl⟩
      refine ⟨by first | exact (List.sublist_append_left _ _) | exact (List.sublist_append_left _ _), ?_⟩
      refine da rfl (xo_freshT rfl en30 rfl (fun W1 hO => gaps_x _ _ _ _ _ _ _ _ _ _ W1 (hS16.rd (hO.tl 2 rfl (List.Sublist.refl _))) (by omega) (by omega) (by omega) (by omega) (bin_mk (by omega) (by omega) (by omega) (by omega) (by omega) (by omega)))) rfl ?_
      rintro _ _ ⟨S19, ⟨A19, k19, rfl, hk19, hS19⟩, rfl⟩
      refine ⟨by first | exact ((List.sublist_append_left _ _).trans (List.sublist_append_left _ _)) | exact (List.sublist_append_left _ _), ?_⟩
      refine da rfl (xo_of_eo (eo_as rfl rfl)) rfl ?_
      rintro _ _ ⟨rfl, rfl⟩
      refine ⟨by first | exact ((List.sublist_append_left _ _).trans (List.sublist_append_left _ _)) | exact (List.sublist_append_left _ _), ?_⟩
      refine da rfl (xo_of_eo (eo_as rfl rfl)) rfl ?_
      rintro _ _ ⟨rfl, rfl⟩
      refine ⟨by first | exact ((List.sublist_append_left _ _).trans (List.sublist_append_left _ _)) | exact (List.sublist_append_left _ _), ?_⟩
      refine ga_nil ?_
      refine gi_nil ?_
      refine gq_nq ?_
      refine gq_next ?_
      refine gc_ret ?_
      refine gq_results (res2 rfl rfl rfl) ?_
      exact fun W1 hO => rns_pass hO (List.Sublist.cons _ (List.Sublist.cons _ (List.sublist_append_right _ _))) hk19 hS19 (by rw [gapR_ok hv hin]) (by rw [gapR_ok hv hin]) (fun j _ => by rw [gapR_ok hv hin])

end Go.Proofs.Ytnmiljloifbjeaa
