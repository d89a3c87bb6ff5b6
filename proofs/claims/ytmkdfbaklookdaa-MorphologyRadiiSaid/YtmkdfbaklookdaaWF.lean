/-
  The walks of the functions of package morphology and of the document's answer (part F): what each call returns, at every argument.
-/
import Derived.Test.YtmkdfbaklookdaaWD
namespace Go.Proofs.Ytmkdfbaklookdaa
open Go.RowKit Go.Eng

open Go.Bs
theorem en45 : Ent Try.prog 45 := ent_of Try.func45 (by kernel_rfl) rfl
theorem en34 : Ent Try.prog 34 := ent_of Try.func34 (by kernel_rfl) rfl
theorem b24_01 (x0 : Int) (x1 : Int) (W : World) : (Instr.build 24 #[(0, .int .i64 x0), (1, .int .i64 x1)]).run Try.prog W = .ok (.agg #[.int .i64 x0, .int .i64 x1, .slice none 0 0]) W := by kernel_rfl
theorem en35 : Ent Try.prog 35 := ent_of Try.func35 (by kernel_rfl) rfl
theorem en36 : Ent Try.prog 36 := ent_of Try.func36 (by kernel_rfl) rfl
theorem en43 : Ent Try.prog 43 := ent_of Try.func43 (by kernel_rfl) rfl
theorem en13 : Ent Try.prog 13 := ent_of Try.func13 (by kernel_rfl) rfl
theorem en15 : Ent Try.prog 15 := ent_of Try.func15 (by kernel_rfl) rfl
theorem en46 : Ent Try.prog 46 := ent_of Try.func46 (by kernel_rfl) rfl

/-- barscan/morphology.Outline_1 -/
theorem odark_c (x : Int) (y : Int) (gr : Nat) (W H : Int) (A : Option Addr) (n c : Nat) (f : Nat → Bool) (w : World) (hcr : ∀ k v, [.int .i64 W, .int .i64 H, .slice A n c][k]? = some v → w.cell? ⟨gr, k, none⟩ = some v) (hr : Rd w A (tab n (bv f))) (hv : vldB W H n = true) :
    Calls Try.prog 45 #[.int .i64 x, .int .i64 y, .pointer (some ⟨gr, 0, none⟩)] w (fun e w' => e = .returned (.bool (atB W H n f x y)) ∧ Ext w w') := by
  obtain ⟨v1, v2, v3, v4, v5, v6⟩ := vldB_iff.1 hv
  have v7 := vld_pos hv
  refine calls_enter (N := ⟨36, []⟩) [] ([]) Try.func45 rfl rfl rfl (Ow.start _) ?_
  refine gc_seq ?_
  refine gc_region ?_
  refine ne (eo_as rfl rfl) rfl ?_
  refine go_nil ?_
  refine gq_next ?_
  refine gc_seq ?_
  refine gc_region ?_
  refine ne (eo_mv rfl rfl) rfl ?_
  refine ne (eo_geq rfl rfl rfl) rfl ?_
  refine ne (eo_mv rfl rfl) rfl ?_
  refine ng rfl rfl (fun h => eo_mv rfl rfl) rfl ?_
  refine ng rfl rfl (fun h => eo_field rfl f24_0 rfl) rfl ?_
  refine ng rfl rfl (fun h => eo_load_old rfl s3 (ev_if h rfl) (hcr 0 _ rfl) (by simp)) rfl ?_
  refine ng rfl rfl (fun h => eo_lss rfl (ev_if h rfl) (ev_if h rfl)) rfl ?_
  refine ne (eo_and rfl rfl (fun hb => ev_if hb rfl)) rfl ?_
  refine ne (eo_mv rfl rfl) rfl ?_
  refine ng rfl rfl (fun h => eo_mv rfl rfl) rfl ?_
  refine ng rfl rfl (fun h => eo_geq rfl (ev_if h rfl) rfl) rfl ?_
  refine ne (eo_and rfl rfl (fun hb => ev_if hb rfl)) rfl ?_
  refine ne (eo_mv rfl rfl) rfl ?_
  refine ng rfl rfl (fun h => eo_mv rfl rfl) rfl ?_
  refine ng rfl rfl (fun h => eo_field rfl f24_1 rfl) rfl ?_
  refine ng rfl rfl (fun h => eo_load_old rfl s3 (ev_if h rfl) (hcr 1 _ rfl) (by simp)) rfl ?_
  refine ng rfl rfl (fun h => eo_lss rfl (ev_if h rfl) (ev_if h rfl)) rfl ?_
  refine ne (eo_and rfl rfl (fun hb => ev_if hb rfl)) rfl ?_
  refine ne (eo_mv rfl rfl) rfl ?_
  refine ng rfl rfl (fun h => eo_field rfl f24_2 rfl) rfl ?_
  refine ng rfl rfl (fun h => eo_load_old rfl s22 (ev_if h rfl) (hcr 2 _ rfl) (by simp)) rfl ?_
  refine ng rfl rfl (fun h => eo_mv rfl rfl) rfl ?_
  refine ng rfl rfl (fun h => eo_field rfl f24_0 rfl) rfl ?_
  refine ng rfl rfl (fun h => eo_load_old rfl s3 (ev_if h rfl) (hcr 0 _ rfl) (by simp)) rfl ?_
  refine ng rfl rfl (fun h => eo_mul rfl (ev_if h rfl) (ev_if h rfl) (by have hg0 := (and_t h).imp (fun h => (and_t h).imp (fun h => (and_t h).imp (fun h => of_decide_eq_true h) (fun h => of_decide_eq_true h)) (fun h => of_decide_eq_true h)) (fun h => of_decide_eq_true h); first | omega | (have hi := idx_bd (W := W) (H := H) (x := x) (y := y) (by omega) (by omega) (by omega) (by omega); omega)) (by have hg0 := (and_t h).imp (fun h => (and_t h).imp (fun h => (and_t h).imp (fun h => of_decide_eq_true h) (fun h => of_decide_eq_true h)) (fun h => of_decide_eq_true h)) (fun h => of_decide_eq_true h); first | omega | (have hi := idx_bd (W := W) (H := H) (x := x) (y := y) (by omega) (by omega) (by omega) (by omega); omega))) rfl ?_
  refine ng rfl rfl (fun h => eo_mv rfl rfl) rfl ?_
  refine ng rfl rfl (fun h => eo_add rfl (ev_if h rfl) (ev_if h rfl) (by have hg0 := (and_t h).imp (fun h => (and_t h).imp (fun h => (and_t h).imp (fun h => of_decide_eq_true h) (fun h => of_decide_eq_true h)) (fun h => of_decide_eq_true h)) (fun h => of_decide_eq_true h); first | omega | (have hi := idx_bd (W := W) (H := H) (x := x) (y := y) (by omega) (by omega) (by omega) (by omega); omega)) (by have hg0 := (and_t h).imp (fun h => (and_t h).imp (fun h => (and_t h).imp (fun h => of_decide_eq_true h) (fun h => of_decide_eq_true h)) (fun h => of_decide_eq_true h)) (fun h => of_decide_eq_true h); first | omega | (have hi := idx_bd (W := W) (H := H) (x := x) (y := y) (by omega) (by omega) (by omega) (by omega); omega))) rfl ?_
  refine ng rfl rfl (fun h => eo_indexR rfl sl22 (ev_if h rfl) (ev_if h rfl) hr (by simp) (by have hg0 := (and_t h).imp (fun h => (and_t h).imp (fun h => (and_t h).imp (fun h => of_decide_eq_true h) (fun h => of_decide_eq_true h)) (fun h => of_decide_eq_true h)) (fun h => of_decide_eq_true h); first | omega | (have hi := idx_bd (W := W) (H := H) (x := x) (y := y) (by omega) (by omega) (by omega) (by omega); omega)) (by have hg0 := (and_t h).imp (fun h => (and_t h).imp (fun h => (and_t h).imp (fun h => of_decide_eq_true h) (fun h => of_decide_eq_true h)) (fun h => of_decide_eq_true h)) (fun h => of_decide_eq_true h); first | omega | (have hi := idx_bd (W := W) (H := H) (x := x) (y := y) (by omega) (by omega) (by omega) (by omega); omega))) rfl ?_
  refine ng rfl rfl (fun h => eo_load_old rfl s4 (ev_if h rfl) (Rd.tabb hr (by have hg0 := (and_t h).imp (fun h => (and_t h).imp (fun h => (and_t h).imp (fun h => of_decide_eq_true h) (fun h => of_decide_eq_true h)) (fun h => of_decide_eq_true h)) (fun h => of_decide_eq_true h); first | omega | (have hi := idx_bd (W := W) (H := H) (x := x) (y := y) (by omega) (by omega) (by omega) (by omega); omega))) (by simp)) rfl ?_
  refine ne (eo_and rfl rfl (fun hb => ev_if hb rfl)) rfl ?_
  refine ne (eo_as rfl rfl) rfl ?_
  refine go_nil ?_
  refine gq_next ?_
  refine gc_ret ?_
  refine gq_results (res1 rfl rfl) ?_
  exact fun W1 hO => ⟨ret_bool (by simp [atB, inB, hv, Bool.and_assoc]), hO.toExt⟩

/-- barscan/morphology.Outline -/
theorem outl_x (W H : Int) (A : Option Addr) (n c : Nat) (f : Nat → Bool) (w : World) (hr : Rd w A (tab n (bv f)))  :
    Calls Try.prog 24 #[.agg #[.int .i64 W, .int .i64 H, .slice A n c]] w (fun e w' => ∃ v Hn, e = .returned v ∧ RX (outlR ⟨W, H, n, f⟩) v Hn ∧ Ow [] w w' Hn) := by
  refine calls_enter (N := ⟨82, []⟩) [] ([]) Try.func24 rfl rfl rfl (Ow.start _) ?_
  refine gc_seq ?_
  refine gc_region ?_
  refine nx (xo_boxA rfl rfl) rfl ?_
  rintro _ _ ⟨g1, rfl, rfl⟩
  refine nx (xo_alloc rfl z24) rfl ?_
  rintro _ _ ⟨g2, rfl, rfl⟩
  refine ne (eo_as rfl rfl) rfl ?_
  refine go_nil ?_
  refine gq_next ?_
  refine gc_seq ?_
  refine gc_seq ?_
  refine gc_region ?_
  refine ne (eo_loadA 1 rfl a24 rfl rfl rfl rfl) rfl ?_
  refine ne (eo_call rfl en44 rfl (fun W1 hO => check_c _ _ _ _ _ W1  )) rfl ?_
  refine ne (eo_as rfl rfl) rfl ?_
  refine go_nil ?_
  refine gq_next ?_
  refine gc_seq ?_
  refine gc_region ?_
  refine ne (eo_mv rfl rfl) rfl ?_
  refine ne (eo_neq rfl rfl rfl) rfl ?_
  refine go_nil ?_
  refine gq_next ?_
  refine gc_cond rfl (fun hc0 => ?_) (fun hc0 => ?_)
  ·
    replace hc0 := of_decide_eq_true hc0
    have hv := chk_f hc0
    refine gc_seq ?_
    refine gc_region ?_
    refine ne (eo_build rfl rfl (b24_)) rfl ?_
    refine ne (eo_mv rfl rfl) rfl ?_
    refine nu (xo_storeA 0 rfl a24 rfl rfl (ones_cons (by first | rfl | exact AS.one) (ones_cons (by first | rfl | exact AS.one) (ones_cons (by first | rfl | exact AS.one) ones_nil))) rfl rfl rfl rfl) ?_
    rintro _ _ ⟨rfl, rfl⟩
    refine ne (eo_as rfl rfl) rfl ?_
    refine go_nil ?_
    refine gq_next ?_
    refine gc_ret ?_
    refine gq_then_ret ?_
    refine gq_results (resCT 0 rfl a24 rfl rfl rfl rfl rfl) ?_
    exact fun W1 hO => rx_nil hO (by rw [chk_no hv]; exact outlR_no hv)
  ·
    replace hc0 := of_decide_eq_false hc0
    have hv := chk_t hc0
    obtain ⟨v1, v2, v3, v4, v5, v6⟩ := vldB_iff.1 hv
    have v7 := vld_pos hv
    refine gc_skip ?_
    refine gq_next ?_
    refine gc_seq ?_
    refine gc_region ?_
    refine ne (eo_makeFunc rfl rfl rfl) rfl ?_
    refine ne (eo_as rfl rfl) rfl ?_
    refine go_nil ?_
    refine gq_next ?_
    refine gc_seq ?_
    refine gc_draw_new (i := 9) (d := 6) [] [0, 1, 2, 3, 4, 5, 6] [7, 8] [10] (by kernel_rfl) (by kernel_rfl) rfl z24 rfl ?_
    refine gp_nil ?_
    refine de rfl (eo_field rfl f24_0 rfl) rfl ?_
    refine de rfl (eo_load 1 rfl s3 rfl rfl rfl rfl) rfl ?_
    refine de rfl (eo_field rfl f24_1 rfl) rfl ?_
    refine de rfl (eo_load 1 rfl s3 rfl rfl rfl rfl) rfl ?_
    refine de rfl (eo_field rfl f24_2 rfl) rfl ?_
    refine de rfl (eo_load 1 rfl s22 rfl rfl rfl rfl) rfl ?_
    refine de rfl (eo_len rfl Try.underlying22 rfl) rfl ?_
    refine ge_nil ?_
    refine ⟨rfl, ?_⟩
    refine da rfl (xo_makeb rfl Try.underlying22 e4 rfl rfl (by omega) (by omega) (by omega)) rfl ?_
    rintro _ _ ⟨g24, rfl, rfl⟩
    refine ⟨by first | exact (List.Sublist.cons _ (List.Sublist.refl _)) | exact (List.sublist_append_left _ _), ?_⟩
    refine da rfl (xo_of_eo (eo_build rfl rfl (b24_012 _ _ _ _ _))) rfl ?_
    rintro _ _ ⟨rfl, rfl⟩
    refine ⟨by first | exact (List.Sublist.cons _ (List.Sublist.refl _)) | exact (List.sublist_append_left _ _), ?_⟩
    refine ga_nil ?_
    intro g6
    refine iu rfl (xo_storeA 0 rfl a24 rfl rfl (ones_cons (by first | rfl | exact AS.one) (ones_cons (by first | rfl | exact AS.one) (ones_cons (by first | rfl | exact AS.one) ones_nil))) rfl rfl rfl rfl) ?_
    rintro _ _ ⟨rfl, rfl⟩
    refine gi_nil ?_
    refine gq_nq ?_
    refine gq_next ?_
    refine gc_seq ?_
    refine gc_seq ?_
    refine gc_region ?_
    refine ne (eo_field rfl f24_1 rfl) rfl ?_
    refine ne (eo_load 3 rfl s3 rfl rfl rfl rfl) rfl ?_
    refine ne (eo_mv rfl rfl) rfl ?_
    refine go_nil ?_
    refine gq_next ?_
    refine gc_block ?_
    refine loop2 (fun (y : Nat) (f1 : Nat → Bool) => (y : Int) ≤ H ∧ ∀ j, j < n → f1 j = if (j : Int) < y * W then outlF ⟨W, H, n, f⟩ j else false) (fun (y : Nat) (f1 : Nat → Bool) => (H - y).toNat) (fun (y : Nat) (f1 : Nat → Bool) => [(1, .pointer (some ⟨g1, 0, none⟩)), (2, .pointer (some ⟨g2, 0, none⟩)), (5, .func (.func 45) #[] #[.pointer (some ⟨g1, 0, none⟩)]), (6, .pointer (some ⟨g6, 0, none⟩)), (27, .int .i64 H), (28, .int .i64 (y : Int))]) (fun (y : Nat) (f1 : Nat → Bool) => [⟨g6, 24, [.int .i64 W, .int .i64 H, .slice (some ⟨g24, 0, none⟩) n n]⟩, ⟨g24, 4, tab n (bv f1) ++ []⟩, ⟨g2, 24, [.int .i64 0, .int .i64 0, .slice none 0 0]⟩, ⟨g1, 24, [.int .i64 W, .int .i64 H, .slice A n c]⟩]) 0 (fun _ => false) ⟨by omega, fill_new (by simp)⟩ ⟨rfl, rfl, rfl, rfl, rfl, rfl, trivial⟩ (List.Sublist.refl _) ?_
    rintro y f1 ⟨hy, hI⟩
    refine gc_seq ?_
    refine gc_region ?_
    refine ne (eo_lss rfl rfl rfl) rfl ?_
    refine go_nil ?_
    refine gq_next ?_
    refine gc_seq ?_
    refine gc_cond rfl (fun hc1 => ?_) (fun hc1 => ?_)
    ·
      replace hc1 := of_decide_eq_true hc1
      have hb0 := idx_bd (W := W) (H := H) (x := 0) (y := (y : Int)) (by omega) (by omega) (by omega) (by omega)
      refine gc_skip ?_
      refine gq_next ?_
      refine gc_seq ?_
      refine gc_block ?_
      refine gc_seq ?_
      refine gc_region ?_
      refine ne (eo_mv rfl rfl) rfl ?_
      refine ne (eo_as rfl rfl) rfl ?_
      refine go_nil ?_
      refine gq_next ?_
      refine gc_seq ?_
      refine gc_region ?_
      refine ne (eo_field rfl f24_0 rfl) rfl ?_
      refine ne (eo_load 3 rfl s3 rfl rfl rfl rfl) rfl ?_
      refine ne (eo_mv rfl rfl) rfl ?_
      refine go_nil ?_
      refine gq_next ?_
      refine gc_block ?_
      refine loop2 (fun (x : Nat) (f1 : Nat → Bool) => (x : Int) ≤ W ∧ ∀ j, j < n → f1 j = if (j : Int) < y * W + x then outlF ⟨W, H, n, f⟩ j else false) (fun (x : Nat) (f1 : Nat → Bool) => (W - x).toNat) (fun (x : Nat) (f1 : Nat → Bool) => [(1, .pointer (some ⟨g1, 0, none⟩)), (2, .pointer (some ⟨g2, 0, none⟩)), (5, .func (.func 45) #[] #[.pointer (some ⟨g1, 0, none⟩)]), (6, .pointer (some ⟨g6, 0, none⟩)), (7, .int .i64 (y : Int)), (27, .int .i64 H), (28, .int .i64 (y : Int)), (32, .int .i64 W), (33, .int .i64 (x : Int))]) (fun (x : Nat) (f1 : Nat → Bool) => [⟨g6, 24, [.int .i64 W, .int .i64 H, .slice (some ⟨g24, 0, none⟩) n n]⟩, ⟨g24, 4, tab n (bv f1) ++ []⟩, ⟨g2, 24, [.int .i64 0, .int .i64 0, .slice none 0 0]⟩, ⟨g1, 24, [.int .i64 W, .int .i64 H, .slice A n c]⟩]) 0 f1 ⟨by omega, fill_to hI (by simp)⟩ ⟨rfl, rfl, rfl, rfl, rfl, rfl, rfl, rfl, rfl, trivial⟩ (List.Sublist.refl _) ?_
      rintro x f1 ⟨hx, hI⟩
      refine gc_seq ?_
      refine gc_region ?_
      refine ne (eo_lss rfl rfl rfl) rfl ?_
      refine go_nil ?_
      refine gq_next ?_
      refine gc_seq ?_
      refine gc_cond rfl (fun hc2 => ?_) (fun hc2 => ?_)
      ·
        replace hc2 := of_decide_eq_true hc2
        have hb0 := idx_bd (W := W) (H := H) (x := (x : Int)) (y := (y : Int)) (by omega) (by omega) (by omega) (by omega)
        refine gc_skip ?_
        refine gq_next ?_
        refine gc_seq ?_
        refine gc_block ?_
        refine gc_seq ?_
        refine gc_region ?_
        refine ne (eo_mv rfl rfl) rfl ?_
        refine ne (eo_as rfl rfl) rfl ?_
        refine go_nil ?_
        refine gq_next ?_
        refine gc_seq ?_
        refine gc_region ?_
        refine ne (eo_mv rfl rfl) rfl ?_
        refine ne (eo_mv rfl rfl) rfl ?_
        refine ne (eo_sub rfl rfl rfl (by omega) (by omega)) rfl ?_
        refine ne (eo_mv rfl rfl) rfl ?_
        refine ne (eo_callv rfl rfl en45 rfl (fun W1 hO => odark_c _ _ _ _ _ _ _ _ _ W1 (fun k v h => (hO.cell (i := 3) rfl k).trans h) (hr.old0 hO) (by assumption))) rfl ?_
        refine ne (eo_mv rfl rfl) rfl ?_
        refine ng rfl rfl (fun h => eo_mv rfl rfl) rfl ?_
        refine ng rfl rfl (fun h => eo_mv rfl rfl) rfl ?_
        refine ng rfl rfl (fun h => eo_add rfl (ev_if h rfl) rfl (by omega) (by omega)) rfl ?_
        refine ng rfl rfl (fun h => eo_mv rfl rfl) rfl ?_
        refine ng rfl rfl (fun h => eo_callv rfl (ev_if h rfl) en45 (evs_cons (ev_if h rfl) (evs_cons (ev_if h rfl) evs_nil)) (fun W1 hO => odark_c _ _ _ _ _ _ _ _ _ W1 (fun k v h => (hO.cell (i := 3) rfl k).trans h) (hr.old0 hO) (by assumption))) rfl ?_
        refine ne (eo_and rfl rfl (fun hb => ev_if hb rfl)) rfl ?_
        refine ne (eo_mv rfl rfl) rfl ?_
        refine ng rfl rfl (fun h => eo_mv rfl rfl) rfl ?_
        refine ng rfl rfl (fun h => eo_mv rfl rfl) rfl ?_
        refine ng rfl rfl (fun h => eo_mv rfl rfl) rfl ?_
        refine ng rfl rfl (fun h => eo_sub rfl (ev_if h rfl) rfl (by have hg0 := (and_t h).imp (fun h => h) (fun h => h); omega) (by have hg0 := (and_t h).imp (fun h => h) (fun h => h); omega)) rfl ?_
        refine ng rfl rfl (fun h => eo_callv rfl (ev_if h rfl) en45 (evs_cons (ev_if h rfl) (evs_cons (ev_if h rfl) evs_nil)) (fun W1 hO => odark_c _ _ _ _ _ _ _ _ _ W1 (fun k v h => (hO.cell (i := 3) rfl k).trans h) (hr.old0 hO) (by assumption))) rfl ?_
        refine ne (eo_and rfl rfl (fun hb => ev_if hb rfl)) rfl ?_
        refine ne (eo_mv rfl rfl) rfl ?_
        refine ng rfl rfl (fun h => eo_mv rfl rfl) rfl ?_
        refine ng rfl rfl (fun h => eo_mv rfl rfl) rfl ?_
        refine ng rfl rfl (fun h => eo_mv rfl rfl) rfl ?_
        refine ng rfl rfl (fun h => eo_add rfl (ev_if h rfl) rfl (by have hg0 := (and_t h).imp (fun h => (and_t h).imp (fun h => h) (fun h => h)) (fun h => h); omega) (by have hg0 := (and_t h).imp (fun h => (and_t h).imp (fun h => h) (fun h => h)) (fun h => h); omega)) rfl ?_
        refine ng rfl rfl (fun h => eo_callv rfl (ev_if h rfl) en45 (evs_cons (ev_if h rfl) (evs_cons (ev_if h rfl) evs_nil)) (fun W1 hO => odark_c _ _ _ _ _ _ _ _ _ W1 (fun k v h => (hO.cell (i := 3) rfl k).trans h) (hr.old0 hO) (by assumption))) rfl ?_
        refine ne (eo_and rfl rfl (fun hb => ev_if hb rfl)) rfl ?_
        refine ne (eo_as rfl rfl) rfl ?_
        refine go_nil ?_
        refine gq_next ?_
        refine gc_draw [] [0, 1, 2, 3, 4, 5, 6, 7, 8, 9, 10, 11, 12, 13, 14, 15, 16] [] [17] (by kernel_rfl) (by kernel_rfl) ?_
        refine gp_nil ?_
        refine de rfl (eo_field rfl f24_2 rfl) rfl ?_
        refine de rfl (eo_load 0 rfl s22 rfl rfl rfl rfl) rfl ?_
        refine de rfl (eo_mv rfl rfl) rfl ?_
        refine de rfl (eo_field rfl f24_0 rfl) rfl ?_
        refine de rfl (eo_load 3 rfl s3 rfl rfl rfl rfl) rfl ?_
        refine de rfl (eo_mul rfl rfl rfl (by omega) (by omega)) rfl ?_
        refine de rfl (eo_mv rfl rfl) rfl ?_
        refine de rfl (eo_add rfl rfl rfl (by omega) (by omega)) rfl ?_
        refine de rfl (eo_mv rfl rfl) rfl ?_
        refine de rfl (eo_mv rfl rfl) rfl ?_
        refine de rfl (eo_mv rfl rfl) rfl ?_
        refine de rfl (eo_callv rfl rfl en45 rfl (fun W1 hO => odark_c _ _ _ _ _ _ _ _ _ W1 (fun k v h => (hO.cell (i := 3) rfl k).trans h) (hr.old0 hO) (by assumption))) rfl ?_
        refine de rfl (eo_mv rfl rfl) rfl ?_
        refine dg rfl rfl rfl (fun h => eo_mv rfl rfl) rfl ?_
        refine dg rfl rfl rfl (fun h => eo_not rfl (ev_if h rfl)) rfl ?_
        refine de rfl (eo_and rfl rfl (fun hb => ev_if hb rfl)) rfl ?_
        refine de rfl (eo_index0 rfl sl22 rfl rfl (by omega) (by omega)) rfl ?_
        refine ge_nil ?_
        refine ga_nil ?_
        refine iu rfl (xo_setb 1 rfl s4 rfl rfl rfl (by omega)) ?_
        rintro _ _ ⟨rfl, rfl⟩
        refine gi_nil ?_
        refine gq_nq ?_
        refine gq_block_end ?_
        refine gq_next ?_
        refine gc_region ?_
        refine ne (eo_add rfl rfl rfl (by omega) (by omega)) rfl ?_
        refine ne (eo_mv rfl rfl) rfl ?_
        refine go_nil ?_
        exact round2 (x + 1) (upd f1 (((((y : Int) * W) + (x : Int))).toNat) ((atB W H n f (x : Int) (y : Int)) && (!((((atB W H n f ((x : Int) - 1) (y : Int)) && (atB W H n f ((x : Int) + 1) (y : Int))) && (atB W H n f (x : Int) ((y : Int) - 1))) && (atB W H n f (x : Int) ((y : Int) + 1)))))) ⟨by omega, fill_to (fill_up hI (by omega) (outl_at hv (by omega) (by omega) (by omega))) (by push_cast; omega)⟩ (by omega) ⟨rfl, rfl, rfl, rfl, rfl, rfl, rfl, rfl, rfl, trivial⟩ (List.Sublist.refl _)
      ·
        replace hc2 := of_decide_eq_false hc2
        refine gc_exit ?_
        refine gq_then_exit ?_
        refine gq_then_exit ?_
        refine gq_block_hit ?_
        refine gq_block_end ?_
        refine gq_next ?_
        refine gc_region ?_
        refine ne (eo_add rfl rfl rfl (by omega) (by omega)) rfl ?_
        refine ne (eo_mv rfl rfl) rfl ?_
        refine go_nil ?_
        exact round2 (y + 1) f1 ⟨by omega, fill_to hI (by push_cast; rw [add1_mul]; omega)⟩ (by omega) ⟨rfl, rfl, rfl, rfl, rfl, rfl, trivial⟩ (List.Sublist.refl _)
    ·
      replace hc1 := of_decide_eq_false hc1
      refine gc_exit ?_
      refine gq_then_exit ?_
      refine gq_then_exit ?_
      refine gq_block_hit ?_
      refine gq_next ?_
      refine gc_seq ?_
      refine gc_region ?_
      refine ne (eo_loadA 0 rfl a24 rfl rfl rfl rfl) rfl ?_
      refine nu (xo_storeA 2 rfl a24 rfl rfl (ones_cons (by first | rfl | exact AS.one) (ones_cons (by first | rfl | exact AS.one) (ones_cons (by first | rfl | exact AS.one) ones_nil))) rfl rfl rfl rfl) ?_
      rintro _ _ ⟨rfl, rfl⟩
      refine ne (eo_as rfl rfl) rfl ?_
      refine go_nil ?_
      refine gq_next ?_
      refine gc_ret ?_
      refine gq_results (resCT 2 rfl a24 rfl rfl rfl rfl rfl) ?_
      exact fun W1 hO => rx_own 1 hO rfl (outlR_ok hv) (fill_end hI (by rw [show (y : Int) = H by omega, Int.mul_comm H]; omega)) (by omega)

/-- barscan/barscanref37.check -/
theorem rmcheck_c (W H : Int) (A : Option Addr) (n c : Nat) (f : Nat → Bool) (rx : Int) (ry : Int) (w : World) (hr : Rd w A (tab n (bv f)))  :
    Calls Try.prog 34 #[.agg #[.int .i64 W, .int .i64 H, .slice A n c], .int .i64 rx, .int .i64 ry] w (fun e w' => e = .returned (.int .i64 (mchk W H n rx ry)) ∧ Ext w w') := by
  refine calls_enter (N := ⟨24, []⟩) [] ([]) Try.func34 rfl rfl rfl (Ow.start _) ?_
  refine gc_seq ?_
  refine gc_region ?_
  refine nx (xo_boxA rfl rfl) rfl ?_
  rintro _ _ ⟨g3, rfl, rfl⟩
  refine ne (eo_as rfl rfl) rfl ?_
  refine go_nil ?_
  refine gq_next ?_
  refine gc_seq ?_
  refine gc_seq ?_
  refine gc_region ?_
  refine ne (eo_loadA 0 rfl a24 rfl rfl rfl rfl) rfl ?_
  refine ne (eo_call rfl en48 rfl (fun W1 hO => valid_c _ _ _ _ _ W1  )) rfl ?_
  refine ne (eo_not rfl rfl) rfl ?_
  refine go_nil ?_
  refine gq_next ?_
  refine gc_cond rfl (fun hc0 => ?_) (fun hc0 => ?_)
  ·
    have hd0 := (not_t hc0)
    have hv := not_t hc0
    refine gc_seq ?_
    refine gc_region ?_
    refine ne (eo_as rfl rfl) rfl ?_
    refine go_nil ?_
    refine gq_next ?_
    refine gc_ret ?_
    refine gq_then_ret ?_
    refine gq_results (res1 rfl rfl) ?_
    exact fun W1 hO => ⟨ret_int ((mchk_arg hv).symm), hO.toExt⟩
  ·
    have hd0 := (not_f hc0)
    have hv := not_f hc0
    obtain ⟨v1, v2, v3, v4, v5, v6⟩ := vldB_iff.1 hv
    have v7 := vld_pos hv
    refine gc_skip ?_
    refine gq_next ?_
    refine gc_seq ?_
    refine gc_seq ?_
    refine gc_region ?_
    refine ne (eo_mv rfl rfl) rfl ?_
    refine ne (eo_lss rfl rfl rfl) rfl ?_
    refine ne (eo_mv rfl rfl) rfl ?_
    refine ng rfl rfl (fun h => eo_mv rfl rfl) rfl ?_
    refine ng rfl rfl (fun h => eo_gtr rfl (ev_if h rfl) rfl) rfl ?_
    refine ne (eo_or rfl rfl (fun hb => ev_if hb rfl)) rfl ?_
    refine ne (eo_mv rfl rfl) rfl ?_
    refine ng rfl rfl (fun h => eo_mv rfl rfl) rfl ?_
    refine ng rfl rfl (fun h => eo_lss rfl (ev_if h rfl) rfl) rfl ?_
    refine ne (eo_or rfl rfl (fun hb => ev_if hb rfl)) rfl ?_
    refine ne (eo_mv rfl rfl) rfl ?_
    refine ng rfl rfl (fun h => eo_mv rfl rfl) rfl ?_
    refine ng rfl rfl (fun h => eo_gtr rfl (ev_if h rfl) rfl) rfl ?_
    refine ne (eo_or rfl rfl (fun hb => ev_if hb rfl)) rfl ?_
    refine go_nil ?_
    refine gq_next ?_
    refine gc_cond rfl (fun hc1 => ?_) (fun hc1 => ?_)
    ·
      have hd1 := (or_t hc1).imp (fun h => (or_t h).imp (fun h => (or_t h).imp (fun h => of_decide_eq_true h) (fun h => of_decide_eq_true h)) (fun h => of_decide_eq_true h)) (fun h => of_decide_eq_true h)
      refine gc_seq ?_
      refine gc_region ?_
      refine ne (eo_as rfl rfl) rfl ?_
      refine go_nil ?_
      refine gq_next ?_
      refine gc_ret ?_
      refine gq_then_ret ?_
      refine gq_results (res1 rfl rfl) ?_
      exact fun W1 hO => ⟨ret_int ((mchk_range hv (by omega)).symm), hO.toExt⟩
    ·
      have hd1 := (or_f hc1).imp (fun h => (or_f h).imp (fun h => (or_f h).imp (fun h => of_decide_eq_false h) (fun h => of_decide_eq_false h)) (fun h => of_decide_eq_false h)) (fun h => of_decide_eq_false h)
      refine gc_skip ?_
      refine gq_next ?_
      refine gc_seq ?_
      refine gc_region ?_
      refine ne (eo_as rfl rfl) rfl ?_
      refine go_nil ?_
      refine gq_next ?_
      refine gc_ret ?_
      refine gq_results (res1 rfl rfl) ?_
      exact fun W1 hO => ⟨ret_int ((mchk_ok hv (by omega)).symm), hO.toExt⟩

/-- barscan/barscanref37.area -/
theorem area_c (rx : Int) (ry : Int) (w : World)  (h1 : 0 ≤ rx) (h2 : rx ≤ 4096) (h3 : 0 ≤ ry) (h4 : ry ≤ 4096) :
    Calls Try.prog 36 #[.int .i64 rx, .int .i64 ry] w (fun e w' => e = .returned (.int .i64 (areaI rx ry)) ∧ Ext w w') := by
  have ha := area_bd h1 h2 h3 h4
  refine calls_enter (N := ⟨12, []⟩) [] ([]) Try.func36 rfl rfl rfl (Ow.start _) ?_
  refine gc_seq ?_
  refine gc_region ?_
  refine ne (eo_as rfl rfl) rfl ?_
  refine go_nil ?_
  refine gq_next ?_
  refine gc_seq ?_
  refine gc_region ?_
  refine ne (eo_mv rfl rfl) rfl ?_
  refine ne (eo_mul rfl rfl rfl (by omega) (by omega)) rfl ?_
  refine ne (eo_add rfl rfl rfl (by omega) (by omega)) rfl ?_
  refine ne (eo_mv rfl rfl) rfl ?_
  refine ne (eo_mul rfl rfl rfl (by omega) (by omega)) rfl ?_
  refine ne (eo_add rfl rfl rfl (by omega) (by omega)) rfl ?_
  refine ne (eo_mul rfl rfl rfl (by omega) (by omega)) rfl ?_
  refine ne (eo_as rfl rfl) rfl ?_
  refine go_nil ?_
  refine gq_next ?_
  refine gc_ret ?_
  refine gq_results (res1 rfl rfl) ?_
  exact fun W1 hO => ⟨rfl, hO.toExt⟩

/-- barscan/barscanref37.count -/
theorem count_c (W H : Int) (A : Option Addr) (n c : Nat) (f : Nat → Bool) (x : Int) (y : Int) (rx : Int) (ry : Int) (w : World) (hr : Rd w A (tab n (bv f))) (hv : vldB W H n = true) (hx : -4096 ≤ x) (hx1 : x ≤ 8192) (hy : -4096 ≤ y) (hy1 : y ≤ 8192) (r1 : 0 ≤ rx) (r2 : rx ≤ 4096) (r3 : 0 ≤ ry) (r4 : ry ≤ 4096) :
    Calls Try.prog 35 #[.agg #[.int .i64 W, .int .i64 H, .slice A n c], .int .i64 x, .int .i64 y, .int .i64 rx, .int .i64 ry] w (fun e w' => e = .returned (.int .i64 (cntAt f W H x y rx ry)) ∧ Ext w w') := by
  obtain ⟨v1, v2, v3, v4, v5, v6⟩ := vldB_iff.1 hv
  have v7 := vld_pos hv
  refine calls_enter (N := ⟨57, []⟩) [] ([]) Try.func35 rfl rfl rfl (Ow.start _) ?_
  refine gc_seq ?_
  refine gc_region ?_
  refine nx (xo_boxA rfl rfl) rfl ?_
  rintro _ _ ⟨g5, rfl, rfl⟩
  refine ne (eo_as rfl rfl) rfl ?_
  refine go_nil ?_
  refine gq_next ?_
  refine gc_seq ?_
  refine gc_region ?_
  refine ne (eo_as rfl rfl) rfl ?_
  refine go_nil ?_
  refine gq_next ?_
  refine gc_seq ?_
  refine gc_seq ?_
  refine gc_region ?_
  refine ne (eo_mv rfl rfl) rfl ?_
  refine ne (eo_mv rfl rfl) rfl ?_
  refine ne (eo_sub rfl rfl rfl (by omega) (by omega)) rfl ?_
  refine ne (eo_max rfl rfl rfl) rfl ?_
  refine ne (eo_as rfl rfl) rfl ?_
  refine go_nil ?_
  refine gq_next ?_
  refine gc_block ?_
  refine loop2 (fun (j : Int) (s : Int) => (max 0 (y - ry)) ≤ j ∧ j ≤ (max (max 0 (y - ry)) (min (H - 1) (y + ry) + 1)) ∧ s = boxS (bw f) W (max 0 (y - ry)).toNat j.toNat (max 0 (x - rx)).toNat (max (max 0 (x - rx)) (min (W - 1) (x + rx) + 1)).toNat) (fun (j : Int) (s : Int) => ((max (max 0 (y - ry)) (min (H - 1) (y + ry) + 1)) - j).toNat) (fun (j : Int) (s : Int) => [(1, .int .i64 x), (2, .int .i64 y), (3, .int .i64 rx), (4, .int .i64 ry), (5, .pointer (some ⟨g5, 0, none⟩)), (11, .int .i64 s), (12, .int .i64 j)]) (fun (j : Int) (s : Int) => [⟨g5, 24, [.int .i64 W, .int .i64 H, .slice A n c]⟩]) (max 0 (y - ry)) 0 ⟨by omega, by omega, boxS_nil.symm⟩ ⟨rfl, rfl, rfl, rfl, rfl, rfl, rfl, trivial⟩ (List.Sublist.refl _) ?_
  rintro j s ⟨hj0, hj1, hs⟩
  have hsb := box_le (f := f) (W := W) (t := (max 0 (y - ry))) (b := j) (l := (max 0 (x - rx))) (r := (max (max 0 (x - rx)) (min (W - 1) (x + rx) + 1))) (by omega) (by omega) (by omega) (by omega) (by omega) (by omega)
  refine gc_seq ?_
  refine gc_seq ?_
  refine gc_region ?_
  refine ne (eo_mv rfl rfl) rfl ?_
  refine ne (eo_field rfl f24_1 rfl) rfl ?_
  refine ne (eo_load 0 rfl s3 rfl rfl rfl rfl) rfl ?_
  refine ne (eo_sub rfl rfl rfl (by omega) (by omega)) rfl ?_
  refine ne (eo_mv rfl rfl) rfl ?_
  refine ne (eo_mv rfl rfl) rfl ?_
  refine ne (eo_add rfl rfl rfl (by omega) (by omega)) rfl ?_
  refine ne (eo_min rfl rfl rfl) rfl ?_
  refine ne (eo_leq rfl rfl rfl) rfl ?_
  refine go_nil ?_
  refine gq_next ?_
  refine gc_cond rfl (fun hc0 => ?_) (fun hc0 => ?_)
  ·
    replace hc0 := of_decide_eq_true hc0
    refine gc_skip ?_
    refine gq_next ?_
    refine gc_seq ?_
    refine gc_block ?_
    refine gc_seq ?_
    refine gc_region ?_
    refine ne (eo_mv rfl rfl) rfl ?_
    refine ne (eo_mv rfl rfl) rfl ?_
    refine ne (eo_sub rfl rfl rfl (by omega) (by omega)) rfl ?_
    refine ne (eo_max rfl rfl rfl) rfl ?_
    refine ne (eo_as rfl rfl) rfl ?_
    refine go_nil ?_
    refine gq_next ?_
    refine gc_block ?_
    refine loop2 (fun (i : Int) (s : Int) => (max 0 (x - rx)) ≤ i ∧ i ≤ (max (max 0 (x - rx)) (min (W - 1) (x + rx) + 1)) ∧ s = boxS (bw f) W (max 0 (y - ry)).toNat j.toNat (max 0 (x - rx)).toNat (max (max 0 (x - rx)) (min (W - 1) (x + rx) + 1)).toNat + (rowS (bw f) W j.toNat i.toNat - rowS (bw f) W j.toNat (max 0 (x - rx)).toNat)) (fun (i : Int) (s : Int) => ((max (max 0 (x - rx)) (min (W - 1) (x + rx) + 1)) - i).toNat) (fun (i : Int) (s : Int) => [(1, .int .i64 x), (2, .int .i64 y), (3, .int .i64 rx), (4, .int .i64 ry), (5, .pointer (some ⟨g5, 0, none⟩)), (11, .int .i64 s), (12, .int .i64 j), (13, .int .i64 i)]) (fun (i : Int) (s : Int) => [⟨g5, 24, [.int .i64 W, .int .i64 H, .slice A n c]⟩]) (max 0 (x - rx)) s ⟨by omega, by omega, by rw [hs]; omega⟩ ⟨rfl, rfl, rfl, rfl, rfl, rfl, rfl, rfl, trivial⟩ (List.Sublist.refl _) ?_
    rintro i s ⟨hi0, hi1, hs⟩
    have hrb := row_le (f := f) (W := W) (y := j.toNat) (l := (max 0 (x - rx))) (r := i) (by omega) (by omega) (by omega)
    refine gc_seq ?_
    refine gc_seq ?_
    refine gc_region ?_
    refine ne (eo_mv rfl rfl) rfl ?_
    refine ne (eo_field rfl f24_0 rfl) rfl ?_
    refine ne (eo_load 0 rfl s3 rfl rfl rfl rfl) rfl ?_
    refine ne (eo_sub rfl rfl rfl (by omega) (by omega)) rfl ?_
    refine ne (eo_mv rfl rfl) rfl ?_
    refine ne (eo_mv rfl rfl) rfl ?_
    refine ne (eo_add rfl rfl rfl (by omega) (by omega)) rfl ?_
    refine ne (eo_min rfl rfl rfl) rfl ?_
    refine ne (eo_leq rfl rfl rfl) rfl ?_
    refine go_nil ?_
    refine gq_next ?_
    refine gc_cond rfl (fun hc1 => ?_) (fun hc1 => ?_)
    ·
      replace hc1 := of_decide_eq_true hc1
      have hb0 := idx_bd (W := W) (H := H) (x := i) (y := j) (by omega) (by omega) (by omega) (by omega)
      refine gc_skip ?_
      refine gq_next ?_
      refine gc_seq ?_
      refine gc_block ?_
      refine gc_seq ?_
      refine gc_region ?_
      refine ne (eo_field rfl f24_2 rfl) rfl ?_
      refine ne (eo_load 0 rfl s22 rfl rfl rfl rfl) rfl ?_
      refine ne (eo_mv rfl rfl) rfl ?_
      refine ne (eo_field rfl f24_0 rfl) rfl ?_
      refine ne (eo_load 0 rfl s3 rfl rfl rfl rfl) rfl ?_
      refine ne (eo_mul rfl rfl rfl (by omega) (by omega)) rfl ?_
      refine ne (eo_mv rfl rfl) rfl ?_
      refine ne (eo_add rfl rfl rfl (by omega) (by omega)) rfl ?_
      refine ne (eo_indexR rfl sl22 rfl rfl hr (by simp) (by omega) (by omega)) rfl ?_
      refine ne (eo_load_old rfl s4 rfl (Rd.tabb hr (by omega)) (by simp)) rfl ?_
      refine go_nil ?_
      refine gq_next ?_
      refine gc_cond rfl (fun hc2 => ?_) (fun hc2 => ?_)
      ·
        refine gc_region ?_
        refine ne (eo_mv rfl rfl) rfl ?_
        refine ne (eo_add rfl rfl rfl (by omega) (by omega)) rfl ?_
        refine ne (eo_as rfl rfl) rfl ?_
        refine go_nil ?_
        refine gq_block_end ?_
        refine gq_next ?_
        refine gc_region ?_
        refine ne (eo_mv rfl rfl) rfl ?_
        refine ne (eo_add rfl rfl rfl (by omega) (by omega)) rfl ?_
        refine ne (eo_as rfl rfl) rfl ?_
        refine go_nil ?_
        exact round2 (i + 1) (s + 1) ⟨by omega, by omega, by rw [cnt_step (l := 0) (by omega) (by omega), bw_t hc2, hs]; omega⟩ (by omega) ⟨rfl, rfl, rfl, rfl, rfl, rfl, rfl, rfl, trivial⟩ (List.Sublist.refl _)
      ·
        refine gc_skip ?_
        refine gq_block_end ?_
        refine gq_next ?_
        refine gc_region ?_
        refine ne (eo_mv rfl rfl) rfl ?_
        refine ne (eo_add rfl rfl rfl (by omega) (by omega)) rfl ?_
        refine ne (eo_as rfl rfl) rfl ?_
        refine go_nil ?_
        exact round2 (i + 1) s ⟨by omega, by omega, by rw [cnt_step (l := 0) (by omega) (by omega), bw_f hc2, hs]; omega⟩ (by omega) ⟨rfl, rfl, rfl, rfl, rfl, rfl, rfl, rfl, trivial⟩ (List.Sublist.refl _)
    ·
      replace hc1 := of_decide_eq_false hc1
      refine gc_exit ?_
      refine gq_then_exit ?_
      refine gq_then_exit ?_
      refine gq_block_hit ?_
      refine gq_block_end ?_
      refine gq_next ?_
      refine gc_region ?_
      refine ne (eo_mv rfl rfl) rfl ?_
      refine ne (eo_add rfl rfl rfl (by omega) (by omega)) rfl ?_
      refine ne (eo_as rfl rfl) rfl ?_
      refine go_nil ?_
      exact round2 (j + 1) s ⟨by omega, by omega, by rw [cnt_row (by omega), hs, show i = (max (max 0 (x - rx)) (min (W - 1) (x + rx) + 1)) by omega]⟩ (by omega) ⟨rfl, rfl, rfl, rfl, rfl, rfl, rfl, trivial⟩ (List.Sublist.refl _)
  ·
    replace hc0 := of_decide_eq_false hc0
    refine gc_exit ?_
    refine gq_then_exit ?_
    refine gq_then_exit ?_
    refine gq_block_hit ?_
    refine gq_next ?_
    refine gc_seq ?_
    refine gc_region ?_
    refine ne (eo_mv rfl rfl) rfl ?_
    refine ne (eo_as rfl rfl) rfl ?_
    refine go_nil ?_
    refine gq_next ?_
    refine gc_ret ?_
    refine gq_results (res1 rfl rfl) ?_
    exact fun W1 hO => ⟨ret_int (by rw [hs, show j = (max (max 0 (y - ry)) (min (H - 1) (y + ry) + 1)) by omega]; rfl), hO.toExt⟩

/-- barscan/barscanref37.Erode -/
theorem rerode_x (W H : Int) (A : Option Addr) (n c : Nat) (f : Nat → Bool) (rx : Int) (ry : Int) (w : World) (hr : Rd w A (tab n (bv f)))  :
    Calls Try.prog 13 #[.agg #[.int .i64 W, .int .i64 H, .slice A n c], .int .i64 rx, .int .i64 ry] w (fun e w' => ∃ v Hn, e = .returned v ∧ RX (rerodeR ⟨W, H, n, f⟩ rx ry) v Hn ∧ Ow [] w w' Hn) := by
  refine calls_enter (N := ⟨53, []⟩) [] ([]) Try.func13 rfl rfl rfl (Ow.start _) ?_
  refine gc_seq ?_
  refine gc_region ?_
  refine nx (xo_boxA rfl rfl) rfl ?_
  rintro _ _ ⟨g3, rfl, rfl⟩
  refine nx (xo_alloc rfl z24) rfl ?_
  rintro _ _ ⟨g6, rfl, rfl⟩
  refine ne (eo_as rfl rfl) rfl ?_
  refine go_nil ?_
  refine gq_next ?_
  refine gc_seq ?_
  refine gc_region ?_
  refine ne (eo_loadA 1 rfl a24 rfl rfl rfl rfl) rfl ?_
  refine ne (eo_mv rfl rfl) rfl ?_
  refine ne (eo_mv rfl rfl) rfl ?_
  refine ne (eo_call rfl en34 rfl (fun W1 hO => rmcheck_c _ _ _ _ _ _ _ _ W1 (hr.old0 hO) )) rfl ?_
  refine ne (eo_as rfl rfl) rfl ?_
  refine go_nil ?_
  refine gq_next ?_
  refine gc_seq ?_
  refine gc_seq ?_
  refine gc_region ?_
  refine ne (eo_mv rfl rfl) rfl ?_
  refine ne (eo_neq rfl rfl rfl) rfl ?_
  refine go_nil ?_
  refine gq_next ?_
  refine gc_cond rfl (fun hc0 => ?_) (fun hc0 => ?_)
  ·
    replace hc0 := of_decide_eq_true hc0
    refine gc_seq ?_
    refine gc_region ?_
    refine ne (eo_build rfl rfl (b24_)) rfl ?_
    refine ne (eo_mv rfl rfl) rfl ?_
    refine nu (xo_storeA 0 rfl a24 rfl rfl (ones_cons (by first | rfl | exact AS.one) (ones_cons (by first | rfl | exact AS.one) (ones_cons (by first | rfl | exact AS.one) ones_nil))) rfl rfl rfl rfl) ?_
    rintro _ _ ⟨rfl, rfl⟩
    refine ne (eo_as rfl rfl) rfl ?_
    refine go_nil ?_
    refine gq_next ?_
    refine gc_ret ?_
    refine gq_then_ret ?_
    refine gq_results (resCT 0 rfl a24 rfl rfl rfl rfl rfl) ?_
    exact fun W1 hO => rx_nil hO (if_neg hc0)
  ·
    replace hc0 := of_decide_eq_false hc0
    obtain ⟨hv, r1, r2, r3, r4⟩ := mchk_zero (Decidable.not_not.1 hc0)
    obtain ⟨v1, v2, v3, v4, v5, v6⟩ := vldB_iff.1 hv
    have v7 := vld_pos hv
    refine gc_skip ?_
    refine gq_next ?_
    refine gc_seq ?_
    refine gc_region ?_
    refine ne (eo_field rfl f24_0 rfl) rfl ?_
    refine ne (eo_load 1 rfl s3 rfl rfl rfl rfl) rfl ?_
    refine ne (eo_field rfl f24_1 rfl) rfl ?_
    refine ne (eo_load 1 rfl s3 rfl rfl rfl rfl) rfl ?_
    refine ne (eo_build rfl rfl (b24_01 _ _)) rfl ?_
    refine nx (xo_alloc rfl z24) rfl ?_
    rintro _ _ ⟨g9, rfl, rfl⟩
    refine nu (xo_storeA 0 rfl a24 rfl rfl (ones_cons (by first | rfl | exact AS.one) (ones_cons (by first | rfl | exact AS.one) (ones_cons (by first | rfl | exact AS.one) ones_nil))) rfl rfl rfl rfl) ?_
    rintro _ _ ⟨rfl, rfl⟩
    refine go_nil ?_
    refine gq_next ?_
    refine gc_seq ?_
    refine gc_seq ?_
    refine gc_region ?_
    refine ne (eo_as rfl rfl) rfl ?_
    refine go_nil ?_
    refine gq_next ?_
    refine gc_block ?_
    refine loop2 (fun (k : Nat) (s : AS) => k ≤ n ∧ s.Ok 1 k (tab k (bv (rErF ⟨W, H, n, f⟩ rx ry)))) (fun (k : Nat) (s : AS) => n - k) (fun (k : Nat) (s : AS) => [(1, .int .i64 rx), (2, .int .i64 ry), (3, .pointer (some ⟨g3, 0, none⟩)), (6, .pointer (some ⟨g6, 0, none⟩)), (9, .pointer (some ⟨g9, 0, none⟩)), (10, .int .i64 (k : Int))]) (fun (k : Nat) (s : AS) => ⟨g9, 24, [.int .i64 W, .int .i64 H, s.val k]⟩ :: ⟨g6, 24, [.int .i64 0, .int .i64 0, .slice none 0 0]⟩ :: ⟨g3, 24, [.int .i64 W, .int .i64 H, .slice A n c]⟩ :: s.blks 4 (tab k (bv (rErF ⟨W, H, n, f⟩ rx ry)))) 0 .nil ⟨by omega, AS.Ok0⟩ ⟨rfl, rfl, rfl, rfl, rfl, rfl, trivial⟩ (List.Sublist.refl _) ?_
    rintro k s ⟨hk, hs⟩
    refine gc_seq ?_
    refine gc_seq ?_
    refine gc_region ?_
    refine ne (eo_mv rfl rfl) rfl ?_
    refine ne (eo_field rfl f24_2 rfl) rfl ?_
    refine ne (eo_load 2 rfl s22 rfl rfl rfl rfl) rfl ?_
    refine ne (eo_len rfl Try.underlying22 rfl) rfl ?_
    refine ne (eo_lss rfl rfl rfl) rfl ?_
    refine go_nil ?_
    refine gq_next ?_
    refine gc_cond rfl (fun hc1 => ?_) (fun hc1 => ?_)
    ·
      replace hc1 := of_decide_eq_true hc1
      have hcb := cell_bd hv (show k < n by omega)
      refine gc_skip ?_
      refine gq_next ?_
      refine gc_seq ?_
      refine gc_block ?_
      refine gc_draw [] [0, 1, 2, 3, 4, 5, 6, 7, 8, 9, 10, 11, 12, 13, 14, 15, 16, 17] [18] [19, 20, 21] (by kernel_rfl) (by kernel_rfl) ?_
      refine gp_nil ?_
      refine de rfl (eo_field rfl f24_2 rfl) rfl ?_
      refine de rfl (eo_load 0 rfl s22 rfl rfl rfl rfl) rfl ?_
      refine de rfl (eo_loadA 2 rfl a24 rfl rfl rfl rfl) rfl ?_
      refine de rfl (eo_mv rfl rfl) rfl ?_
      refine de rfl (eo_field rfl f24_0 rfl) rfl ?_
      refine de rfl (eo_load 2 rfl s3 rfl rfl rfl rfl) rfl ?_
      refine de rfl (eo_rem rfl rfl rfl (by omega) (by omega)) rfl ?_
      refine de rfl (eo_mv rfl rfl) rfl ?_
      refine de rfl (eo_field rfl f24_0 rfl) rfl ?_
      refine de rfl (eo_load 2 rfl s3 rfl rfl rfl rfl) rfl ?_
      refine de rfl (eo_quo rfl rfl rfl (by omega) (by omega) (by omega)) rfl ?_
      refine de rfl (eo_mv rfl rfl) rfl ?_
      refine de rfl (eo_mv rfl rfl) rfl ?_
      refine de rfl (eo_call rfl en35 rfl (fun W1 hO => count_c _ _ _ _ _ _ _ _ _ _ W1 (hr.old0 hO) (by assumption) (by omega) (by omega) (by omega) (by omega) (by omega) (by omega) (by omega) (by omega))) rfl ?_
      refine de rfl (eo_mv rfl rfl) rfl ?_
      refine de rfl (eo_mv rfl rfl) rfl ?_
      refine de rfl (eo_call rfl en36 rfl (fun W1 hO => area_c _ _ W1  (by omega) (by omega) (by omega) (by omega))) rfl ?_
      refine de rfl (eo_eql rfl rfl rfl) rfl ?_
      refine ge_nil ?_
      refine da rfl (xo_lit1 rfl Try.underlying22 e4 rfl (by first | rfl | exact AS.one)) rfl ?_
      rintro _ _ ⟨g49, rfl, rfl⟩
      refine ⟨by first | exact (List.Sublist.cons _ (List.Sublist.refl _)) | exact (List.sublist_append_left _ _), ?_⟩
      refine ga_nil ?_
      refine ix rfl (xo_app1b 4 rfl rfl Try.underlying22 e4 rfl hs rfl rfl rfl (by omega)) rfl ?_
      rintro _ _ ⟨s50, hs50, rfl, rfl⟩
      refine ie rfl (eo_field rfl f24_2 rfl) rfl ?_
      refine iu rfl (xo_store 1 rfl s22 rfl rfl (by first | rfl | exact AS.one) rfl rfl (by simp)) ?_
      rintro _ _ ⟨rfl, rfl⟩
      refine gi_nil ?_
      refine gq_nq ?_
      refine gq_block_end ?_
      refine gq_next ?_
      refine gc_region ?_
      refine ne (eo_mv rfl rfl) rfl ?_
      refine ne (eo_add rfl rfl rfl (by omega) (by omega)) rfl ?_
      refine ne (eo_as rfl rfl) rfl ?_
      refine go_nil ?_
      exact round2 (k + 1) s50 ⟨by omega, hs50⟩ (by omega) ⟨rfl, rfl, rfl, rfl, rfl, rfl, trivial⟩ (List.Sublist.cons _ (List.Sublist.refl _))
    ·
      replace hc1 := of_decide_eq_false hc1
      refine gc_exit ?_
      refine gq_then_exit ?_
      refine gq_then_exit ?_
      refine gq_block_hit ?_
      refine gq_next ?_
      refine gc_seq ?_
      refine gc_region ?_
      refine ne (eo_loadA 0 rfl a24 rfl rfl rfl rfl) rfl ?_
      refine nu (xo_storeA 1 rfl a24 rfl rfl (ones_cons (by first | rfl | exact AS.one) (ones_cons (by first | rfl | exact AS.one) (ones_cons (by first | rfl | exact AS.one) ones_nil))) rfl rfl rfl rfl) ?_
      rintro _ _ ⟨rfl, rfl⟩
      refine ne (eo_as rfl rfl) rfl ?_
      refine go_nil ?_
      refine gq_next ?_
      refine gc_ret ?_
      refine gq_results (resCT 1 rfl a24 rfl rfl rfl rfl rfl) ?_
      have hkn : n = k := by omega
      subst hkn
      exact fun W1 hO => rx_as 3 hO rfl hs (if_pos (Decidable.not_not.1 hc0))

/-- barscan/barscanref37.Dilate -/
theorem rdilate_x (W H : Int) (A : Option Addr) (n c : Nat) (f : Nat → Bool) (rx : Int) (ry : Int) (w : World) (hr : Rd w A (tab n (bv f)))  :
    Calls Try.prog 15 #[.agg #[.int .i64 W, .int .i64 H, .slice A n c], .int .i64 rx, .int .i64 ry] w (fun e w' => ∃ v Hn, e = .returned v ∧ RX (rdilateR ⟨W, H, n, f⟩ rx ry) v Hn ∧ Ow [] w w' Hn) := by
  refine calls_enter (N := ⟨50, []⟩) [] ([]) Try.func15 rfl rfl rfl (Ow.start _) ?_
  refine gc_seq ?_
  refine gc_region ?_
  refine nx (xo_boxA rfl rfl) rfl ?_
  rintro _ _ ⟨g3, rfl, rfl⟩
  refine nx (xo_alloc rfl z24) rfl ?_
  rintro _ _ ⟨g6, rfl, rfl⟩
  refine ne (eo_as rfl rfl) rfl ?_
  refine go_nil ?_
  refine gq_next ?_
  refine gc_seq ?_
  refine gc_region ?_
  refine ne (eo_loadA 1 rfl a24 rfl rfl rfl rfl) rfl ?_
  refine ne (eo_mv rfl rfl) rfl ?_
  refine ne (eo_mv rfl rfl) rfl ?_
  refine ne (eo_call rfl en34 rfl (fun W1 hO => rmcheck_c _ _ _ _ _ _ _ _ W1 (hr.old0 hO) )) rfl ?_
  refine ne (eo_as rfl rfl) rfl ?_
  refine go_nil ?_
  refine gq_next ?_
  refine gc_seq ?_
  refine gc_seq ?_
  refine gc_region ?_
  refine ne (eo_mv rfl rfl) rfl ?_
  refine ne (eo_neq rfl rfl rfl) rfl ?_
  refine go_nil ?_
  refine gq_next ?_
  refine gc_cond rfl (fun hc0 => ?_) (fun hc0 => ?_)
  ·
    replace hc0 := of_decide_eq_true hc0
    refine gc_seq ?_
    refine gc_region ?_
    refine ne (eo_build rfl rfl (b24_)) rfl ?_
    refine ne (eo_mv rfl rfl) rfl ?_
    refine nu (xo_storeA 0 rfl a24 rfl rfl (ones_cons (by first | rfl | exact AS.one) (ones_cons (by first | rfl | exact AS.one) (ones_cons (by first | rfl | exact AS.one) ones_nil))) rfl rfl rfl rfl) ?_
    rintro _ _ ⟨rfl, rfl⟩
    refine ne (eo_as rfl rfl) rfl ?_
    refine go_nil ?_
    refine gq_next ?_
    refine gc_ret ?_
    refine gq_then_ret ?_
    refine gq_results (resCT 0 rfl a24 rfl rfl rfl rfl rfl) ?_
    exact fun W1 hO => rx_nil hO (if_neg hc0)
  ·
    replace hc0 := of_decide_eq_false hc0
    obtain ⟨hv, r1, r2, r3, r4⟩ := mchk_zero (Decidable.not_not.1 hc0)
    obtain ⟨v1, v2, v3, v4, v5, v6⟩ := vldB_iff.1 hv
    have v7 := vld_pos hv
    refine gc_skip ?_
    refine gq_next ?_
    refine gc_seq ?_
    refine gc_region ?_
    refine ne (eo_field rfl f24_0 rfl) rfl ?_
    refine ne (eo_load 1 rfl s3 rfl rfl rfl rfl) rfl ?_
    refine ne (eo_field rfl f24_1 rfl) rfl ?_
    refine ne (eo_load 1 rfl s3 rfl rfl rfl rfl) rfl ?_
    refine ne (eo_build rfl rfl (b24_01 _ _)) rfl ?_
    refine nx (xo_alloc rfl z24) rfl ?_
    rintro _ _ ⟨g9, rfl, rfl⟩
    refine nu (xo_storeA 0 rfl a24 rfl rfl (ones_cons (by first | rfl | exact AS.one) (ones_cons (by first | rfl | exact AS.one) (ones_cons (by first | rfl | exact AS.one) ones_nil))) rfl rfl rfl rfl) ?_
    rintro _ _ ⟨rfl, rfl⟩
    refine go_nil ?_
    refine gq_next ?_
    refine gc_seq ?_
    refine gc_seq ?_
    refine gc_region ?_
    refine ne (eo_as rfl rfl) rfl ?_
    refine go_nil ?_
    refine gq_next ?_
    refine gc_block ?_
    refine loop2 (fun (k : Nat) (s : AS) => k ≤ n ∧ s.Ok 1 k (tab k (bv (rDiF ⟨W, H, n, f⟩ rx ry)))) (fun (k : Nat) (s : AS) => n - k) (fun (k : Nat) (s : AS) => [(1, .int .i64 rx), (2, .int .i64 ry), (3, .pointer (some ⟨g3, 0, none⟩)), (6, .pointer (some ⟨g6, 0, none⟩)), (9, .pointer (some ⟨g9, 0, none⟩)), (10, .int .i64 (k : Int))]) (fun (k : Nat) (s : AS) => ⟨g9, 24, [.int .i64 W, .int .i64 H, s.val k]⟩ :: ⟨g6, 24, [.int .i64 0, .int .i64 0, .slice none 0 0]⟩ :: ⟨g3, 24, [.int .i64 W, .int .i64 H, .slice A n c]⟩ :: s.blks 4 (tab k (bv (rDiF ⟨W, H, n, f⟩ rx ry)))) 0 .nil ⟨by omega, AS.Ok0⟩ ⟨rfl, rfl, rfl, rfl, rfl, rfl, trivial⟩ (List.Sublist.refl _) ?_
    rintro k s ⟨hk, hs⟩
    refine gc_seq ?_
    refine gc_seq ?_
    refine gc_region ?_
    refine ne (eo_mv rfl rfl) rfl ?_
    refine ne (eo_field rfl f24_2 rfl) rfl ?_
    refine ne (eo_load 2 rfl s22 rfl rfl rfl rfl) rfl ?_
    refine ne (eo_len rfl Try.underlying22 rfl) rfl ?_
    refine ne (eo_lss rfl rfl rfl) rfl ?_
    refine go_nil ?_
    refine gq_next ?_
    refine gc_cond rfl (fun hc1 => ?_) (fun hc1 => ?_)
    ·
      replace hc1 := of_decide_eq_true hc1
      have hcb := cell_bd hv (show k < n by omega)
      refine gc_skip ?_
      refine gq_next ?_
      refine gc_seq ?_
      refine gc_block ?_
      refine gc_draw [] [0, 1, 2, 3, 4, 5, 6, 7, 8, 9, 10, 11, 12, 13, 14] [15] [16, 17, 18] (by kernel_rfl) (by kernel_rfl) ?_
      refine gp_nil ?_
      refine de rfl (eo_field rfl f24_2 rfl) rfl ?_
      refine de rfl (eo_load 0 rfl s22 rfl rfl rfl rfl) rfl ?_
      refine de rfl (eo_loadA 2 rfl a24 rfl rfl rfl rfl) rfl ?_
      refine de rfl (eo_mv rfl rfl) rfl ?_
      refine de rfl (eo_field rfl f24_0 rfl) rfl ?_
      refine de rfl (eo_load 2 rfl s3 rfl rfl rfl rfl) rfl ?_
      refine de rfl (eo_rem rfl rfl rfl (by omega) (by omega)) rfl ?_
      refine de rfl (eo_mv rfl rfl) rfl ?_
      refine de rfl (eo_field rfl f24_0 rfl) rfl ?_
      refine de rfl (eo_load 2 rfl s3 rfl rfl rfl rfl) rfl ?_
      refine de rfl (eo_quo rfl rfl rfl (by omega) (by omega) (by omega)) rfl ?_
      refine de rfl (eo_mv rfl rfl) rfl ?_
      refine de rfl (eo_mv rfl rfl) rfl ?_
      refine de rfl (eo_call rfl en35 rfl (fun W1 hO => count_c _ _ _ _ _ _ _ _ _ _ W1 (hr.old0 hO) (by assumption) (by omega) (by omega) (by omega) (by omega) (by omega) (by omega) (by omega) (by omega))) rfl ?_
      refine de rfl (eo_gtr rfl rfl rfl) rfl ?_
      refine ge_nil ?_
      refine da rfl (xo_lit1 rfl Try.underlying22 e4 rfl (by first | rfl | exact AS.one)) rfl ?_
      rintro _ _ ⟨g46, rfl, rfl⟩
      refine ⟨by first | exact (List.Sublist.cons _ (List.Sublist.refl _)) | exact (List.sublist_append_left _ _), ?_⟩
      refine ga_nil ?_
      refine ix rfl (xo_app1b 4 rfl rfl Try.underlying22 e4 rfl hs rfl rfl rfl (by omega)) rfl ?_
      rintro _ _ ⟨s47, hs47, rfl, rfl⟩
      refine ie rfl (eo_field rfl f24_2 rfl) rfl ?_
      refine iu rfl (xo_store 1 rfl s22 rfl rfl (by first | rfl | exact AS.one) rfl rfl (by simp)) ?_
      rintro _ _ ⟨rfl, rfl⟩
      refine gi_nil ?_
      refine gq_nq ?_
      refine gq_block_end ?_
      refine gq_next ?_
      refine gc_region ?_
      refine ne (eo_mv rfl rfl) rfl ?_
      refine ne (eo_add rfl rfl rfl (by omega) (by omega)) rfl ?_
      refine ne (eo_as rfl rfl) rfl ?_
      refine go_nil ?_
      exact round2 (k + 1) s47 ⟨by omega, hs47⟩ (by omega) ⟨rfl, rfl, rfl, rfl, rfl, rfl, trivial⟩ (List.Sublist.cons _ (List.Sublist.refl _))
    ·
      replace hc1 := of_decide_eq_false hc1
      refine gc_exit ?_
      refine gq_then_exit ?_
      refine gq_then_exit ?_
      refine gq_block_hit ?_
      refine gq_next ?_
      refine gc_seq ?_
      refine gc_region ?_
      refine ne (eo_loadA 0 rfl a24 rfl rfl rfl rfl) rfl ?_
      refine nu (xo_storeA 1 rfl a24 rfl rfl (ones_cons (by first | rfl | exact AS.one) (ones_cons (by first | rfl | exact AS.one) (ones_cons (by first | rfl | exact AS.one) ones_nil))) rfl rfl rfl rfl) ?_
      rintro _ _ ⟨rfl, rfl⟩
      refine ne (eo_as rfl rfl) rfl ?_
      refine go_nil ?_
      refine gq_next ?_
      refine gc_ret ?_
      refine gq_results (resCT 1 rfl a24 rfl rfl rfl rfl rfl) ?_
      have hkn : n = k := by omega
      subst hkn
      exact fun W1 hO => rx_as 3 hO rfl hs (if_pos (Decidable.not_not.1 hc0))

/-- barscan/barscanref37.near -/
theorem near_c (W H : Int) (A : Option Addr) (n c : Nat) (f : Nat → Bool) (x : Int) (y : Int) (rx : Int) (ry : Int) (w : World) (hr : Rd w A (tab n (bv f))) (hv : vldB W H n = true) (hx : 0 ≤ x) (hx1 : x < W) (hy : 0 ≤ y) (hy1 : y < H) (r1 : 0 ≤ rx) (r2 : rx ≤ 4096) (r3 : 0 ≤ ry) (r4 : ry ≤ 4096) :
    Calls Try.prog 43 #[.agg #[.int .i64 W, .int .i64 H, .slice A n c], .int .i64 x, .int .i64 y, .int .i64 rx, .int .i64 ry] w (fun e w' => e = .returned (.bool (nearB f W H x y rx ry)) ∧ Ext w w') := by
  obtain ⟨v1, v2, v3, v4, v5, v6⟩ := vldB_iff.1 hv
  have v7 := vld_pos hv
  refine calls_enter (N := ⟨40, []⟩) [] ([]) Try.func43 rfl rfl rfl (Ow.start _) ?_
  refine gc_seq ?_
  refine gc_region ?_
  refine nx (xo_boxA rfl rfl) rfl ?_
  rintro _ _ ⟨g5, rfl, rfl⟩
  refine ne (eo_as rfl rfl) rfl ?_
  refine go_nil ?_
  refine gq_next ?_
  refine gc_seq ?_
  refine gc_seq ?_
  refine gc_region ?_
  refine ne (eo_mv rfl rfl) rfl ?_
  refine ne (eo_mv rfl rfl) rfl ?_
  refine ne (eo_sub rfl rfl rfl (by omega) (by omega)) rfl ?_
  refine ne (eo_as rfl rfl) rfl ?_
  refine go_nil ?_
  refine gq_next ?_
  refine gc_block ?_
  refine loop1 (fun (j : Int) => y - ry ≤ j ∧ j ≤ y + ry + 1 ∧ ∀ x' y' : Int, x - rx ≤ x' → x' ≤ x + rx → y - ry ≤ y' → y' < j → cntAt f W H x' y' rx ry ≠ 0) (fun (j : Int) => (y + ry + 1 - j).toNat) (fun (j : Int) => [(1, .int .i64 x), (2, .int .i64 y), (3, .int .i64 rx), (4, .int .i64 ry), (5, .pointer (some ⟨g5, 0, none⟩)), (11, .int .i64 j)]) (fun (j : Int) => [⟨g5, 24, [.int .i64 W, .int .i64 H, .slice A n c]⟩]) (y - ry) ⟨by omega, by omega, fun _ _ _ _ _ _ => by omega⟩ ⟨rfl, rfl, rfl, rfl, rfl, rfl, trivial⟩ (List.Sublist.refl _) ?_
  rintro j ⟨hj0, hj1, hI⟩
  refine gc_seq ?_
  refine gc_seq ?_
  refine gc_region ?_
  refine ne (eo_mv rfl rfl) rfl ?_
  refine ne (eo_mv rfl rfl) rfl ?_
  refine ne (eo_mv rfl rfl) rfl ?_
  refine ne (eo_add rfl rfl rfl (by omega) (by omega)) rfl ?_
  refine ne (eo_leq rfl rfl rfl) rfl ?_
  refine go_nil ?_
  refine gq_next ?_
  refine gc_cond rfl (fun hc0 => ?_) (fun hc0 => ?_)
  ·
    replace hc0 := of_decide_eq_true hc0
    refine gc_skip ?_
    refine gq_next ?_
    refine gc_seq ?_
    refine gc_block ?_
    refine gc_seq ?_
    refine gc_region ?_
    refine ne (eo_mv rfl rfl) rfl ?_
    refine ne (eo_mv rfl rfl) rfl ?_
    refine ne (eo_sub rfl rfl rfl (by omega) (by omega)) rfl ?_
    refine ne (eo_as rfl rfl) rfl ?_
    refine go_nil ?_
    refine gq_next ?_
    refine gc_block ?_
    refine loop1 (fun (i : Int) => x - rx ≤ i ∧ i ≤ x + rx + 1 ∧ ∀ x' : Int, x - rx ≤ x' → x' < i → cntAt f W H x' j rx ry ≠ 0) (fun (i : Int) => (x + rx + 1 - i).toNat) (fun (i : Int) => [(1, .int .i64 x), (2, .int .i64 y), (3, .int .i64 rx), (4, .int .i64 ry), (5, .pointer (some ⟨g5, 0, none⟩)), (11, .int .i64 j), (12, .int .i64 i)]) (fun (i : Int) => [⟨g5, 24, [.int .i64 W, .int .i64 H, .slice A n c]⟩]) (x - rx) ⟨by omega, by omega, fun _ _ _ => by omega⟩ ⟨rfl, rfl, rfl, rfl, rfl, rfl, rfl, trivial⟩ (List.Sublist.refl _) ?_
    rintro i ⟨hi0, hi1, hJ⟩
    refine gc_seq ?_
    refine gc_seq ?_
    refine gc_region ?_
    refine ne (eo_mv rfl rfl) rfl ?_
    refine ne (eo_mv rfl rfl) rfl ?_
    refine ne (eo_mv rfl rfl) rfl ?_
    refine ne (eo_add rfl rfl rfl (by omega) (by omega)) rfl ?_
    refine ne (eo_leq rfl rfl rfl) rfl ?_
    refine go_nil ?_
    refine gq_next ?_
    refine gc_cond rfl (fun hc1 => ?_) (fun hc1 => ?_)
    ·
      replace hc1 := of_decide_eq_true hc1
      refine gc_skip ?_
      refine gq_next ?_
      refine gc_seq ?_
      refine gc_block ?_
      refine gc_seq ?_
      refine gc_region ?_
      refine ne (eo_loadA 0 rfl a24 rfl rfl rfl rfl) rfl ?_
      refine ne (eo_mv rfl rfl) rfl ?_
      refine ne (eo_mv rfl rfl) rfl ?_
      refine ne (eo_mv rfl rfl) rfl ?_
      refine ne (eo_mv rfl rfl) rfl ?_
      refine ne (eo_call rfl en35 rfl (fun W1 hO => count_c _ _ _ _ _ _ _ _ _ _ W1 (hr.old0 hO) (by assumption) (by omega) (by omega) (by omega) (by omega) (by omega) (by omega) (by omega) (by omega))) rfl ?_
      refine ne (eo_eql rfl rfl rfl) rfl ?_
      refine go_nil ?_
      refine gq_next ?_
      refine gc_cond rfl (fun hc2 => ?_) (fun hc2 => ?_)
      ·
        replace hc2 := of_decide_eq_true hc2
        refine gc_seq ?_
        refine gc_region ?_
        refine ne (eo_as rfl rfl) rfl ?_
        refine go_nil ?_
        refine gq_next ?_
        refine gc_ret ?_
        refine gq_block_ret ?_
        refine gq_then_ret ?_
        refine gq_then_ret ?_
        refine gq_block_ret ?_
        refine gq_block_ret ?_
        refine gq_then_ret ?_
        refine gq_then_ret ?_
        refine gq_block_ret ?_
        refine gq_then_ret ?_
        refine gq_results (res1 rfl rfl) ?_
        exact fun W1 hO => ⟨ret_bool (by
          cases hb : nearB f W H x y rx ry with
          | false => rfl
          | true => exact absurd hc2 (nearB_iff.1 hb i j (by omega) (by omega) (by omega) (by omega))), hO.toExt⟩
      ·
        replace hc2 := of_decide_eq_false hc2
        refine gc_skip ?_
        refine gq_block_end ?_
        refine gq_next ?_
        refine gc_region ?_
        refine ne (eo_mv rfl rfl) rfl ?_
        refine ne (eo_add rfl rfl rfl (by omega) (by omega)) rfl ?_
        refine ne (eo_as rfl rfl) rfl ?_
        refine go_nil ?_
        exact round1 (i + 1) ⟨by omega, by omega, fun x' a b => by by_cases e : x' = i; (· subst e; exact hc2); exact hJ x' a (by omega)⟩ (by omega) ⟨rfl, rfl, rfl, rfl, rfl, rfl, rfl, trivial⟩ (List.Sublist.refl _)
    ·
      replace hc1 := of_decide_eq_false hc1
      refine gc_exit ?_
      refine gq_then_exit ?_
      refine gq_then_exit ?_
      refine gq_block_hit ?_
      refine gq_block_end ?_
      refine gq_next ?_
      refine gc_region ?_
      refine ne (eo_mv rfl rfl) rfl ?_
      refine ne (eo_add rfl rfl rfl (by omega) (by omega)) rfl ?_
      refine ne (eo_as rfl rfl) rfl ?_
      refine go_nil ?_
      exact round1 (j + 1) ⟨by omega, by omega, fun x' y' a b c d => by by_cases e : y' = j; (· subst e; exact hJ x' a (by omega)); exact hI x' y' a b c (by omega)⟩ (by omega) ⟨rfl, rfl, rfl, rfl, rfl, rfl, trivial⟩ (List.Sublist.refl _)
  ·
    replace hc0 := of_decide_eq_false hc0
    refine gc_exit ?_
    refine gq_then_exit ?_
    refine gq_then_exit ?_
    refine gq_block_hit ?_
    refine gq_next ?_
    refine gc_seq ?_
    refine gc_region ?_
    refine ne (eo_as rfl rfl) rfl ?_
    refine go_nil ?_
    refine gq_next ?_
    refine gc_ret ?_
    refine gq_results (res1 rfl rfl) ?_
    exact fun W1 hO => ⟨ret_bool ((nearB_iff.2 (fun x' y' a b c d => hI x' y' a b c (by omega))).symm), hO.toExt⟩

/-- barscan/barscanref37.Close -/
theorem rclose_x (W H : Int) (A : Option Addr) (n c : Nat) (f : Nat → Bool) (rx : Int) (ry : Int) (w : World) (hr : Rd w A (tab n (bv f)))  :
    Calls Try.prog 21 #[.agg #[.int .i64 W, .int .i64 H, .slice A n c], .int .i64 rx, .int .i64 ry] w (fun e w' => ∃ v Hn, e = .returned v ∧ RX (rcloseR ⟨W, H, n, f⟩ rx ry) v Hn ∧ Ow [] w w' Hn) := by
  refine calls_enter (N := ⟨49, []⟩) [] ([]) Try.func21 rfl rfl rfl (Ow.start _) ?_
  refine gc_seq ?_
  refine gc_region ?_
  refine nx (xo_boxA rfl rfl) rfl ?_
  rintro _ _ ⟨g3, rfl, rfl⟩
  refine nx (xo_alloc rfl z24) rfl ?_
  rintro _ _ ⟨g6, rfl, rfl⟩
  refine ne (eo_as rfl rfl) rfl ?_
  refine go_nil ?_
  refine gq_next ?_
  refine gc_seq ?_
  refine gc_region ?_
  refine ne (eo_loadA 1 rfl a24 rfl rfl rfl rfl) rfl ?_
  refine ne (eo_mv rfl rfl) rfl ?_
  refine ne (eo_mv rfl rfl) rfl ?_
  refine ne (eo_call rfl en34 rfl (fun W1 hO => rmcheck_c _ _ _ _ _ _ _ _ W1 (hr.old0 hO) )) rfl ?_
  refine ne (eo_as rfl rfl) rfl ?_
  refine go_nil ?_
  refine gq_next ?_
  refine gc_seq ?_
  refine gc_seq ?_
  refine gc_region ?_
  refine ne (eo_mv rfl rfl) rfl ?_
  refine ne (eo_neq rfl rfl rfl) rfl ?_
  refine go_nil ?_
  refine gq_next ?_
  refine gc_cond rfl (fun hc0 => ?_) (fun hc0 => ?_)
  ·
    replace hc0 := of_decide_eq_true hc0
    refine gc_seq ?_
    refine gc_region ?_
    refine ne (eo_build rfl rfl (b24_)) rfl ?_
    refine ne (eo_mv rfl rfl) rfl ?_
    refine nu (xo_storeA 0 rfl a24 rfl rfl (ones_cons (by first | rfl | exact AS.one) (ones_cons (by first | rfl | exact AS.one) (ones_cons (by first | rfl | exact AS.one) ones_nil))) rfl rfl rfl rfl) ?_
    rintro _ _ ⟨rfl, rfl⟩
    refine ne (eo_as rfl rfl) rfl ?_
    refine go_nil ?_
    refine gq_next ?_
    refine gc_ret ?_
    refine gq_then_ret ?_
    refine gq_results (resCT 0 rfl a24 rfl rfl rfl rfl rfl) ?_
    exact fun W1 hO => rx_nil hO (if_neg hc0)
  ·
    replace hc0 := of_decide_eq_false hc0
    obtain ⟨hv, r1, r2, r3, r4⟩ := mchk_zero (Decidable.not_not.1 hc0)
    obtain ⟨v1, v2, v3, v4, v5, v6⟩ := vldB_iff.1 hv
    have v7 := vld_pos hv
    refine gc_skip ?_
    refine gq_next ?_
    refine gc_seq ?_
    refine gc_region ?_
    refine ne (eo_field rfl f24_0 rfl) rfl ?_
    refine ne (eo_load 1 rfl s3 rfl rfl rfl rfl) rfl ?_
    refine ne (eo_field rfl f24_1 rfl) rfl ?_
    refine ne (eo_load 1 rfl s3 rfl rfl rfl rfl) rfl ?_
    refine ne (eo_build rfl rfl (b24_01 _ _)) rfl ?_
    refine nx (xo_alloc rfl z24) rfl ?_
    rintro _ _ ⟨g9, rfl, rfl⟩
    refine nu (xo_storeA 0 rfl a24 rfl rfl (ones_cons (by first | rfl | exact AS.one) (ones_cons (by first | rfl | exact AS.one) (ones_cons (by first | rfl | exact AS.one) ones_nil))) rfl rfl rfl rfl) ?_
    rintro _ _ ⟨rfl, rfl⟩
    refine go_nil ?_
    refine gq_next ?_
    refine gc_seq ?_
    refine gc_seq ?_
    refine gc_region ?_
    refine ne (eo_as rfl rfl) rfl ?_
    refine go_nil ?_
    refine gq_next ?_
    refine gc_block ?_
    refine loop2 (fun (k : Nat) (s : AS) => k ≤ n ∧ s.Ok 1 k (tab k (bv (rClF ⟨W, H, n, f⟩ rx ry)))) (fun (k : Nat) (s : AS) => n - k) (fun (k : Nat) (s : AS) => [(1, .int .i64 rx), (2, .int .i64 ry), (3, .pointer (some ⟨g3, 0, none⟩)), (6, .pointer (some ⟨g6, 0, none⟩)), (9, .pointer (some ⟨g9, 0, none⟩)), (10, .int .i64 (k : Int))]) (fun (k : Nat) (s : AS) => ⟨g9, 24, [.int .i64 W, .int .i64 H, s.val k]⟩ :: ⟨g6, 24, [.int .i64 0, .int .i64 0, .slice none 0 0]⟩ :: ⟨g3, 24, [.int .i64 W, .int .i64 H, .slice A n c]⟩ :: s.blks 4 (tab k (bv (rClF ⟨W, H, n, f⟩ rx ry)))) 0 .nil ⟨by omega, AS.Ok0⟩ ⟨rfl, rfl, rfl, rfl, rfl, rfl, trivial⟩ (List.Sublist.refl _) ?_
    rintro k s ⟨hk, hs⟩
    refine gc_seq ?_
    refine gc_seq ?_
    refine gc_region ?_
    refine ne (eo_mv rfl rfl) rfl ?_
    refine ne (eo_field rfl f24_2 rfl) rfl ?_
    refine ne (eo_load 2 rfl s22 rfl rfl rfl rfl) rfl ?_
    refine ne (eo_len rfl Try.underlying22 rfl) rfl ?_
    refine ne (eo_lss rfl rfl rfl) rfl ?_
    refine go_nil ?_
    refine gq_next ?_
    refine gc_cond rfl (fun hc1 => ?_) (fun hc1 => ?_)
    ·
      replace hc1 := of_decide_eq_true hc1
      have hcb := cell_bd hv (show k < n by omega)
      refine gc_skip ?_
      refine gq_next ?_
      refine gc_seq ?_
      refine gc_block ?_
      refine gc_draw [] [0, 1, 2, 3, 4, 5, 6, 7, 8, 9, 10, 11, 12, 13] [14] [15, 16, 17] (by kernel_rfl) (by kernel_rfl) ?_
      refine gp_nil ?_
      refine de rfl (eo_field rfl f24_2 rfl) rfl ?_
      refine de rfl (eo_load 0 rfl s22 rfl rfl rfl rfl) rfl ?_
      refine de rfl (eo_loadA 2 rfl a24 rfl rfl rfl rfl) rfl ?_
      refine de rfl (eo_mv rfl rfl) rfl ?_
      refine de rfl (eo_field rfl f24_0 rfl) rfl ?_
      refine de rfl (eo_load 2 rfl s3 rfl rfl rfl rfl) rfl ?_
      refine de rfl (eo_rem rfl rfl rfl (by omega) (by omega)) rfl ?_
      refine de rfl (eo_mv rfl rfl) rfl ?_
      refine de rfl (eo_field rfl f24_0 rfl) rfl ?_
      refine de rfl (eo_load 2 rfl s3 rfl rfl rfl rfl) rfl ?_
      refine de rfl (eo_quo rfl rfl rfl (by omega) (by omega) (by omega)) rfl ?_
      refine de rfl (eo_mv rfl rfl) rfl ?_
      refine de rfl (eo_mv rfl rfl) rfl ?_
      refine de rfl (eo_call rfl en43 rfl (fun W1 hO => near_c _ _ _ _ _ _ _ _ _ _ W1 (hr.old0 hO) (by assumption) (by omega) (by omega) (by omega) (by omega) (by omega) (by omega) (by omega) (by omega))) rfl ?_
      refine ge_nil ?_
      refine da rfl (xo_lit1 rfl Try.underlying22 e4 rfl (by first | rfl | exact AS.one)) rfl ?_
      rintro _ _ ⟨g45, rfl, rfl⟩
      refine ⟨by first | exact (List.Sublist.cons _ (List.Sublist.refl _)) | exact (List.sublist_append_left _ _), ?_⟩
      refine ga_nil ?_
      refine ix rfl (xo_app1b 4 rfl rfl Try.underlying22 e4 rfl hs rfl rfl rfl (by omega)) rfl ?_
      rintro _ _ ⟨s46, hs46, rfl, rfl⟩
      refine ie rfl (eo_field rfl f24_2 rfl) rfl ?_
      refine iu rfl (xo_store 1 rfl s22 rfl rfl (by first | rfl | exact AS.one) rfl rfl (by simp)) ?_
      rintro _ _ ⟨rfl, rfl⟩
      refine gi_nil ?_
      refine gq_nq ?_
      refine gq_block_end ?_
      refine gq_next ?_
      refine gc_region ?_
      refine ne (eo_mv rfl rfl) rfl ?_
      refine ne (eo_add rfl rfl rfl (by omega) (by omega)) rfl ?_
      refine ne (eo_as rfl rfl) rfl ?_
      refine go_nil ?_
      exact round2 (k + 1) s46 ⟨by omega, hs46⟩ (by omega) ⟨rfl, rfl, rfl, rfl, rfl, rfl, trivial⟩ (List.Sublist.cons _ (List.Sublist.refl _))
    ·
      replace hc1 := of_decide_eq_false hc1
      refine gc_exit ?_
      refine gq_then_exit ?_
      refine gq_then_exit ?_
      refine gq_block_hit ?_
      refine gq_next ?_
      refine gc_seq ?_
      refine gc_region ?_
      refine ne (eo_loadA 0 rfl a24 rfl rfl rfl rfl) rfl ?_
      refine nu (xo_storeA 1 rfl a24 rfl rfl (ones_cons (by first | rfl | exact AS.one) (ones_cons (by first | rfl | exact AS.one) (ones_cons (by first | rfl | exact AS.one) ones_nil))) rfl rfl rfl rfl) ?_
      rintro _ _ ⟨rfl, rfl⟩
      refine ne (eo_as rfl rfl) rfl ?_
      refine go_nil ?_
      refine gq_next ?_
      refine gc_ret ?_
      refine gq_results (resCT 1 rfl a24 rfl rfl rfl rfl rfl) ?_
      have hkn : n = k := by omega
      subst hkn
      exact fun W1 hO => rx_as 3 hO rfl hs (if_pos (Decidable.not_not.1 hc0))

/-- barscan/barscanref37.Majority -/
theorem rmaj_x (W H : Int) (A : Option Addr) (n c : Nat) (f : Nat → Bool) (r : Int) (w : World) (hr : Rd w A (tab n (bv f)))  :
    Calls Try.prog 23 #[.agg #[.int .i64 W, .int .i64 H, .slice A n c], .int .i64 r] w (fun e w' => ∃ v Hn, e = .returned v ∧ RX (rmajR ⟨W, H, n, f⟩ r) v Hn ∧ Ow [] w w' Hn) := by
  refine calls_enter (N := ⟨52, []⟩) [] ([]) Try.func23 rfl rfl rfl (Ow.start _) ?_
  refine gc_seq ?_
  refine gc_region ?_
  refine nx (xo_boxA rfl rfl) rfl ?_
  rintro _ _ ⟨g2, rfl, rfl⟩
  refine nx (xo_alloc rfl z24) rfl ?_
  rintro _ _ ⟨g4, rfl, rfl⟩
  refine ne (eo_as rfl rfl) rfl ?_
  refine go_nil ?_
  refine gq_next ?_
  refine gc_seq ?_
  refine gc_region ?_
  refine ne (eo_loadA 1 rfl a24 rfl rfl rfl rfl) rfl ?_
  refine ne (eo_mv rfl rfl) rfl ?_
  refine ne (eo_mv rfl rfl) rfl ?_
  refine ne (eo_call rfl en34 rfl (fun W1 hO => rmcheck_c _ _ _ _ _ _ _ _ W1 (hr.old0 hO) )) rfl ?_
  refine ne (eo_as rfl rfl) rfl ?_
  refine go_nil ?_
  refine gq_next ?_
  refine gc_seq ?_
  refine gc_seq ?_
  refine gc_region ?_
  refine ne (eo_mv rfl rfl) rfl ?_
  refine ne (eo_neq rfl rfl rfl) rfl ?_
  refine go_nil ?_
  refine gq_next ?_
  refine gc_cond rfl (fun hc0 => ?_) (fun hc0 => ?_)
  ·
    replace hc0 := of_decide_eq_true hc0
    refine gc_seq ?_
    refine gc_region ?_
    refine ne (eo_build rfl rfl (b24_)) rfl ?_
    refine ne (eo_mv rfl rfl) rfl ?_
    refine nu (xo_storeA 0 rfl a24 rfl rfl (ones_cons (by first | rfl | exact AS.one) (ones_cons (by first | rfl | exact AS.one) (ones_cons (by first | rfl | exact AS.one) ones_nil))) rfl rfl rfl rfl) ?_
    rintro _ _ ⟨rfl, rfl⟩
    refine ne (eo_as rfl rfl) rfl ?_
    refine go_nil ?_
    refine gq_next ?_
    refine gc_ret ?_
    refine gq_then_ret ?_
    refine gq_results (resCT 0 rfl a24 rfl rfl rfl rfl rfl) ?_
    exact fun W1 hO => rx_nil hO (if_neg hc0)
  ·
    replace hc0 := of_decide_eq_false hc0
    obtain ⟨hv, r1, r2, r3, r4⟩ := mchk_zero (Decidable.not_not.1 hc0)
    obtain ⟨v1, v2, v3, v4, v5, v6⟩ := vldB_iff.1 hv
    have v7 := vld_pos hv
    refine gc_skip ?_
    refine gq_next ?_
    refine gc_seq ?_
    refine gc_region ?_
    refine ne (eo_field rfl f24_0 rfl) rfl ?_
    refine ne (eo_load 1 rfl s3 rfl rfl rfl rfl) rfl ?_
    refine ne (eo_field rfl f24_1 rfl) rfl ?_
    refine ne (eo_load 1 rfl s3 rfl rfl rfl rfl) rfl ?_
    refine ne (eo_build rfl rfl (b24_01 _ _)) rfl ?_
    refine nx (xo_alloc rfl z24) rfl ?_
    rintro _ _ ⟨g7, rfl, rfl⟩
    refine nu (xo_storeA 0 rfl a24 rfl rfl (ones_cons (by first | rfl | exact AS.one) (ones_cons (by first | rfl | exact AS.one) (ones_cons (by first | rfl | exact AS.one) ones_nil))) rfl rfl rfl rfl) ?_
    rintro _ _ ⟨rfl, rfl⟩
    refine go_nil ?_
    refine gq_next ?_
    refine gc_seq ?_
    refine gc_seq ?_
    refine gc_region ?_
    refine ne (eo_as rfl rfl) rfl ?_
    refine go_nil ?_
    refine gq_next ?_
    refine gc_block ?_
    refine loop2 (fun (k : Nat) (s : AS) => k ≤ n ∧ s.Ok 1 k (tab k (bv (rMaF ⟨W, H, n, f⟩ r)))) (fun (k : Nat) (s : AS) => n - k) (fun (k : Nat) (s : AS) => [(1, .int .i64 r), (2, .pointer (some ⟨g2, 0, none⟩)), (4, .pointer (some ⟨g4, 0, none⟩)), (7, .pointer (some ⟨g7, 0, none⟩)), (8, .int .i64 (k : Int))]) (fun (k : Nat) (s : AS) => ⟨g7, 24, [.int .i64 W, .int .i64 H, s.val k]⟩ :: ⟨g4, 24, [.int .i64 0, .int .i64 0, .slice none 0 0]⟩ :: ⟨g2, 24, [.int .i64 W, .int .i64 H, .slice A n c]⟩ :: s.blks 4 (tab k (bv (rMaF ⟨W, H, n, f⟩ r)))) 0 .nil ⟨by omega, AS.Ok0⟩ ⟨rfl, rfl, rfl, rfl, rfl, trivial⟩ (List.Sublist.refl _) ?_
    rintro k s ⟨hk, hs⟩
    refine gc_seq ?_
    refine gc_seq ?_
    refine gc_region ?_
    refine ne (eo_mv rfl rfl) rfl ?_
    refine ne (eo_field rfl f24_2 rfl) rfl ?_
    refine ne (eo_load 2 rfl s22 rfl rfl rfl rfl) rfl ?_
    refine ne (eo_len rfl Try.underlying22 rfl) rfl ?_
    refine ne (eo_lss rfl rfl rfl) rfl ?_
    refine go_nil ?_
    refine gq_next ?_
    refine gc_cond rfl (fun hc1 => ?_) (fun hc1 => ?_)
    ·
      replace hc1 := of_decide_eq_true hc1
      have hcb := cell_bd hv (show k < n by omega)
      have hcq := cnt_le (f := f) (W := W) (H := H) (x := (k : Int) % W) (y := (k : Int) / W) (rx := r) (ry := r) (by omega) (by omega) (by omega) (by omega)
      refine gc_skip ?_
      refine gq_next ?_
      refine gc_seq ?_
      refine gc_block ?_
      refine gc_draw [] [0, 1, 2, 3, 4, 5, 6, 7, 8, 9, 10, 11, 12, 13, 14, 15, 16, 17, 18] [19] [20, 21, 22] (by kernel_rfl) (by kernel_rfl) ?_
      refine gp_nil ?_
      refine de rfl (eo_field rfl f24_2 rfl) rfl ?_
      refine de rfl (eo_load 0 rfl s22 rfl rfl rfl rfl) rfl ?_
      refine de rfl (eo_loadA 2 rfl a24 rfl rfl rfl rfl) rfl ?_
      refine de rfl (eo_mv rfl rfl) rfl ?_
      refine de rfl (eo_field rfl f24_0 rfl) rfl ?_
      refine de rfl (eo_load 2 rfl s3 rfl rfl rfl rfl) rfl ?_
      refine de rfl (eo_rem rfl rfl rfl (by omega) (by omega)) rfl ?_
      refine de rfl (eo_mv rfl rfl) rfl ?_
      refine de rfl (eo_field rfl f24_0 rfl) rfl ?_
      refine de rfl (eo_load 2 rfl s3 rfl rfl rfl rfl) rfl ?_
      refine de rfl (eo_quo rfl rfl rfl (by omega) (by omega) (by omega)) rfl ?_
      refine de rfl (eo_mv rfl rfl) rfl ?_
      refine de rfl (eo_mv rfl rfl) rfl ?_
      refine de rfl (eo_call rfl en35 rfl (fun W1 hO => count_c _ _ _ _ _ _ _ _ _ _ W1 (hr.old0 hO) (by assumption) (by omega) (by omega) (by omega) (by omega) (by omega) (by omega) (by omega) (by omega))) rfl ?_
      refine de rfl (eo_mul rfl rfl rfl (by omega) (by omega)) rfl ?_
      refine de rfl (eo_mv rfl rfl) rfl ?_
      refine de rfl (eo_mv rfl rfl) rfl ?_
      refine de rfl (eo_call rfl en36 rfl (fun W1 hO => area_c _ _ W1  (by omega) (by omega) (by omega) (by omega))) rfl ?_
      refine de rfl (eo_gtr rfl rfl rfl) rfl ?_
      refine ge_nil ?_
      refine da rfl (xo_lit1 rfl Try.underlying22 e4 rfl (by first | rfl | exact AS.one)) rfl ?_
      rintro _ _ ⟨g48, rfl, rfl⟩
      refine ⟨by first | exact (List.Sublist.cons _ (List.Sublist.refl _)) | exact (List.sublist_append_left _ _), ?_⟩
      refine ga_nil ?_
      refine ix rfl (xo_app1b 4 rfl rfl Try.underlying22 e4 rfl hs rfl rfl rfl (by omega)) rfl ?_
      rintro _ _ ⟨s49, hs49, rfl, rfl⟩
      refine ie rfl (eo_field rfl f24_2 rfl) rfl ?_
      refine iu rfl (xo_store 1 rfl s22 rfl rfl (by first | rfl | exact AS.one) rfl rfl (by simp)) ?_
      rintro _ _ ⟨rfl, rfl⟩
      refine gi_nil ?_
      refine gq_nq ?_
      refine gq_block_end ?_
      refine gq_next ?_
      refine gc_region ?_
      refine ne (eo_mv rfl rfl) rfl ?_
      refine ne (eo_add rfl rfl rfl (by omega) (by omega)) rfl ?_
      refine ne (eo_as rfl rfl) rfl ?_
      refine go_nil ?_
      exact round2 (k + 1) s49 ⟨by omega, hs49⟩ (by omega) ⟨rfl, rfl, rfl, rfl, rfl, trivial⟩ (List.Sublist.cons _ (List.Sublist.refl _))
    ·
      replace hc1 := of_decide_eq_false hc1
      refine gc_exit ?_
      refine gq_then_exit ?_
      refine gq_then_exit ?_
      refine gq_block_hit ?_
      refine gq_next ?_
      refine gc_seq ?_
      refine gc_region ?_
      refine ne (eo_loadA 0 rfl a24 rfl rfl rfl rfl) rfl ?_
      refine nu (xo_storeA 1 rfl a24 rfl rfl (ones_cons (by first | rfl | exact AS.one) (ones_cons (by first | rfl | exact AS.one) (ones_cons (by first | rfl | exact AS.one) ones_nil))) rfl rfl rfl rfl) ?_
      rintro _ _ ⟨rfl, rfl⟩
      refine ne (eo_as rfl rfl) rfl ?_
      refine go_nil ?_
      refine gq_next ?_
      refine gc_ret ?_
      refine gq_results (resCT 1 rfl a24 rfl rfl rfl rfl rfl) ?_
      have hkn : n = k := by omega
      subst hkn
      exact fun W1 hO => rx_as 3 hO rfl hs (if_pos (Decidable.not_not.1 hc0))

/-- barscan/barscanref37.Open -/
theorem ropen_x (W H : Int) (A : Option Addr) (n c : Nat) (f : Nat → Bool) (rx : Int) (ry : Int) (w : World) (hr : Rd w A (tab n (bv f)))  :
    Calls Try.prog 19 #[.agg #[.int .i64 W, .int .i64 H, .slice A n c], .int .i64 rx, .int .i64 ry] w (fun e w' => ∃ v Hn, e = .returned v ∧ RX (ropenR ⟨W, H, n, f⟩ rx ry) v Hn ∧ Ow [] w w' Hn) := by
  refine calls_enter (N := ⟨27, []⟩) [] ([]) Try.func19 rfl rfl rfl (Ow.start _) ?_
  refine gc_seq ?_
  refine gc_region ?_
  refine nx (xo_boxA rfl rfl) rfl ?_
  rintro _ _ ⟨g3, rfl, rfl⟩
  refine nx (xo_alloc rfl z24) rfl ?_
  rintro _ _ ⟨g6, rfl, rfl⟩
  refine ne (eo_as rfl rfl) rfl ?_
  refine go_nil ?_
  refine gq_next ?_
  refine gc_seq ?_
  refine gc_region ?_
  refine ne (eo_loadA 1 rfl a24 rfl rfl rfl rfl) rfl ?_
  refine ne (eo_mv rfl rfl) rfl ?_
  refine ne (eo_mv rfl rfl) rfl ?_
  refine nx (xo_freshT rfl en13 rfl (fun W1 hO => rerode_x _ _ _ _ _ _ _ _ W1 (hr.old0 hO) )) rfl ?_
  rintro _ _ ⟨S14, ⟨A14, k14, rfl, hk14, hS14⟩, rfl⟩
  refine ne (eo_mv rfl rfl) rfl ?_
  refine ne (eo_extract rfl rfl rfl) rfl ?_
  refine ne (eo_extract rfl rfl rfl) rfl ?_
  refine nx (xo_alloc rfl z24) rfl ?_
  rintro _ _ ⟨g8, rfl, rfl⟩
  refine nu (xo_storeA 0 rfl a24 rfl rfl (ones_cons (by first | rfl | exact AS.one) (ones_cons (by first | rfl | exact AS.one) (ones_cons (by first | rfl | exact AS.one) ones_nil))) rfl rfl rfl rfl) ?_
  rintro _ _ ⟨rfl, rfl⟩
  refine ne (eo_as rfl rfl) rfl ?_
  refine go_nil ?_
  refine gq_next ?_
  refine gc_seq ?_
  refine gc_seq ?_
  refine gc_region ?_
  refine ne (eo_mv rfl rfl) rfl ?_
  refine ne (eo_neq rfl rfl rfl) rfl ?_
  refine go_nil ?_
  refine gq_next ?_
  refine gc_cond rfl (fun hc0 => ?_) (fun hc0 => ?_)
  ·
    replace hc0 := of_decide_eq_true hc0
    refine gc_seq ?_
    refine gc_region ?_
    refine ne (eo_build rfl rfl (b24_)) rfl ?_
    refine ne (eo_mv rfl rfl) rfl ?_
    refine nu (xo_storeA 1 rfl a24 rfl rfl (ones_cons (by first | rfl | exact AS.one) (ones_cons (by first | rfl | exact AS.one) (ones_cons (by first | rfl | exact AS.one) ones_nil))) rfl rfl rfl rfl) ?_
    rintro _ _ ⟨rfl, rfl⟩
    refine ne (eo_as rfl rfl) rfl ?_
    refine go_nil ?_
    refine gq_next ?_
    refine gc_ret ?_
    refine gq_then_ret ?_
    refine gq_results (resCT 1 rfl a24 rfl rfl rfl rfl rfl) ?_
    exact fun W1 hO => rx_nil hO (if_neg hc0)
  ·
    replace hc0 := of_decide_eq_false hc0
    refine gc_skip ?_
    refine gq_next ?_
    refine gc_seq ?_
    refine gc_region ?_
    refine ne (eo_loadA 0 rfl a24 rfl rfl rfl rfl) rfl ?_
    refine ne (eo_mv rfl rfl) rfl ?_
    refine ne (eo_mv rfl rfl) rfl ?_
    refine nx (xo_freshT rfl en15 rfl (fun W1 hO => rdilate_x _ _ _ _ _ _ _ _ W1 (hS14.rd (hO.tl 3 rfl (List.Sublist.refl _))) )) rfl ?_
    rintro _ _ ⟨S24, ⟨A24, k24, rfl, hk24, hS24⟩, rfl⟩
    refine ne (eo_extract rfl rfl rfl) rfl ?_
    refine ne (eo_extract rfl rfl rfl) rfl ?_
    refine nu (xo_storeA 1 rfl a24 rfl rfl (ones_cons (by first | rfl | exact AS.one) (ones_cons (by first | rfl | exact AS.one) (ones_cons (by first | rfl | exact AS.one) ones_nil))) rfl rfl rfl rfl) ?_
    rintro _ _ ⟨rfl, rfl⟩
    refine ne (eo_as rfl rfl) rfl ?_
    refine go_nil ?_
    refine gq_next ?_
    refine gc_ret ?_
    refine gq_results (resCT 1 rfl a24 rfl rfl rfl rfl rfl) ?_
    exact fun W1 hO => rx_pass (hO.tl 3 rfl (List.sublist_append_right _ _)) hk24 hS24 (if_pos (Decidable.not_not.1 hc0))

/-- barscan/barscanref37.Outline -/
theorem routl_x (W H : Int) (A : Option Addr) (n c : Nat) (f : Nat → Bool) (w : World) (hr : Rd w A (tab n (bv f)))  :
    Calls Try.prog 25 #[.agg #[.int .i64 W, .int .i64 H, .slice A n c]] w (fun e w' => ∃ v Hn, e = .returned v ∧ RX (outlR ⟨W, H, n, f⟩) v Hn ∧ Ow [] w w' Hn) := by
  refine calls_enter (N := ⟨77, []⟩) [] ([]) Try.func25 rfl rfl rfl (Ow.start _) ?_
  refine gc_seq ?_
  refine gc_region ?_
  refine nx (xo_boxA rfl rfl) rfl ?_
  rintro _ _ ⟨g1, rfl, rfl⟩
  refine nx (xo_alloc rfl z24) rfl ?_
  rintro _ _ ⟨g2, rfl, rfl⟩
  refine ne (eo_as rfl rfl) rfl ?_
  refine go_nil ?_
  refine gq_next ?_
  refine gc_seq ?_
  refine gc_region ?_
  refine ne (eo_loadA 1 rfl a24 rfl rfl rfl rfl) rfl ?_
  refine ne (eo_call rfl en34 rfl (fun W1 hO => rmcheck_c _ _ _ _ _ _ _ _ W1 (hr.old0 hO) )) rfl ?_
  refine ne (eo_as rfl rfl) rfl ?_
  refine go_nil ?_
  refine gq_next ?_
  refine gc_seq ?_
  refine gc_seq ?_
  refine gc_region ?_
  refine ne (eo_mv rfl rfl) rfl ?_
  refine ne (eo_neq rfl rfl rfl) rfl ?_
  refine go_nil ?_
  refine gq_next ?_
  refine gc_cond rfl (fun hc0 => ?_) (fun hc0 => ?_)
  ·
    replace hc0 := of_decide_eq_true hc0
    refine gc_seq ?_
    refine gc_region ?_
    refine ne (eo_build rfl rfl (b24_)) rfl ?_
    refine ne (eo_mv rfl rfl) rfl ?_
    refine nu (xo_storeA 0 rfl a24 rfl rfl (ones_cons (by first | rfl | exact AS.one) (ones_cons (by first | rfl | exact AS.one) (ones_cons (by first | rfl | exact AS.one) ones_nil))) rfl rfl rfl rfl) ?_
    rintro _ _ ⟨rfl, rfl⟩
    refine ne (eo_as rfl rfl) rfl ?_
    refine go_nil ?_
    refine gq_next ?_
    refine gc_ret ?_
    refine gq_then_ret ?_
    refine gq_results (resCT 0 rfl a24 rfl rfl rfl rfl rfl) ?_
    exact fun W1 hO => rx_nil hO (by rw [← outl_err hc0]; exact outlR_no (mchk_bad hc0))
  ·
    replace hc0 := of_decide_eq_false hc0
    obtain ⟨hv, r1, r2, r3, r4⟩ := mchk_zero (Decidable.not_not.1 hc0)
    obtain ⟨v1, v2, v3, v4, v5, v6⟩ := vldB_iff.1 hv
    have v7 := vld_pos hv
    refine gc_skip ?_
    refine gq_next ?_
    refine gc_seq ?_
    refine gc_region ?_
    refine ne (eo_field rfl f24_0 rfl) rfl ?_
    refine ne (eo_load 1 rfl s3 rfl rfl rfl rfl) rfl ?_
    refine ne (eo_field rfl f24_1 rfl) rfl ?_
    refine ne (eo_load 1 rfl s3 rfl rfl rfl rfl) rfl ?_
    refine ne (eo_build rfl rfl (b24_01 _ _)) rfl ?_
    refine nx (xo_alloc rfl z24) rfl ?_
    rintro _ _ ⟨g5, rfl, rfl⟩
    refine nu (xo_storeA 0 rfl a24 rfl rfl (ones_cons (by first | rfl | exact AS.one) (ones_cons (by first | rfl | exact AS.one) (ones_cons (by first | rfl | exact AS.one) ones_nil))) rfl rfl rfl rfl) ?_
    rintro _ _ ⟨rfl, rfl⟩
    refine go_nil ?_
    refine gq_next ?_
    refine gc_seq ?_
    refine gc_seq ?_
    refine gc_region ?_
    refine ne (eo_as rfl rfl) rfl ?_
    refine go_nil ?_
    refine gq_next ?_
    refine gc_block ?_
    refine loop2 (fun (k : Nat) (s : AS) => k ≤ n ∧ s.Ok 1 k (tab k (bv (outlF ⟨W, H, n, f⟩)))) (fun (k : Nat) (s : AS) => n - k) (fun (k : Nat) (s : AS) => [(1, .pointer (some ⟨g1, 0, none⟩)), (2, .pointer (some ⟨g2, 0, none⟩)), (5, .pointer (some ⟨g5, 0, none⟩)), (6, .int .i64 (k : Int))]) (fun (k : Nat) (s : AS) => ⟨g5, 24, [.int .i64 W, .int .i64 H, s.val k]⟩ :: ⟨g2, 24, [.int .i64 0, .int .i64 0, .slice none 0 0]⟩ :: ⟨g1, 24, [.int .i64 W, .int .i64 H, .slice A n c]⟩ :: s.blks 4 (tab k (bv (outlF ⟨W, H, n, f⟩)))) 0 .nil ⟨by omega, AS.Ok0⟩ ⟨rfl, rfl, rfl, rfl, trivial⟩ (List.Sublist.refl _) ?_
    rintro k s ⟨hk, hs⟩
    refine gc_seq ?_
    refine gc_seq ?_
    refine gc_region ?_
    refine ne (eo_mv rfl rfl) rfl ?_
    refine ne (eo_field rfl f24_2 rfl) rfl ?_
    refine ne (eo_load 2 rfl s22 rfl rfl rfl rfl) rfl ?_
    refine ne (eo_len rfl Try.underlying22 rfl) rfl ?_
    refine ne (eo_lss rfl rfl rfl) rfl ?_
    refine go_nil ?_
    refine gq_next ?_
    refine gc_cond rfl (fun hc1 => ?_) (fun hc1 => ?_)
    ·
      replace hc1 := of_decide_eq_true hc1
      have hcb := cell_bd hv (show k < n by omega)
      refine gc_skip ?_
      refine gq_next ?_
      refine gc_seq ?_
      refine gc_block ?_
      refine gc_seq ?_
      refine gc_region ?_
      refine ne (eo_mv rfl rfl) rfl ?_
      refine ne (eo_field rfl f24_0 rfl) rfl ?_
      refine ne (eo_load 2 rfl s3 rfl rfl rfl rfl) rfl ?_
      refine ne (eo_rem rfl rfl rfl (by omega) (by omega)) rfl ?_
      refine ne (eo_as rfl rfl) rfl ?_
      refine go_nil ?_
      refine gq_next ?_
      refine gc_seq ?_
      refine gc_region ?_
      refine ne (eo_mv rfl rfl) rfl ?_
      refine ne (eo_field rfl f24_0 rfl) rfl ?_
      refine ne (eo_load 2 rfl s3 rfl rfl rfl rfl) rfl ?_
      refine ne (eo_quo rfl rfl rfl (by omega) (by omega) (by omega)) rfl ?_
      refine ne (eo_as rfl rfl) rfl ?_
      refine go_nil ?_
      refine gq_next ?_
      refine gc_seq ?_
      refine gc_region ?_
      refine ne (eo_loadA 2 rfl a24 rfl rfl rfl rfl) rfl ?_
      refine ne (eo_mv rfl rfl) rfl ?_
      refine ne (eo_sub rfl rfl rfl (by omega) (by omega)) rfl ?_
      refine ne (eo_mv rfl rfl) rfl ?_
      refine ne (eo_call rfl en46 rfl (fun W1 hO => rat_c _ _ _ _ _ _ _ _ W1 (hr.old0 hO) )) rfl ?_
      refine ne (eo_mv rfl rfl) rfl ?_
      refine ng rfl rfl (fun h => eo_loadA 2 rfl a24 rfl rfl rfl rfl) rfl ?_
      refine ng rfl rfl (fun h => eo_mv rfl rfl) rfl ?_
      refine ng rfl rfl (fun h => eo_add rfl (ev_if h rfl) rfl (by omega) (by omega)) rfl ?_
      refine ng rfl rfl (fun h => eo_mv rfl rfl) rfl ?_
      refine ng rfl rfl (fun h => eo_call rfl en46 (evs_cons (ev_if h rfl) (evs_cons (ev_if h rfl) (evs_cons (ev_if h rfl) evs_nil))) (fun W1 hO => rat_c _ _ _ _ _ _ _ _ W1 (hr.old0 hO) )) rfl ?_
      refine ne (eo_and rfl rfl (fun hb => ev_if hb rfl)) rfl ?_
      refine ne (eo_mv rfl rfl) rfl ?_
      refine ng rfl rfl (fun h => eo_loadA 2 rfl a24 rfl rfl rfl rfl) rfl ?_
      refine ng rfl rfl (fun h => eo_mv rfl rfl) rfl ?_
      refine ng rfl rfl (fun h => eo_mv rfl rfl) rfl ?_
      refine ng rfl rfl (fun h => eo_sub rfl (ev_if h rfl) rfl (by have hg0 := (and_t h).imp (fun h => h) (fun h => h); omega) (by have hg0 := (and_t h).imp (fun h => h) (fun h => h); omega)) rfl ?_
      refine ng rfl rfl (fun h => eo_call rfl en46 (evs_cons (ev_if h rfl) (evs_cons (ev_if h rfl) (evs_cons (ev_if h rfl) evs_nil))) (fun W1 hO => rat_c _ _ _ _ _ _ _ _ W1 (hr.old0 hO) )) rfl ?_
      refine ne (eo_and rfl rfl (fun hb => ev_if hb rfl)) rfl ?_
      refine ne (eo_mv rfl rfl) rfl ?_
      refine ng rfl rfl (fun h => eo_loadA 2 rfl a24 rfl rfl rfl rfl) rfl ?_
      refine ng rfl rfl (fun h => eo_mv rfl rfl) rfl ?_
      refine ng rfl rfl (fun h => eo_mv rfl rfl) rfl ?_
      refine ng rfl rfl (fun h => eo_add rfl (ev_if h rfl) rfl (by have hg0 := (and_t h).imp (fun h => (and_t h).imp (fun h => h) (fun h => h)) (fun h => h); omega) (by have hg0 := (and_t h).imp (fun h => (and_t h).imp (fun h => h) (fun h => h)) (fun h => h); omega)) rfl ?_
      refine ng rfl rfl (fun h => eo_call rfl en46 (evs_cons (ev_if h rfl) (evs_cons (ev_if h rfl) (evs_cons (ev_if h rfl) evs_nil))) (fun W1 hO => rat_c _ _ _ _ _ _ _ _ W1 (hr.old0 hO) )) rfl ?_
      refine ne (eo_and rfl rfl (fun hb => ev_if hb rfl)) rfl ?_
      refine ne (eo_as rfl rfl) rfl ?_
      refine go_nil ?_
      refine gq_next ?_
      refine gc_draw [] [0, 1, 2, 3, 4, 5, 6, 7, 8, 9, 10] [11] [12, 13, 14] (by kernel_rfl) (by kernel_rfl) ?_
      refine gp_nil ?_
      refine de rfl (eo_field rfl f24_2 rfl) rfl ?_
      refine de rfl (eo_load 0 rfl s22 rfl rfl rfl rfl) rfl ?_
      refine de rfl (eo_field rfl f24_2 rfl) rfl ?_
      refine de rfl (eo_load 2 rfl s22 rfl rfl rfl rfl) rfl ?_
      refine de rfl (eo_mv rfl rfl) rfl ?_
      refine de rfl (eo_indexR rfl sl22 rfl rfl hr (by simp) (by omega) (by omega)) rfl ?_
      refine de rfl (eo_load_old rfl s4 rfl (Rd.tabb hr (by omega)) (by simp)) rfl ?_
      refine de rfl (eo_mv rfl rfl) rfl ?_
      refine dg rfl rfl rfl (fun h => eo_mv rfl rfl) rfl ?_
      refine dg rfl rfl rfl (fun h => eo_not rfl (ev_if h rfl)) rfl ?_
      refine de rfl (eo_and rfl rfl (fun hb => ev_if hb rfl)) rfl ?_
      refine ge_nil ?_
      refine da rfl (xo_lit1 rfl Try.underlying22 e4 rfl (by first | rfl | exact AS.one)) rfl ?_
      rintro _ _ ⟨g73, rfl, rfl⟩
      refine ⟨by first | exact (List.Sublist.cons _ (List.Sublist.refl _)) | exact (List.sublist_append_left _ _), ?_⟩
      refine ga_nil ?_
      refine ix rfl (xo_app1b 4 rfl rfl Try.underlying22 e4 rfl hs rfl rfl rfl (by omega)) rfl ?_
      rintro _ _ ⟨s74, hs74, rfl, rfl⟩
      refine ie rfl (eo_field rfl f24_2 rfl) rfl ?_
      refine iu rfl (xo_store 1 rfl s22 rfl rfl (by first | rfl | exact AS.one) rfl rfl (by simp)) ?_
      rintro _ _ ⟨rfl, rfl⟩
      refine gi_nil ?_
      refine gq_nq ?_
      refine gq_block_end ?_
      refine gq_next ?_
      refine gc_region ?_
      refine ne (eo_mv rfl rfl) rfl ?_
      refine ne (eo_add rfl rfl rfl (by omega) (by omega)) rfl ?_
      refine ne (eo_as rfl rfl) rfl ?_
      refine go_nil ?_
      exact round2 (k + 1) s74 ⟨by omega, hs74⟩ (by omega) ⟨rfl, rfl, rfl, rfl, trivial⟩ (List.Sublist.cons _ (List.Sublist.refl _))
    ·
      replace hc1 := of_decide_eq_false hc1
      refine gc_exit ?_
      refine gq_then_exit ?_
      refine gq_then_exit ?_
      refine gq_block_hit ?_
      refine gq_next ?_
      refine gc_seq ?_
      refine gc_region ?_
      refine ne (eo_loadA 0 rfl a24 rfl rfl rfl rfl) rfl ?_
      refine nu (xo_storeA 1 rfl a24 rfl rfl (ones_cons (by first | rfl | exact AS.one) (ones_cons (by first | rfl | exact AS.one) (ones_cons (by first | rfl | exact AS.one) ones_nil))) rfl rfl rfl rfl) ?_
      rintro _ _ ⟨rfl, rfl⟩
      refine ne (eo_as rfl rfl) rfl ?_
      refine go_nil ?_
      refine gq_next ?_
      refine gc_ret ?_
      refine gq_results (resCT 1 rfl a24 rfl rfl rfl rfl rfl) ?_
      have hkn : n = k := by omega
      subst hkn
      exact fun W1 hO => rx_as 3 hO rfl hs (outlR_ok hv)

end Go.Proofs.Ytmkdfbaklookdaa
