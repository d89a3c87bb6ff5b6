/-
  The walks of the functions of package printing and of the document's answer (part D): what each call returns, at every argument.
-/
import Derived.Test.YtibooikbbcilcaaWC
namespace Go.Proofs.Ytibooikbbcilcaa
open Go.RowKit Go.Eng

open Go.Bs
theorem f38_0 : FieldAt Try.prog 38 0 0 := ⟨_, _, 0, Try.underlying38, rfl, by kernel_rfl, rfl⟩
theorem f38_1 : FieldAt Try.prog 38 1 1 := ⟨_, _, 0, Try.underlying38, rfl, by kernel_rfl, rfl⟩
theorem a38 : TyA Try.prog 38 2 := ⟨⟨_, Try.underlying38, rfl⟩, by kernel_rfl⟩
theorem en36 : Ent Try.prog 36 := ent_of Try.func36 (by kernel_rfl) rfl
theorem en38 : Ent Try.prog 38 := ent_of Try.func38 (by kernel_rfl) rfl
theorem en43 : Ent Try.prog 43 := ent_of Try.func43 (by kernel_rfl) rfl
theorem b33_01 (x0 : Int) (x1 : Int) (W : World) : (Instr.build 33 #[(0, .int .i64 x0), (1, .int .i64 x1)]).run Try.prog W = .ok (.agg #[.int .i64 x0, .int .i64 x1, .slice none 0 0]) W := by kernel_rfl
theorem en44 : Ent Try.prog 44 := ent_of Try.func44 (by kernel_rfl) rfl

/-- barscan/printing.validOptions -/
theorem vopt_c (s q : Int) (w : World)   :
    Calls Try.prog 36 #[.agg #[.int .i64 s, .int .i64 q]] w (fun e w' => e = .returned (.bool (optB s q)) ∧ Ext w w') := by
  refine calls_enter (N := ⟨21, []⟩) [] ([]) Try.func36 rfl rfl rfl (Ow.start _) ?_
  refine gc_seq ?_
  refine gc_region ?_
  refine nx (xo_boxA rfl rfl) rfl ?_
  rintro _ _ ⟨g1, rfl, rfl⟩
  refine ne (eo_as rfl rfl) rfl ?_
  refine go_nil ?_
  refine gq_next ?_
  refine gc_seq ?_
  refine gc_region ?_
  refine ne (eo_field rfl f38_0 rfl) rfl ?_
  refine ne (eo_load 0 rfl s3 rfl rfl rfl rfl) rfl ?_
  refine ne (eo_geq rfl rfl rfl) rfl ?_
  refine ne (eo_mv rfl rfl) rfl ?_
  refine ng rfl rfl (fun h => eo_field rfl f38_0 rfl) rfl ?_
  refine ng rfl rfl (fun h => eo_load 0 rfl s3 (ev_if h rfl) rfl rfl rfl) rfl ?_
  refine ng rfl rfl (fun h => eo_leq rfl (ev_if h rfl) rfl) rfl ?_
  refine ne (eo_and rfl rfl (fun hb => ev_if hb rfl)) rfl ?_
  refine ne (eo_mv rfl rfl) rfl ?_
  refine ng rfl rfl (fun h => eo_field rfl f38_1 rfl) rfl ?_
  refine ng rfl rfl (fun h => eo_load 0 rfl s3 (ev_if h rfl) rfl rfl rfl) rfl ?_
  refine ng rfl rfl (fun h => eo_geq rfl (ev_if h rfl) rfl) rfl ?_
  refine ne (eo_and rfl rfl (fun hb => ev_if hb rfl)) rfl ?_
  refine ne (eo_mv rfl rfl) rfl ?_
  refine ng rfl rfl (fun h => eo_field rfl f38_1 rfl) rfl ?_
  refine ng rfl rfl (fun h => eo_load 0 rfl s3 (ev_if h rfl) rfl rfl rfl) rfl ?_
  refine ng rfl rfl (fun h => eo_leq rfl (ev_if h rfl) rfl) rfl ?_
  refine ne (eo_and rfl rfl (fun hb => ev_if hb rfl)) rfl ?_
  refine ne (eo_as rfl rfl) rfl ?_
  refine go_nil ?_
  refine gq_next ?_
  refine gc_ret ?_
  refine gq_results (res1 rfl rfl) ?_
  exact fun W1 hO => ⟨ret_bool (by simp [optB, Bool.and_assoc]), hO.toExt⟩

/-- barscan/barscanref43.right -/
theorem right_c (s q : Int) (w : World)   :
    Calls Try.prog 43 #[.agg #[.int .i64 s, .int .i64 q]] w (fun e w' => e = .returned (.bool (optB s q)) ∧ Ext w w') := by
  refine calls_enter (N := ⟨21, []⟩) [] ([]) Try.func43 rfl rfl rfl (Ow.start _) ?_
  refine gc_seq ?_
  refine gc_region ?_
  refine nx (xo_boxA rfl rfl) rfl ?_
  rintro _ _ ⟨g1, rfl, rfl⟩
  refine ne (eo_as rfl rfl) rfl ?_
  refine go_nil ?_
  refine gq_next ?_
  refine gc_seq ?_
  refine gc_region ?_
  refine ne (eo_field rfl f38_0 rfl) rfl ?_
  refine ne (eo_load 0 rfl s3 rfl rfl rfl rfl) rfl ?_
  refine ne (eo_geq rfl rfl rfl) rfl ?_
  refine ne (eo_mv rfl rfl) rfl ?_
  refine ng rfl rfl (fun h => eo_field rfl f38_0 rfl) rfl ?_
  refine ng rfl rfl (fun h => eo_load 0 rfl s3 (ev_if h rfl) rfl rfl rfl) rfl ?_
  refine ng rfl rfl (fun h => eo_leq rfl (ev_if h rfl) rfl) rfl ?_
  refine ne (eo_and rfl rfl (fun hb => ev_if hb rfl)) rfl ?_
  refine ne (eo_mv rfl rfl) rfl ?_
  refine ng rfl rfl (fun h => eo_field rfl f38_1 rfl) rfl ?_
  refine ng rfl rfl (fun h => eo_load 0 rfl s3 (ev_if h rfl) rfl rfl rfl) rfl ?_
  refine ng rfl rfl (fun h => eo_geq rfl (ev_if h rfl) rfl) rfl ?_
  refine ne (eo_and rfl rfl (fun hb => ev_if hb rfl)) rfl ?_
  refine ne (eo_mv rfl rfl) rfl ?_
  refine ng rfl rfl (fun h => eo_field rfl f38_1 rfl) rfl ?_
  refine ng rfl rfl (fun h => eo_load 0 rfl s3 (ev_if h rfl) rfl rfl rfl) rfl ?_
  refine ng rfl rfl (fun h => eo_leq rfl (ev_if h rfl) rfl) rfl ?_
  refine ne (eo_and rfl rfl (fun hb => ev_if hb rfl)) rfl ?_
  refine ne (eo_as rfl rfl) rfl ?_
  refine go_nil ?_
  refine gq_next ?_
  refine gc_ret ?_
  refine gq_results (res1 rfl rfl) ?_
  exact fun W1 hO => ⟨ret_bool (by simp [optB, Bool.and_assoc]), hO.toExt⟩

/-- barscan/printing.darken -/
theorem darken_c (W H : Int) (g n c : Nat) (f : Nat → Bool) (sp : List Value) (x : Int) (y : Int) (dw : Int) (dh : Int) (w : World)  (hg : w.heap[g]? = some (.cells (tab n (bv f) ++ sp).toArray 4 (0, 0))) (v1 : 1 ≤ W) (v2 : W ≤ 4096) (v3 : 1 ≤ H) (v4 : H ≤ 4096) (v6 : (n : Int) = W * H) (x0 : 0 ≤ x) (y0 : 0 ≤ y) (w0 : 0 ≤ dw) (h0 : 0 ≤ dh) (x1 : x + dw ≤ W) (y1 : y + dh ≤ H) :
    Calls Try.prog 38 #[.agg #[.int .i64 W, .int .i64 H, .slice (some ⟨g, 0, none⟩) n c], .int .i64 x, .int .i64 y, .int .i64 dw, .int .i64 dh] w (fun e w' => e = .returned (.tuple #[]) ∧ Ow [g] w w' [⟨g, 4, tab n (bv (darkF W x y dw dh f)) ++ sp⟩]) := by
  have v7 := mul_up v1 (by omega) v3 v4
  refine calls_enter (N := ⟨37, []⟩) [g] ([⟨g, 4, tab n (bv f) ++ sp⟩]) Try.func38 rfl rfl rfl (own_one hg) ?_
  refine gc_seq ?_
  refine gc_region ?_
  refine nx (xo_boxA rfl rfl) rfl ?_
  rintro _ _ ⟨g5, rfl, rfl⟩
  refine go_nil ?_
  refine gq_next ?_
  refine gc_seq ?_
  refine gc_region ?_
  refine ne (eo_mv rfl rfl) rfl ?_
  refine ne (eo_as rfl rfl) rfl ?_
  refine go_nil ?_
  refine gq_next ?_
  refine gc_block ?_
  refine loop2 (fun (j : Int) (f1 : Nat → Bool) => y ≤ j ∧ j ≤ y + dh ∧ ∀ p, p < n → f1 p = darkP W x y dw j x f p) (fun (j : Int) (f1 : Nat → Bool) => (y + dh - j).toNat) (fun (j : Int) (f1 : Nat → Bool) => [(1, .int .i64 x), (2, .int .i64 y), (3, .int .i64 dw), (4, .int .i64 dh), (5, .pointer (some ⟨g5, 0, none⟩)), (10, .int .i64 j)]) (fun (j : Int) (f1 : Nat → Bool) => [⟨g5, 33, [.int .i64 W, .int .i64 H, .slice (some ⟨g, 0, none⟩) n c]⟩, ⟨g, 4, tab n (bv f1) ++ sp⟩]) y f ⟨by omega, by omega, fun p _ => dark_new rfl p⟩ ⟨rfl, rfl, rfl, rfl, rfl, rfl, trivial⟩ (List.Sublist.refl _) ?_
  rintro j f1 ⟨hj0, hj1, hI⟩
  refine gc_seq ?_
  refine gc_seq ?_
  refine gc_region ?_
  refine ne (eo_mv rfl rfl) rfl ?_
  refine ne (eo_mv rfl rfl) rfl ?_
  refine ne (eo_mv rfl rfl) rfl ?_
  refine ne (eo_add rfl rfl rfl (by omega) (by omega)) rfl ?_
  refine ne (eo_lss rfl rfl rfl) rfl ?_
  refine go_nil ?_
  refine gq_next ?_
  refine gc_cond rfl (fun hc0 => ?_) (fun hc0 => ?_)
  ·
    replace hc0 := of_decide_eq_true hc0
    refine gc_skip ?_
    refine gq_next ?_
    refine gc_seq ?_
    refine gc_block ?_
    refine gc_seq ?_
    refine gc_region ?_
    refine ne (eo_mv rfl rfl) rfl ?_
    refine ne (eo_as rfl rfl) rfl ?_
    refine go_nil ?_
    refine gq_next ?_
    refine gc_block ?_
    refine loop2 (fun (i : Int) (f1 : Nat → Bool) => x ≤ i ∧ i ≤ x + dw ∧ ∀ p, p < n → f1 p = darkP W x y dw j i f p) (fun (i : Int) (f1 : Nat → Bool) => (x + dw - i).toNat) (fun (i : Int) (f1 : Nat → Bool) => [(1, .int .i64 x), (2, .int .i64 y), (3, .int .i64 dw), (4, .int .i64 dh), (5, .pointer (some ⟨g5, 0, none⟩)), (10, .int .i64 j), (11, .int .i64 i)]) (fun (i : Int) (f1 : Nat → Bool) => [⟨g5, 33, [.int .i64 W, .int .i64 H, .slice (some ⟨g, 0, none⟩) n c]⟩, ⟨g, 4, tab n (bv f1) ++ sp⟩]) x f1 ⟨by omega, by omega, hI⟩ ⟨rfl, rfl, rfl, rfl, rfl, rfl, rfl, trivial⟩ (List.Sublist.refl _) ?_
    rintro i f1 ⟨hi0, hi1, hI⟩
    refine gc_seq ?_
    refine gc_seq ?_
    refine gc_region ?_
    refine ne (eo_mv rfl rfl) rfl ?_
    refine ne (eo_mv rfl rfl) rfl ?_
    refine ne (eo_mv rfl rfl) rfl ?_
    refine ne (eo_add rfl rfl rfl (by omega) (by omega)) rfl ?_
    refine ne (eo_lss rfl rfl rfl) rfl ?_
    refine go_nil ?_
    refine gq_next ?_
    refine gc_cond rfl (fun hc1 => ?_) (fun hc1 => ?_)
    ·
      replace hc1 := of_decide_eq_true hc1
      have hb := idx_bd (W := W) (H := H) (x := i) (y := j) (by omega) (by omega) (by omega) (by omega)
      refine gc_skip ?_
      refine gq_next ?_
      refine gc_seq ?_
      refine gc_block ?_
      refine gc_region ?_
      refine ne (eo_field rfl f33_2 rfl) rfl ?_
      refine ne (eo_load 0 rfl s31 rfl rfl rfl rfl) rfl ?_
      refine ne (eo_mv rfl rfl) rfl ?_
      refine ne (eo_field rfl f33_0 rfl) rfl ?_
      refine ne (eo_load 0 rfl s3 rfl rfl rfl rfl) rfl ?_
      refine ne (eo_mul rfl rfl rfl (by omega) (by omega)) rfl ?_
      refine ne (eo_mv rfl rfl) rfl ?_
      refine ne (eo_add rfl rfl rfl (by omega) (by omega)) rfl ?_
      refine ne (eo_index0 rfl sl31 rfl rfl (by omega) (by omega)) rfl ?_
      refine nu (xo_setb 1 rfl s4 rfl rfl rfl (by omega)) ?_
      rintro _ _ ⟨rfl, rfl⟩
      refine go_nil ?_
      refine gq_block_end ?_
      refine gq_next ?_
      refine gc_region ?_
      refine ne (eo_mv rfl rfl) rfl ?_
      refine ne (eo_add rfl rfl rfl (by omega) (by omega)) rfl ?_
      refine ne (eo_as rfl rfl) rfl ?_
      refine go_nil ?_
      exact round2 (i + 1) (upd f1 ((((j * W) + i)).toNat) true) ⟨by omega, by omega, dark_step v1 v6 (by omega) x0 (by omega) (by omega) hI⟩ (by omega) ⟨rfl, rfl, rfl, rfl, rfl, rfl, rfl, trivial⟩ (List.Sublist.refl _)
    ·
      replace hc1 := of_decide_eq_false hc1
      refine gc_exit ?_
      refine gq_then_exit ?_
      refine gq_then_exit ?_
      refine gq_block_hit ?_
      refine gq_block_end ?_
      refine gq_next ?_
      refine gc_region ?_
      refine ne (eo_mv rfl rfl) rfl ?_
      refine ne (eo_add rfl rfl rfl (by omega) (by omega)) rfl ?_
      refine ne (eo_as rfl rfl) rfl ?_
      refine go_nil ?_
      exact round2 (j + 1) f1 ⟨by omega, by omega, dark_row (by omega) (show i = x + dw by omega) rfl hI⟩ (by omega) ⟨rfl, rfl, rfl, rfl, rfl, rfl, trivial⟩ (List.Sublist.refl _)
  ·
    replace hc0 := of_decide_eq_false hc0
    refine gc_exit ?_
    refine gq_then_exit ?_
    refine gq_then_exit ?_
    refine gq_block_hit ?_
    refine gq_results_end (res0 rfl) ?_
    exact fun W1 hO => ⟨rfl, by rw [← tabb_ext (dark_done (show j = y + dh by omega) rfl hI)]; exact hO.pick 1 rfl⟩

/-- barscan/printing.Render -/
theorem render_x (W H : Int) (A : Option Addr) (n c : Nat) (f : Nat → Bool) (s q : Int) (w : World) (hr : Rd w A (tab n (bv f)))  :
    Calls Try.prog 15 #[.agg #[.int .i64 W, .int .i64 H, .slice A n c], .agg #[.int .i64 s, .int .i64 q]] w (fun e w' => ∃ v Hn, e = .returned v ∧ RX (renR ⟨W, H, n, f⟩ s q) v Hn ∧ Ow [] w w' Hn) := by
  refine calls_enter (N := ⟨90, []⟩) [] ([]) Try.func15 rfl rfl rfl (Ow.start _) ?_
  refine gc_seq ?_
  refine gc_region ?_
  refine nx (xo_boxA rfl rfl) rfl ?_
  rintro _ _ ⟨g2, rfl, rfl⟩
  refine nx (xo_boxA rfl rfl) rfl ?_
  rintro _ _ ⟨g3, rfl, rfl⟩
  refine nx (xo_alloc rfl z33) rfl ?_
  rintro _ _ ⟨g4, rfl, rfl⟩
  refine ne (eo_as rfl rfl) rfl ?_
  refine go_nil ?_
  refine gq_next ?_
  refine gc_seq ?_
  refine gc_seq ?_
  refine gc_region ?_
  refine ne (eo_loadA 2 rfl a33 rfl rfl rfl rfl) rfl ?_
  refine ne (eo_call rfl en35 rfl (fun W1 hO => check_c _ _ _ _ _ W1  )) rfl ?_
  refine ne (eo_neq rfl rfl rfl) rfl ?_
  refine go_nil ?_
  refine gq_next ?_
  refine gc_cond rfl (fun hc0 => ?_) (fun hc0 => ?_)
  ·
    replace hc0 := of_decide_eq_true hc0
    have hv := chk_f hc0
    refine gc_seq ?_
    refine gc_region ?_
    refine ne (eo_build rfl rfl (b33_)) rfl ?_
    refine nu (xo_storeA 0 rfl a33 rfl rfl (ones_cons (by first | rfl | exact AS.one) (ones_cons (by first | rfl | exact AS.one) (ones_cons (by first | rfl | exact AS.one) ones_nil))) rfl rfl rfl rfl) ?_
    rintro _ _ ⟨rfl, rfl⟩
    refine ne (eo_as rfl rfl) rfl ?_
    refine go_nil ?_
    refine gq_next ?_
    refine gc_ret ?_
    refine gq_then_ret ?_
    refine gq_results (resCT 0 rfl a33 rfl rfl rfl rfl rfl) ?_
    exact fun W1 hO => rx_nil hO (renR_no hv)
  ·
    replace hc0 := of_decide_eq_false hc0
    have hv := chk_t hc0
    obtain ⟨v1, v2, v3, v4, v5, v6⟩ := vldB_iff.1 hv
    have v7 := vld_pos hv
    refine gc_skip ?_
    refine gq_next ?_
    refine gc_seq ?_
    refine gc_seq ?_
    refine gc_region ?_
    refine ne (eo_loadA 1 rfl a38 rfl rfl rfl rfl) rfl ?_
    refine ne (eo_call rfl en36 rfl (fun W1 hO => vopt_c _ _ W1  )) rfl ?_
    refine ne (eo_not rfl rfl) rfl ?_
    refine go_nil ?_
    refine gq_next ?_
    refine gc_cond rfl (fun hc1 => ?_) (fun hc1 => ?_)
    ·
      have hd1 := (not_t hc1)
      refine gc_seq ?_
      refine gc_region ?_
      refine ne (eo_build rfl rfl (b33_)) rfl ?_
      refine nu (xo_storeA 0 rfl a33 rfl rfl (ones_cons (by first | rfl | exact AS.one) (ones_cons (by first | rfl | exact AS.one) (ones_cons (by first | rfl | exact AS.one) ones_nil))) rfl rfl rfl rfl) ?_
      rintro _ _ ⟨rfl, rfl⟩
      refine ne (eo_as rfl rfl) rfl ?_
      refine go_nil ?_
      refine gq_next ?_
      refine gc_ret ?_
      refine gq_then_ret ?_
      refine gq_results (resCT 0 rfl a33 rfl rfl rfl rfl rfl) ?_
      exact fun W1 hO => rx_nil hO (renR_range hv (not_t hc1))
    ·
      have hd1 := (not_f hc1)
      obtain ⟨o1, o2, o3, o4⟩ := optB_iff.1 (not_f hc1)
      have m1 := opt_mul (a := W) (s := s) (q := q) (by omega) (by omega) (by omega) (by omega) (by omega) (by omega)
      have m2 := opt_mul (a := H) (s := s) (q := q) (by omega) (by omega) (by omega) (by omega) (by omega) (by omega)
      refine gc_skip ?_
      refine gq_next ?_
      refine gc_seq ?_
      refine gc_draw [] [0, 1, 2, 3, 4, 5, 6, 7, 8, 9, 10, 11, 12, 13, 14, 15, 16, 17, 18, 19] [] [] (by kernel_rfl) (by kernel_rfl) ?_
      refine gp_nil ?_
      refine de rfl (eo_field rfl f33_0 rfl) rfl ?_
      refine de rfl (eo_load 2 rfl s3 rfl rfl rfl rfl) rfl ?_
      refine de rfl (eo_field rfl f38_1 rfl) rfl ?_
      refine de rfl (eo_load 1 rfl s3 rfl rfl rfl rfl) rfl ?_
      refine de rfl (eo_mul rfl rfl rfl (by omega) (by omega)) rfl ?_
      refine de rfl (eo_add rfl rfl rfl (by omega) (by omega)) rfl ?_
      refine de rfl (eo_field rfl f38_0 rfl) rfl ?_
      refine de rfl (eo_load 1 rfl s3 rfl rfl rfl rfl) rfl ?_
      refine de rfl (eo_mul rfl rfl rfl (by omega) (by omega)) rfl ?_
      refine de rfl (eo_field rfl f33_1 rfl) rfl ?_
      refine de rfl (eo_load 2 rfl s3 rfl rfl rfl rfl) rfl ?_
      refine de rfl (eo_field rfl f38_1 rfl) rfl ?_
      refine de rfl (eo_load 1 rfl s3 rfl rfl rfl rfl) rfl ?_
      refine de rfl (eo_mul rfl rfl rfl (by omega) (by omega)) rfl ?_
      refine de rfl (eo_add rfl rfl rfl (by omega) (by omega)) rfl ?_
      refine de rfl (eo_field rfl f38_0 rfl) rfl ?_
      refine de rfl (eo_load 1 rfl s3 rfl rfl rfl rfl) rfl ?_
      refine de rfl (eo_mul rfl rfl rfl (by omega) (by omega)) rfl ?_
      refine de rfl (eo_as rfl rfl) rfl ?_
      refine de rfl (eo_as rfl rfl) rfl ?_
      refine ge_nil ?_
      refine ga_nil ?_
      refine gi_nil ?_
      refine gq_nq ?_
      refine gq_next ?_
      refine gc_seq ?_
      refine gc_seq ?_
      refine gc_region ?_
      refine ne (eo_mv rfl rfl) rfl ?_
      refine ne (eo_mv rfl rfl) rfl ?_
      refine ne (eo_call rfl en37 rfl (fun W1 hO => pposs_c _ _ W1  )) rfl ?_
      refine ne (eo_not rfl rfl) rfl ?_
      refine go_nil ?_
      refine gq_next ?_
      refine gc_cond rfl (fun hc2 => ?_) (fun hc2 => ?_)
      ·
        have hd2 := (not_t hc2)
        have hf2 := not_t hc2
        refine gc_seq ?_
        refine gc_region ?_
        refine ne (eo_build rfl rfl (b33_)) rfl ?_
        refine nu (xo_storeA 0 rfl a33 rfl rfl (ones_cons (by first | rfl | exact AS.one) (ones_cons (by first | rfl | exact AS.one) (ones_cons (by first | rfl | exact AS.one) ones_nil))) rfl rfl rfl rfl) ?_
        rintro _ _ ⟨rfl, rfl⟩
        refine ne (eo_as rfl rfl) rfl ?_
        refine go_nil ?_
        refine gq_next ?_
        refine gc_ret ?_
        refine gq_then_ret ?_
        refine gq_results (resCT 0 rfl a33 rfl rfl rfl rfl rfl) ?_
        exact fun W1 hO => rx_nil hO (renR_long hv (not_f hc1) hf2)
      ·
        have hd2 := (not_f hc2)
        have hf2 := not_f hc2
        have hfb := fits_bd hf2
        obtain ⟨f1, f2, f3, f4, f5⟩ := fitsB_iff.1 hf2
        refine gc_skip ?_
        refine gq_next ?_
        refine gc_seq ?_
        refine gc_region ?_
        refine ne (eo_mv rfl rfl) rfl ?_
        refine ne (eo_mv rfl rfl) rfl ?_
        refine ne (eo_mv rfl rfl) rfl ?_
        refine ne (eo_mv rfl rfl) rfl ?_
        refine ne (eo_mul rfl rfl rfl (by omega) (by omega)) rfl ?_
        refine nx (xo_makeb rfl Try.underlying31 e4 rfl rfl (by omega) (by omega) (by omega)) rfl ?_
        rintro _ _ ⟨g49, rfl, rfl⟩
        refine ne (eo_build rfl rfl (b33_012 _ _ _ _ _)) rfl ?_
        refine nx (xo_alloc rfl z33) rfl ?_
        rintro _ _ ⟨g8, rfl, rfl⟩
        refine nu (xo_storeA 0 rfl a33 rfl rfl (ones_cons (by first | rfl | exact AS.one) (ones_cons (by first | rfl | exact AS.one) (ones_cons (by first | rfl | exact AS.one) ones_nil))) rfl rfl rfl rfl) ?_
        rintro _ _ ⟨rfl, rfl⟩
        refine go_nil ?_
        refine gq_next ?_
        refine gc_seq ?_
        refine gc_seq ?_
        refine gc_region ?_
        refine ne (eo_field rfl f33_2 rfl) rfl ?_
        refine ne (eo_load 4 rfl s31 rfl rfl rfl rfl) rfl ?_
        refine ne (eo_len rfl Try.underlying31 rfl) rfl ?_
        refine ne (eo_mv rfl rfl) rfl ?_
        refine go_nil ?_
        refine gq_next ?_
        refine gc_block ?_
        refine loop2 (fun (i : Nat) (f1 : Nat → Bool) => i ≤ n ∧ ∀ j, j < ((W + 2 * q) * s * ((H + 2 * q) * s)).toNat → f1 j = renP W H f s q i j) (fun (i : Nat) (f1 : Nat → Bool) => n - i) (fun (i : Nat) (f1 : Nat → Bool) => [(2, .pointer (some ⟨g2, 0, none⟩)), (3, .pointer (some ⟨g3, 0, none⟩)), (4, .pointer (some ⟨g4, 0, none⟩)), (8, .pointer (some ⟨g8, 0, none⟩)), (52, .slice A n c), (53, .int .i64 ((n : Nat) : Int)), (54, .int .i64 (i : Int))]) (fun (i : Nat) (f1 : Nat → Bool) => [⟨g8, 33, [.int .i64 ((W + (2 * q)) * s), .int .i64 ((H + (2 * q)) * s), .slice (some ⟨g49, 0, none⟩) (((((W + (2 * q)) * s) * ((H + (2 * q)) * s))).toNat) (((((W + (2 * q)) * s) * ((H + (2 * q)) * s))).toNat)]⟩, ⟨g49, 4, tab (((((W + (2 * q)) * s) * ((H + (2 * q)) * s))).toNat) (bv f1) ++ []⟩, ⟨g4, 33, [.int .i64 0, .int .i64 0, .slice none 0 0]⟩, ⟨g3, 38, [.int .i64 s, .int .i64 q]⟩, ⟨g2, 33, [.int .i64 W, .int .i64 H, .slice A n c]⟩]) 0 (fun _ => false) ⟨by omega, fun j _ => ren_new j⟩ ⟨rfl, rfl, rfl, rfl, rfl, rfl, rfl, trivial⟩ (List.Sublist.refl _) ?_
        rintro i f1 ⟨hi, hI⟩
        refine gc_seq ?_
        refine gc_region ?_
        refine ne (eo_lss rfl rfl rfl) rfl ?_
        refine go_nil ?_
        refine gq_next ?_
        refine gc_seq ?_
        refine gc_cond rfl (fun hc3 => ?_) (fun hc3 => ?_)
        ·
          replace hc3 := of_decide_eq_true hc3
          have hcb := cell_bd hv (show i < n by omega)
          have hqa := ren_bd (W := W) (x := (i : Int) % W) (s := s) (q := q) (by omega) (by omega) (by omega) (by omega)
          have hqb := ren_bd (W := H) (x := (i : Int) / W) (s := s) (q := q) (by omega) (by omega) (by omega) (by omega)
          refine gc_skip ?_
          refine gq_next ?_
          refine gc_seq ?_
          refine gc_block ?_
          refine gc_seq ?_
          refine gc_region ?_
          refine ne (eo_mv rfl rfl) rfl ?_
          refine ne (eo_indexR rfl sl31 rfl rfl hr (by simp) (by omega) (by omega)) rfl ?_
          refine ne (eo_load_old rfl s4 rfl (Rd.tabb hr (by omega)) (by simp)) rfl ?_
          refine ne (eo_as rfl rfl) rfl ?_
          refine ne (eo_as rfl rfl) rfl ?_
          refine go_nil ?_
          refine gq_next ?_
          refine gc_seq ?_
          refine gc_region ?_
          refine ne (eo_mv rfl rfl) rfl ?_
          refine go_nil ?_
          refine gq_next ?_
          refine gc_cond rfl (fun hc4 => ?_) (fun hc4 => ?_)
          ·
            refine gc_seq ?_
            refine gc_draw [] [0, 1, 2, 3, 4, 5, 6, 7, 8, 9] [] [] (by kernel_rfl) (by kernel_rfl) ?_
            refine gp_nil ?_
            refine de rfl (eo_mv rfl rfl) rfl ?_
            refine de rfl (eo_field rfl f33_0 rfl) rfl ?_
            refine de rfl (eo_load 4 rfl s3 rfl rfl rfl rfl) rfl ?_
            refine de rfl (eo_rem rfl rfl rfl (by omega) (by omega)) rfl ?_
            refine de rfl (eo_mv rfl rfl) rfl ?_
            refine de rfl (eo_field rfl f33_0 rfl) rfl ?_
            refine de rfl (eo_load 4 rfl s3 rfl rfl rfl rfl) rfl ?_
            refine de rfl (eo_quo rfl rfl rfl (by omega) (by omega) (by omega)) rfl ?_
            refine de rfl (eo_as rfl rfl) rfl ?_
            refine de rfl (eo_as rfl rfl) rfl ?_
            refine ge_nil ?_
            refine ga_nil ?_
            refine gi_nil ?_
            refine gq_nq ?_
            refine gq_next ?_
            refine gc_region ?_
            refine ne (eo_loadA 0 rfl a33 rfl rfl rfl rfl) rfl ?_
            refine ne (eo_mv rfl rfl) rfl ?_
            refine ne (eo_field rfl f38_1 rfl) rfl ?_
            refine ne (eo_load 3 rfl s3 rfl rfl rfl rfl) rfl ?_
            refine ne (eo_add rfl rfl rfl (by omega) (by omega)) rfl ?_
            refine ne (eo_field rfl f38_0 rfl) rfl ?_
            refine ne (eo_load 3 rfl s3 rfl rfl rfl rfl) rfl ?_
            refine ne (eo_mul rfl rfl rfl (by omega) (by omega)) rfl ?_
            refine ne (eo_mv rfl rfl) rfl ?_
            refine ne (eo_field rfl f38_1 rfl) rfl ?_
            refine ne (eo_load 3 rfl s3 rfl rfl rfl rfl) rfl ?_
            refine ne (eo_add rfl rfl rfl (by omega) (by omega)) rfl ?_
            refine ne (eo_field rfl f38_0 rfl) rfl ?_
            refine ne (eo_load 3 rfl s3 rfl rfl rfl rfl) rfl ?_
            refine ne (eo_mul rfl rfl rfl (by omega) (by omega)) rfl ?_
            refine ne (eo_field rfl f38_0 rfl) rfl ?_
            refine ne (eo_load 3 rfl s3 rfl rfl rfl rfl) rfl ?_
            refine ne (eo_field rfl f38_0 rfl) rfl ?_
            refine ne (eo_load 3 rfl s3 rfl rfl rfl rfl) rfl ?_
            refine nx (xo_over 1 rfl en38 rfl rfl (fun W1 hO => darken_c _ _ _ _ _ _ _ _ _ _ _ W1 (hO.at_ (i := 1) rfl) (by omega) (by omega) (by omega) (by omega) (by omega) (by omega) (by omega) (by omega) (by omega) (by omega) (by omega))) rfl ?_
            rintro _ _ ⟨rfl, rfl⟩
            refine go_nil ?_
            refine gq_block_end ?_
            refine gq_next ?_
            refine gc_region ?_
            refine ne (eo_add rfl rfl rfl (by omega) (by omega)) rfl ?_
            refine ne (eo_mv rfl rfl) rfl ?_
            refine go_nil ?_
            exact round2 (i + 1) (darkF ((W + (2 * q)) * s) ((((i : Int) % W) + q) * s) ((((i : Int) / W) + q) * s) s s f1) ⟨by omega, ren_step hv (by omega) (by omega) hc4 hI⟩ (by omega) ⟨rfl, rfl, rfl, rfl, rfl, rfl, rfl, trivial⟩ (List.Sublist.refl _)
          ·
            refine gc_skip ?_
            refine gq_block_end ?_
            refine gq_next ?_
            refine gc_region ?_
            refine ne (eo_add rfl rfl rfl (by omega) (by omega)) rfl ?_
            refine ne (eo_mv rfl rfl) rfl ?_
            refine go_nil ?_
            exact round2 (i + 1) f1 ⟨by omega, ren_skip hc4 hI⟩ (by omega) ⟨rfl, rfl, rfl, rfl, rfl, rfl, rfl, trivial⟩ (List.Sublist.refl _)
        ·
          replace hc3 := of_decide_eq_false hc3
          refine gc_exit ?_
          refine gq_then_exit ?_
          refine gq_then_exit ?_
          refine gq_block_hit ?_
          refine gq_next ?_
          refine gc_seq ?_
          refine gc_region ?_
          refine ne (eo_loadA 0 rfl a33 rfl rfl rfl rfl) rfl ?_
          refine nu (xo_storeA 2 rfl a33 rfl rfl (ones_cons (by first | rfl | exact AS.one) (ones_cons (by first | rfl | exact AS.one) (ones_cons (by first | rfl | exact AS.one) ones_nil))) rfl rfl rfl rfl) ?_
          rintro _ _ ⟨rfl, rfl⟩
          refine ne (eo_as rfl rfl) rfl ?_
          refine go_nil ?_
          refine gq_next ?_
          refine gc_ret ?_
          refine gq_results (resCT 2 rfl a33 rfl rfl rfl rfl rfl) ?_
          exact fun W1 hO => rx_own 1 hO rfl (renR_ok hv (not_f hc1) hf2) (fun j hj => by rw [hI j hj, show i = n by omega]) (by omega)

/-- barscan/barscanref43.Render -/
theorem rrender_x (W H : Int) (A : Option Addr) (n c : Nat) (f : Nat → Bool) (s q : Int) (w : World) (hr : Rd w A (tab n (bv f)))  :
    Calls Try.prog 23 #[.agg #[.int .i64 W, .int .i64 H, .slice A n c], .agg #[.int .i64 s, .int .i64 q]] w (fun e w' => ∃ v Hn, e = .returned v ∧ RX (renR ⟨W, H, n, f⟩ s q) v Hn ∧ Ow [] w w' Hn) := by
  refine calls_enter (N := ⟨77, []⟩) [] ([]) Try.func23 rfl rfl rfl (Ow.start _) ?_
  refine gc_seq ?_
  refine gc_region ?_
  refine nx (xo_boxA rfl rfl) rfl ?_
  rintro _ _ ⟨g2, rfl, rfl⟩
  refine nx (xo_boxA rfl rfl) rfl ?_
  rintro _ _ ⟨g3, rfl, rfl⟩
  refine nx (xo_alloc rfl z33) rfl ?_
  rintro _ _ ⟨g4, rfl, rfl⟩
  refine ne (eo_as rfl rfl) rfl ?_
  refine go_nil ?_
  refine gq_next ?_
  refine gc_seq ?_
  refine gc_seq ?_
  refine gc_region ?_
  refine ne (eo_loadA 2 rfl a33 rfl rfl rfl rfl) rfl ?_
  refine ne (eo_call rfl en41 rfl (fun W1 hO => valid_c _ _ _ _ _ W1  )) rfl ?_
  refine ne (eo_not rfl rfl) rfl ?_
  refine go_nil ?_
  refine gq_next ?_
  refine gc_cond rfl (fun hc0 => ?_) (fun hc0 => ?_)
  ·
    have hd0 := (not_t hc0)
    have hv := not_t hc0
    refine gc_seq ?_
    refine gc_region ?_
    refine ne (eo_build rfl rfl (b33_)) rfl ?_
    refine nu (xo_storeA 0 rfl a33 rfl rfl (ones_cons (by first | rfl | exact AS.one) (ones_cons (by first | rfl | exact AS.one) (ones_cons (by first | rfl | exact AS.one) ones_nil))) rfl rfl rfl rfl) ?_
    rintro _ _ ⟨rfl, rfl⟩
    refine ne (eo_as rfl rfl) rfl ?_
    refine go_nil ?_
    refine gq_next ?_
    refine gc_ret ?_
    refine gq_then_ret ?_
    refine gq_results (resCT 0 rfl a33 rfl rfl rfl rfl rfl) ?_
    exact fun W1 hO => rx_nil hO (renR_no hv)
  ·
    have hd0 := (not_f hc0)
    have hv := not_f hc0
    obtain ⟨v1, v2, v3, v4, v5, v6⟩ := vldB_iff.1 hv
    have v7 := vld_pos hv
    refine gc_skip ?_
    refine gq_next ?_
    refine gc_seq ?_
    refine gc_seq ?_
    refine gc_region ?_
    refine ne (eo_loadA 1 rfl a38 rfl rfl rfl rfl) rfl ?_
    refine ne (eo_call rfl en43 rfl (fun W1 hO => right_c _ _ W1  )) rfl ?_
    refine ne (eo_not rfl rfl) rfl ?_
    refine go_nil ?_
    refine gq_next ?_
    refine gc_cond rfl (fun hc1 => ?_) (fun hc1 => ?_)
    ·
      have hd1 := (not_t hc1)
      refine gc_seq ?_
      refine gc_region ?_
      refine ne (eo_build rfl rfl (b33_)) rfl ?_
      refine nu (xo_storeA 0 rfl a33 rfl rfl (ones_cons (by first | rfl | exact AS.one) (ones_cons (by first | rfl | exact AS.one) (ones_cons (by first | rfl | exact AS.one) ones_nil))) rfl rfl rfl rfl) ?_
      rintro _ _ ⟨rfl, rfl⟩
      refine ne (eo_as rfl rfl) rfl ?_
      refine go_nil ?_
      refine gq_next ?_
      refine gc_ret ?_
      refine gq_then_ret ?_
      refine gq_results (resCT 0 rfl a33 rfl rfl rfl rfl rfl) ?_
      exact fun W1 hO => rx_nil hO (renR_range hv (not_t hc1))
    ·
      have hd1 := (not_f hc1)
      obtain ⟨o1, o2, o3, o4⟩ := optB_iff.1 (not_f hc1)
      have m1 := opt_mul (a := W) (s := s) (q := q) (by omega) (by omega) (by omega) (by omega) (by omega) (by omega)
      have m2 := opt_mul (a := H) (s := s) (q := q) (by omega) (by omega) (by omega) (by omega) (by omega) (by omega)
      refine gc_skip ?_
      refine gq_next ?_
      refine gc_seq ?_
      refine gc_region ?_
      refine ne (eo_field rfl f33_0 rfl) rfl ?_
      refine ne (eo_load 2 rfl s3 rfl rfl rfl rfl) rfl ?_
      refine ne (eo_field rfl f38_1 rfl) rfl ?_
      refine ne (eo_load 1 rfl s3 rfl rfl rfl rfl) rfl ?_
      refine ne (eo_mul rfl rfl rfl (by omega) (by omega)) rfl ?_
      refine ne (eo_add rfl rfl rfl (by omega) (by omega)) rfl ?_
      refine ne (eo_field rfl f38_0 rfl) rfl ?_
      refine ne (eo_load 1 rfl s3 rfl rfl rfl rfl) rfl ?_
      refine ne (eo_mul rfl rfl rfl (by omega) (by omega)) rfl ?_
      refine ne (eo_field rfl f33_1 rfl) rfl ?_
      refine ne (eo_load 2 rfl s3 rfl rfl rfl rfl) rfl ?_
      refine ne (eo_field rfl f38_1 rfl) rfl ?_
      refine ne (eo_load 1 rfl s3 rfl rfl rfl rfl) rfl ?_
      refine ne (eo_mul rfl rfl rfl (by omega) (by omega)) rfl ?_
      refine ne (eo_add rfl rfl rfl (by omega) (by omega)) rfl ?_
      refine ne (eo_field rfl f38_0 rfl) rfl ?_
      refine ne (eo_load 1 rfl s3 rfl rfl rfl rfl) rfl ?_
      refine ne (eo_mul rfl rfl rfl (by omega) (by omega)) rfl ?_
      refine ne (eo_build rfl rfl (b33_01 _ _)) rfl ?_
      refine nx (xo_alloc rfl z33) rfl ?_
      rintro _ _ ⟨g6, rfl, rfl⟩
      refine nu (xo_storeA 0 rfl a33 rfl rfl (ones_cons (by first | rfl | exact AS.one) (ones_cons (by first | rfl | exact AS.one) (ones_cons (by first | rfl | exact AS.one) ones_nil))) rfl rfl rfl rfl) ?_
      rintro _ _ ⟨rfl, rfl⟩
      refine go_nil ?_
      refine gq_next ?_
      refine gc_seq ?_
      refine gc_seq ?_
      refine gc_region ?_
      refine ne (eo_field rfl f33_0 rfl) rfl ?_
      refine ne (eo_load 0 rfl s3 rfl rfl rfl rfl) rfl ?_
      refine ne (eo_field rfl f33_1 rfl) rfl ?_
      refine ne (eo_load 0 rfl s3 rfl rfl rfl rfl) rfl ?_
      refine ne (eo_call rfl en39 rfl (fun W1 hO => fits43_c _ _ W1  )) rfl ?_
      refine ne (eo_not rfl rfl) rfl ?_
      refine go_nil ?_
      refine gq_next ?_
      refine gc_cond rfl (fun hc2 => ?_) (fun hc2 => ?_)
      ·
        have hd2 := (not_t hc2)
        have hf2 := not_t hc2
        refine gc_seq ?_
        refine gc_region ?_
        refine ne (eo_build rfl rfl (b33_)) rfl ?_
        refine nu (xo_storeA 1 rfl a33 rfl rfl (ones_cons (by first | rfl | exact AS.one) (ones_cons (by first | rfl | exact AS.one) (ones_cons (by first | rfl | exact AS.one) ones_nil))) rfl rfl rfl rfl) ?_
        rintro _ _ ⟨rfl, rfl⟩
        refine ne (eo_as rfl rfl) rfl ?_
        refine go_nil ?_
        refine gq_next ?_
        refine gc_ret ?_
        refine gq_then_ret ?_
        refine gq_results (resCT 1 rfl a33 rfl rfl rfl rfl rfl) ?_
        exact fun W1 hO => rx_nil hO (renR_long hv (not_f hc1) hf2)
      ·
        have hd2 := (not_f hc2)
        have hf2 := not_f hc2
        have hfb := fits_bd hf2
        obtain ⟨f1, f2, f3, f4, f5⟩ := fitsB_iff.1 hf2
        refine gc_skip ?_
        refine gq_next ?_
        refine gc_seq ?_
        refine gc_seq ?_
        refine gc_region ?_
        refine ne (eo_as rfl rfl) rfl ?_
        refine go_nil ?_
        refine gq_next ?_
        refine gc_block ?_
        refine loop3 (fun (y : Nat) (k : Nat) (u : AS) => (y : Int) ≤ (H + 2 * q) * s ∧ (k : Int) = y * ((W + 2 * q) * s) ∧ u.Ok 1 k (tab k (bv (renP W H f s q n)))) (fun (y : Nat) (k : Nat) (u : AS) => ((H + 2 * q) * s - y).toNat) (fun (y : Nat) (k : Nat) (u : AS) => [(2, .pointer (some ⟨g2, 0, none⟩)), (3, .pointer (some ⟨g3, 0, none⟩)), (4, .pointer (some ⟨g4, 0, none⟩)), (6, .pointer (some ⟨g6, 0, none⟩)), (7, .int .i64 (y : Int))]) (fun (y : Nat) (k : Nat) (u : AS) => ⟨g6, 33, [.int .i64 ((W + (2 * q)) * s), .int .i64 ((H + (2 * q)) * s), u.val k]⟩ :: ⟨g4, 33, [.int .i64 0, .int .i64 0, .slice none 0 0]⟩ :: ⟨g3, 38, [.int .i64 s, .int .i64 q]⟩ :: ⟨g2, 33, [.int .i64 W, .int .i64 H, .slice A n c]⟩ :: u.blks 4 (tab k (bv (renP W H f s q n)))) 0 0 .nil ⟨by omega, by simp, AS.Ok0⟩ ⟨rfl, rfl, rfl, rfl, rfl, trivial⟩ (List.Sublist.refl _) ?_
        rintro y k u ⟨hy, hk, hs⟩
        refine gc_seq ?_
        refine gc_seq ?_
        refine gc_region ?_
        refine ne (eo_mv rfl rfl) rfl ?_
        refine ne (eo_field rfl f33_1 rfl) rfl ?_
        refine ne (eo_load 0 rfl s3 rfl rfl rfl rfl) rfl ?_
        refine ne (eo_lss rfl rfl rfl) rfl ?_
        refine go_nil ?_
        refine gq_next ?_
        refine gc_cond rfl (fun hc3 => ?_) (fun hc3 => ?_)
        ·
          replace hc3 := of_decide_eq_true hc3
          have hyb := idx_bd (W := (W + 2 * q) * s) (H := (H + 2 * q) * s) (x := 0) (y := y) (by omega) (by omega) (by omega) (by omega)
          have ha : ((y : Int) + 1) * ((W + 2 * q) * s) = y * ((W + 2 * q) * s) + ((W + 2 * q) * s) := add1_mul
          have dy := div_bd (a := (y : Int)) (s := s) (by omega) (by omega)
          refine gc_skip ?_
          refine gq_next ?_
          refine gc_seq ?_
          refine gc_block ?_
          refine gc_seq ?_
          refine gc_region ?_
          refine ne (eo_as rfl rfl) rfl ?_
          refine go_nil ?_
          refine gq_next ?_
          refine gc_block ?_
          refine loop3 (fun (x : Nat) (k : Nat) (u : AS) => (x : Int) ≤ (W + 2 * q) * s ∧ (k : Int) = y * ((W + 2 * q) * s) + x ∧ u.Ok 1 k (tab k (bv (renP W H f s q n)))) (fun (x : Nat) (k : Nat) (u : AS) => ((W + 2 * q) * s - x).toNat) (fun (x : Nat) (k : Nat) (u : AS) => [(2, .pointer (some ⟨g2, 0, none⟩)), (3, .pointer (some ⟨g3, 0, none⟩)), (4, .pointer (some ⟨g4, 0, none⟩)), (6, .pointer (some ⟨g6, 0, none⟩)), (7, .int .i64 (y : Int)), (8, .int .i64 (x : Int))]) (fun (x : Nat) (k : Nat) (u : AS) => ⟨g6, 33, [.int .i64 ((W + (2 * q)) * s), .int .i64 ((H + (2 * q)) * s), u.val k]⟩ :: ⟨g4, 33, [.int .i64 0, .int .i64 0, .slice none 0 0]⟩ :: ⟨g3, 38, [.int .i64 s, .int .i64 q]⟩ :: ⟨g2, 33, [.int .i64 W, .int .i64 H, .slice A n c]⟩ :: u.blks 4 (tab k (bv (renP W H f s q n)))) 0 k u ⟨by omega, by omega, hs⟩ ⟨rfl, rfl, rfl, rfl, rfl, rfl, trivial⟩ (List.Sublist.refl _) ?_
          rintro x k u ⟨hx, hk, hs⟩
          refine gc_seq ?_
          refine gc_seq ?_
          refine gc_region ?_
          refine ne (eo_mv rfl rfl) rfl ?_
          refine ne (eo_field rfl f33_0 rfl) rfl ?_
          refine ne (eo_load 0 rfl s3 rfl rfl rfl rfl) rfl ?_
          refine ne (eo_lss rfl rfl rfl) rfl ?_
          refine go_nil ?_
          refine gq_next ?_
          refine gc_cond rfl (fun hc4 => ?_) (fun hc4 => ?_)
          ·
            replace hc4 := of_decide_eq_true hc4
            have dx := div_bd (a := (x : Int)) (s := s) (by omega) (by omega)
            refine gc_skip ?_
            refine gq_next ?_
            refine gc_seq ?_
            refine gc_block ?_
            refine gc_draw [] [0, 1, 2, 3, 4, 5, 6, 7, 8, 9, 10, 11, 12, 13, 14, 15, 16, 17] [18] [19, 20, 21] (by kernel_rfl) (by kernel_rfl) ?_
            refine gp_nil ?_
            refine de rfl (eo_field rfl f33_2 rfl) rfl ?_
            refine de rfl (eo_load 0 rfl s31 rfl rfl rfl rfl) rfl ?_
            refine de rfl (eo_loadA 3 rfl a33 rfl rfl rfl rfl) rfl ?_
            refine de rfl (eo_mv rfl rfl) rfl ?_
            refine de rfl (eo_field rfl f38_0 rfl) rfl ?_
            refine de rfl (eo_load 2 rfl s3 rfl rfl rfl rfl) rfl ?_
            refine de rfl (eo_quo rfl rfl rfl (by omega) (by omega) (by omega)) rfl ?_
            refine de rfl (eo_field rfl f38_1 rfl) rfl ?_
            refine de rfl (eo_load 2 rfl s3 rfl rfl rfl rfl) rfl ?_
            refine de rfl (eo_sub rfl rfl rfl (by omega) (by omega)) rfl ?_
            refine de rfl (eo_mv rfl rfl) rfl ?_
            refine de rfl (eo_field rfl f38_0 rfl) rfl ?_
            refine de rfl (eo_load 2 rfl s3 rfl rfl rfl rfl) rfl ?_
            refine de rfl (eo_quo rfl rfl rfl (by omega) (by omega) (by omega)) rfl ?_
            refine de rfl (eo_field rfl f38_1 rfl) rfl ?_
            refine de rfl (eo_load 2 rfl s3 rfl rfl rfl rfl) rfl ?_
            refine de rfl (eo_sub rfl rfl rfl (by omega) (by omega)) rfl ?_
            refine de rfl (eo_call rfl en44 rfl (fun W1 hO => rat_c _ _ _ _ _ _ _ _ W1 (hr.old0 hO) )) rfl ?_
            refine ge_nil ?_
            refine da rfl (xo_lit1 rfl Try.underlying31 e4 rfl (by first | rfl | exact AS.one)) rfl ?_
            rintro _ _ ⟨g73, rfl, rfl⟩
            refine ⟨by first | exact (List.Sublist.cons _ (List.Sublist.refl _)) | exact (List.sublist_append_left _ _), ?_⟩
            refine ga_nil ?_
            refine ix rfl (xo_app1b 5 rfl rfl Try.underlying31 e4 rfl hs rfl rfl (ren_at hv hk (by omega) (by omega)) (by omega)) rfl ?_
            rintro _ _ ⟨s74, hs74, rfl, rfl⟩
            refine ie rfl (eo_field rfl f33_2 rfl) rfl ?_
            refine iu rfl (xo_store 1 rfl s31 rfl rfl (by first | rfl | exact AS.one) rfl rfl (by simp)) ?_
            rintro _ _ ⟨rfl, rfl⟩
            refine gi_nil ?_
            refine gq_nq ?_
            refine gq_block_end ?_
            refine gq_next ?_
            refine gc_region ?_
            refine ne (eo_mv rfl rfl) rfl ?_
            refine ne (eo_add rfl rfl rfl (by omega) (by omega)) rfl ?_
            refine ne (eo_as rfl rfl) rfl ?_
            refine go_nil ?_
            exact round3 (x + 1) (k + 1) s74 ⟨by omega, by push_cast; omega, hs74⟩ (by omega) ⟨rfl, rfl, rfl, rfl, rfl, rfl, trivial⟩ (List.Sublist.cons _ (List.Sublist.refl _))
          ·
            replace hc4 := of_decide_eq_false hc4
            refine gc_exit ?_
            refine gq_then_exit ?_
            refine gq_then_exit ?_
            refine gq_block_hit ?_
            refine gq_block_end ?_
            refine gq_next ?_
            refine gc_region ?_
            refine ne (eo_mv rfl rfl) rfl ?_
            refine ne (eo_add rfl rfl rfl (by omega) (by omega)) rfl ?_
            refine ne (eo_as rfl rfl) rfl ?_
            refine go_nil ?_
            exact round3 (y + 1) k u ⟨by omega, by push_cast; omega, hs⟩ (by omega) ⟨rfl, rfl, rfl, rfl, rfl, trivial⟩ (List.Sublist.refl _)
        ·
          replace hc3 := of_decide_eq_false hc3
          refine gc_exit ?_
          refine gq_then_exit ?_
          refine gq_then_exit ?_
          refine gq_block_hit ?_
          refine gq_next ?_
          refine gc_seq ?_
          refine gc_region ?_
          refine ne (eo_loadA 0 rfl a33 rfl rfl rfl rfl) rfl ?_
          refine nu (xo_storeA 1 rfl a33 rfl rfl (ones_cons (by first | rfl | exact AS.one) (ones_cons (by first | rfl | exact AS.one) (ones_cons (by first | rfl | exact AS.one) ones_nil))) rfl rfl rfl rfl) ?_
          rintro _ _ ⟨rfl, rfl⟩
          refine ne (eo_as rfl rfl) rfl ?_
          refine go_nil ?_
          refine gq_next ?_
          refine gc_ret ?_
          refine gq_results (resCT 1 rfl a33 rfl rfl rfl rfl rfl) ?_
          have hkn : ((W + 2 * q) * s * ((H + 2 * q) * s)).toNat = k := by rw [show (y : Int) = (H + 2 * q) * s by omega, Int.mul_comm ((H + 2 * q) * s)] at hk; omega
          subst hkn
          exact fun W1 hO => rx_as 4 hO rfl hs (renR_ok hv (not_f hc1) hf2)

/-- barscan/printing.Bars -/
theorem bars_x (A : Option Addr) (n c : Nat) (f : Nat → Bool) (ht : Int) (s q : Int) (w : World) (hr : Rd w A (tab n (bv f)))  :
    Calls Try.prog 24 #[.slice A n c, .int .i64 ht, .agg #[.int .i64 s, .int .i64 q]] w (fun e w' => ∃ v Hn, e = .returned v ∧ RX (barR n f ht s q) v Hn ∧ Ow [] w w' Hn) := by
  refine calls_enter (N := ⟨85, []⟩) [] ([]) Try.func24 rfl rfl rfl (Ow.start _) ?_
  refine gc_seq ?_
  refine gc_region ?_
  refine nx (xo_boxA rfl rfl) rfl ?_
  rintro _ _ ⟨g5, rfl, rfl⟩
  refine nx (xo_alloc rfl z33) rfl ?_
  rintro _ _ ⟨g6, rfl, rfl⟩
  refine ne (eo_as rfl rfl) rfl ?_
  refine go_nil ?_
  refine gq_next ?_
  refine gc_seq ?_
  refine gc_seq ?_
  refine gc_region ?_
  refine ne (eo_mv rfl rfl) rfl ?_
  refine ne (eo_len rfl Try.underlying31 rfl) rfl ?_
  refine ne (eo_eql rfl rfl rfl) rfl ?_
  refine go_nil ?_
  refine gq_next ?_
  refine gc_cond rfl (fun hc0 => ?_) (fun hc0 => ?_)
  ·
    replace hc0 := of_decide_eq_true hc0
    refine gc_seq ?_
    refine gc_region ?_
    refine ne (eo_build rfl rfl (b33_)) rfl ?_
    refine nu (xo_storeA 0 rfl a33 rfl rfl (ones_cons (by first | rfl | exact AS.one) (ones_cons (by first | rfl | exact AS.one) (ones_cons (by first | rfl | exact AS.one) ones_nil))) rfl rfl rfl rfl) ?_
    rintro _ _ ⟨rfl, rfl⟩
    refine ne (eo_as rfl rfl) rfl ?_
    refine go_nil ?_
    refine gq_next ?_
    refine gc_ret ?_
    refine gq_then_ret ?_
    refine gq_results (resCT 0 rfl a33 rfl rfl rfl rfl rfl) ?_
    exact fun W1 hO => rx_nil hO (if_pos (by omega))
  ·
    replace hc0 := of_decide_eq_false hc0
    refine gc_skip ?_
    refine gq_next ?_
    refine gc_seq ?_
    refine gc_seq ?_
    refine gc_region ?_
    refine ne (eo_mv rfl rfl) rfl ?_
    refine ne (eo_len rfl Try.underlying31 rfl) rfl ?_
    refine ne (eo_gtr rfl rfl rfl) rfl ?_
    refine go_nil ?_
    refine gq_next ?_
    refine gc_cond rfl (fun hc1 => ?_) (fun hc1 => ?_)
    ·
      replace hc1 := of_decide_eq_true hc1
      refine gc_seq ?_
      refine gc_region ?_
      refine ne (eo_build rfl rfl (b33_)) rfl ?_
      refine nu (xo_storeA 0 rfl a33 rfl rfl (ones_cons (by first | rfl | exact AS.one) (ones_cons (by first | rfl | exact AS.one) (ones_cons (by first | rfl | exact AS.one) ones_nil))) rfl rfl rfl rfl) ?_
      rintro _ _ ⟨rfl, rfl⟩
      refine ne (eo_as rfl rfl) rfl ?_
      refine go_nil ?_
      refine gq_next ?_
      refine gc_ret ?_
      refine gq_then_ret ?_
      refine gq_results (resCT 0 rfl a33 rfl rfl rfl rfl rfl) ?_
      exact fun W1 hO => rx_nil hO (barR_long1 (by omega))
    ·
      replace hc1 := of_decide_eq_false hc1
      refine gc_skip ?_
      refine gq_next ?_
      refine gc_seq ?_
      refine gc_seq ?_
      refine gc_region ?_
      refine ne (eo_mv rfl rfl) rfl ?_
      refine ne (eo_lss rfl rfl rfl) rfl ?_
      refine ne (eo_mv rfl rfl) rfl ?_
      refine ng rfl rfl (fun h => eo_mv rfl rfl) rfl ?_
      refine ng rfl rfl (fun h => eo_gtr rfl (ev_if h rfl) rfl) rfl ?_
      refine ne (eo_or rfl rfl (fun hb => ev_if hb rfl)) rfl ?_
      refine ne (eo_mv rfl rfl) rfl ?_
      refine ng rfl rfl (fun h => eo_loadA 1 rfl a38 rfl rfl rfl rfl) rfl ?_
      refine ng rfl rfl (fun h => eo_call rfl en36 (evs_cons (ev_if h rfl) evs_nil) (fun W1 hO => vopt_c _ _ W1  )) rfl ?_
      refine ng rfl rfl (fun h => eo_not rfl (ev_if h rfl)) rfl ?_
      refine ne (eo_or rfl rfl (fun hb => ev_if hb rfl)) rfl ?_
      refine go_nil ?_
      refine gq_next ?_
      refine gc_cond rfl (fun hc2 => ?_) (fun hc2 => ?_)
      ·
        have hd2 := (or_t hc2).imp (fun h => (or_t h).imp (fun h => of_decide_eq_true h) (fun h => of_decide_eq_true h)) (fun h => (not_t h))
        refine gc_seq ?_
        refine gc_region ?_
        refine ne (eo_build rfl rfl (b33_)) rfl ?_
        refine nu (xo_storeA 0 rfl a33 rfl rfl (ones_cons (by first | rfl | exact AS.one) (ones_cons (by first | rfl | exact AS.one) (ones_cons (by first | rfl | exact AS.one) ones_nil))) rfl rfl rfl rfl) ?_
        rintro _ _ ⟨rfl, rfl⟩
        refine ne (eo_as rfl rfl) rfl ?_
        refine go_nil ?_
        refine gq_next ?_
        refine gc_ret ?_
        refine gq_then_ret ?_
        refine gq_results (resCT 0 rfl a33 rfl rfl rfl rfl rfl) ?_
        exact fun W1 hO => rx_nil hO (barR_range (by omega) (by omega) (hd2.imp (fun h => h.imp (fun h => by omega) (fun h => by omega)) id))
      ·
        have hd2 := (or_f hc2).imp (fun h => (or_f h).imp (fun h => of_decide_eq_false h) (fun h => of_decide_eq_false h)) (fun h => (not_f h))
        have ho : optB s q = true := hd2.2
        obtain ⟨o1, o2, o3, o4⟩ := optB_iff.1 ho
        have m1 := opt_mul (a := (n : Int)) (s := s) (q := q) (by omega) (by omega) (by omega) (by omega) (by omega) (by omega)
        have m2 := opt_mul1 (s := s) (q := q) (by omega) (by omega) (by omega) (by omega)
        have m3 : (n : Int) * s + 2 * (q * s) = ((n : Int) + 2 * q) * s := by rw [Int.add_mul, Int.mul_assoc]
        have m4 : 0 ≤ (n : Int) * s := Int.mul_nonneg (by omega) (by omega)
        refine gc_skip ?_
        refine gq_next ?_
        refine gc_seq ?_
        refine gc_region ?_
        refine ne (eo_field rfl f38_1 rfl) rfl ?_
        refine ne (eo_load 1 rfl s3 rfl rfl rfl rfl) rfl ?_
        refine ne (eo_field rfl f38_0 rfl) rfl ?_
        refine ne (eo_load 1 rfl s3 rfl rfl rfl rfl) rfl ?_
        refine ne (eo_mul rfl rfl rfl (by omega) (by omega)) rfl ?_
        refine ne (eo_as rfl rfl) rfl ?_
        refine go_nil ?_
        refine gq_next ?_
        refine gc_seq ?_
        refine gc_region ?_
        refine ne (eo_mv rfl rfl) rfl ?_
        refine ne (eo_len rfl Try.underlying31 rfl) rfl ?_
        refine ne (eo_field rfl f38_0 rfl) rfl ?_
        refine ne (eo_load 1 rfl s3 rfl rfl rfl rfl) rfl ?_
        refine ne (eo_mul rfl rfl rfl (by omega) (by omega)) rfl ?_
        refine ne (eo_mv rfl rfl) rfl ?_
        refine ne (eo_mul rfl rfl rfl (by omega) (by omega)) rfl ?_
        refine ne (eo_add rfl rfl rfl (by omega) (by omega)) rfl ?_
        refine ne (eo_mv rfl rfl) rfl ?_
        refine ne (eo_mv rfl rfl) rfl ?_
        refine ne (eo_mul rfl rfl rfl (by omega) (by omega)) rfl ?_
        refine ne (eo_add rfl rfl rfl (by omega) (by omega)) rfl ?_
        refine ne (eo_as rfl rfl) rfl ?_
        refine ne (eo_as rfl rfl) rfl ?_
        refine go_nil ?_
        refine gq_next ?_
        refine gc_seq ?_
        refine gc_seq ?_
        refine gc_region ?_
        refine ne (eo_mv rfl rfl) rfl ?_
        refine ne (eo_mv rfl rfl) rfl ?_
        refine ne (eo_call rfl en37 rfl (fun W1 hO => pposs_c _ _ W1  )) rfl ?_
        refine ne (eo_not rfl rfl) rfl ?_
        refine go_nil ?_
        refine gq_next ?_
        refine gc_cond rfl (fun hc3 => ?_) (fun hc3 => ?_)
        ·
          have hd3 := (not_t hc3)
          have hf3 := not_t hc3
          have hf3 := not_t hc3
          rw [m3] at hf3
          refine gc_seq ?_
          refine gc_region ?_
          refine ne (eo_build rfl rfl (b33_)) rfl ?_
          refine nu (xo_storeA 0 rfl a33 rfl rfl (ones_cons (by first | rfl | exact AS.one) (ones_cons (by first | rfl | exact AS.one) (ones_cons (by first | rfl | exact AS.one) ones_nil))) rfl rfl rfl rfl) ?_
          rintro _ _ ⟨rfl, rfl⟩
          refine ne (eo_as rfl rfl) rfl ?_
          refine go_nil ?_
          refine gq_next ?_
          refine gc_ret ?_
          refine gq_then_ret ?_
          refine gq_results (resCT 0 rfl a33 rfl rfl rfl rfl rfl) ?_
          exact fun W1 hO => rx_nil hO (barR_long (by omega) (by omega) (by omega) (by omega) ho hf3)
        ·
          have hd3 := (not_f hc3)
          have hf3 := not_f hc3
          have hf3 := not_f hc3
          rw [m3] at hf3 ⊢
          have hfb := fits_bd hf3
          obtain ⟨f1, f2, f3, f4, f5⟩ := fitsB_iff.1 hf3
          refine gc_skip ?_
          refine gq_next ?_
          refine gc_seq ?_
          refine gc_region ?_
          refine ne (eo_mv rfl rfl) rfl ?_
          refine ne (eo_mv rfl rfl) rfl ?_
          refine ne (eo_mv rfl rfl) rfl ?_
          refine ne (eo_mv rfl rfl) rfl ?_
          refine ne (eo_mul rfl rfl rfl (by omega) (by omega)) rfl ?_
          refine nx (xo_makeb rfl Try.underlying31 e4 rfl rfl (by omega) (by omega) (by omega)) rfl ?_
          rintro _ _ ⟨g61, rfl, rfl⟩
          refine ne (eo_build rfl rfl (b33_012 _ _ _ _ _)) rfl ?_
          refine nx (xo_alloc rfl z33) rfl ?_
          rintro _ _ ⟨g11, rfl, rfl⟩
          refine nu (xo_storeA 0 rfl a33 rfl rfl (ones_cons (by first | rfl | exact AS.one) (ones_cons (by first | rfl | exact AS.one) (ones_cons (by first | rfl | exact AS.one) ones_nil))) rfl rfl rfl rfl) ?_
          rintro _ _ ⟨rfl, rfl⟩
          refine go_nil ?_
          refine gq_next ?_
          refine gc_seq ?_
          refine gc_seq ?_
          refine gc_region ?_
          refine ne (eo_mv rfl rfl) rfl ?_
          refine ne (eo_len rfl Try.underlying31 rfl) rfl ?_
          refine ne (eo_mv rfl rfl) rfl ?_
          refine go_nil ?_
          refine gq_next ?_
          refine gc_block ?_
          refine loop2 (fun (i : Nat) (f1 : Nat → Bool) => i ≤ n ∧ ∀ j, j < (((n : Int) + 2 * q) * s * (ht + 2 * (q * s))).toNat → f1 j = barP n f ht s q i j) (fun (i : Nat) (f1 : Nat → Bool) => n - i) (fun (i : Nat) (f1 : Nat → Bool) => [(1, .int .i64 ht), (5, .pointer (some ⟨g5, 0, none⟩)), (6, .pointer (some ⟨g6, 0, none⟩)), (8, .int .i64 (q * s)), (11, .pointer (some ⟨g11, 0, none⟩)), (63, .slice A n c), (64, .int .i64 ((n : Nat) : Int)), (65, .int .i64 (i : Int))]) (fun (i : Nat) (f1 : Nat → Bool) => [⟨g11, 33, [.int .i64 ((((n : Nat) : Int) + 2 * q) * s), .int .i64 (ht + (2 * (q * s))), .slice (some ⟨g61, 0, none⟩) (((((((n : Nat) : Int) + 2 * q) * s) * (ht + (2 * (q * s))))).toNat) (((((((n : Nat) : Int) + 2 * q) * s) * (ht + (2 * (q * s))))).toNat)]⟩, ⟨g61, 4, tab (((((((n : Nat) : Int) + 2 * q) * s) * (ht + (2 * (q * s))))).toNat) (bv f1) ++ []⟩, ⟨g6, 33, [.int .i64 0, .int .i64 0, .slice none 0 0]⟩, ⟨g5, 38, [.int .i64 s, .int .i64 q]⟩]) 0 (fun _ => false) ⟨by omega, fun j _ => bar_new j⟩ ⟨rfl, rfl, rfl, rfl, rfl, rfl, rfl, rfl, trivial⟩ (List.Sublist.refl _) ?_
          rintro i f1 ⟨hi, hI⟩
          refine gc_seq ?_
          refine gc_region ?_
          refine ne (eo_lss rfl rfl rfl) rfl ?_
          refine go_nil ?_
          refine gq_next ?_
          refine gc_seq ?_
          refine gc_cond rfl (fun hc4 => ?_) (fun hc4 => ?_)
          ·
            replace hc4 := of_decide_eq_true hc4
            have hqa := bar_bd (n := n) (i := i) (s := s) (q := q) (by omega) (by omega) (by omega)
            refine gc_skip ?_
            refine gq_next ?_
            refine gc_seq ?_
            refine gc_block ?_
            refine gc_seq ?_
            refine gc_region ?_
            refine ne (eo_mv rfl rfl) rfl ?_
            refine ne (eo_indexR rfl sl31 rfl rfl hr (by simp) (by omega) (by omega)) rfl ?_
            refine ne (eo_load_old rfl s4 rfl (Rd.tabb hr (by omega)) (by simp)) rfl ?_
            refine ne (eo_as rfl rfl) rfl ?_
            refine ne (eo_as rfl rfl) rfl ?_
            refine go_nil ?_
            refine gq_next ?_
            refine gc_seq ?_
            refine gc_region ?_
            refine ne (eo_mv rfl rfl) rfl ?_
            refine go_nil ?_
            refine gq_next ?_
            refine gc_cond rfl (fun hc5 => ?_) (fun hc5 => ?_)
            ·
              refine gc_region ?_
              refine ne (eo_loadA 0 rfl a33 rfl rfl rfl rfl) rfl ?_
              refine ne (eo_mv rfl rfl) rfl ?_
              refine ne (eo_mv rfl rfl) rfl ?_
              refine ne (eo_field rfl f38_0 rfl) rfl ?_
              refine ne (eo_load 3 rfl s3 rfl rfl rfl rfl) rfl ?_
              refine ne (eo_mul rfl rfl rfl (by omega) (by omega)) rfl ?_
              refine ne (eo_add rfl rfl rfl (by omega) (by omega)) rfl ?_
              refine ne (eo_mv rfl rfl) rfl ?_
              refine ne (eo_field rfl f38_0 rfl) rfl ?_
              refine ne (eo_load 3 rfl s3 rfl rfl rfl rfl) rfl ?_
              refine ne (eo_mv rfl rfl) rfl ?_
              refine nx (xo_over 1 rfl en38 rfl rfl (fun W1 hO => darken_c _ _ _ _ _ _ _ _ _ _ _ W1 (hO.at_ (i := 1) rfl) (by omega) (by omega) (by omega) (by omega) (by omega) (by omega) (by omega) (by omega) (by omega) (by omega) (by omega))) rfl ?_
              rintro _ _ ⟨rfl, rfl⟩
              refine go_nil ?_
              refine gq_block_end ?_
              refine gq_next ?_
              refine gc_region ?_
              refine ne (eo_add rfl rfl rfl (by omega) (by omega)) rfl ?_
              refine ne (eo_mv rfl rfl) rfl ?_
              refine go_nil ?_
              exact round2 (i + 1) (darkF ((((n : Nat) : Int) + 2 * q) * s) ((q * s) + ((i : Int) * s)) (q * s) s ht f1) ⟨by omega, bar_step (i := i) (by omega) hc5 hI⟩ (by omega) ⟨rfl, rfl, rfl, rfl, rfl, rfl, rfl, rfl, trivial⟩ (List.Sublist.refl _)
            ·
              refine gc_skip ?_
              refine gq_block_end ?_
              refine gq_next ?_
              refine gc_region ?_
              refine ne (eo_add rfl rfl rfl (by omega) (by omega)) rfl ?_
              refine ne (eo_mv rfl rfl) rfl ?_
              refine go_nil ?_
              exact round2 (i + 1) f1 ⟨by omega, bar_skip (i := i) hc5 hI⟩ (by omega) ⟨rfl, rfl, rfl, rfl, rfl, rfl, rfl, rfl, trivial⟩ (List.Sublist.refl _)
          ·
            replace hc4 := of_decide_eq_false hc4
            refine gc_exit ?_
            refine gq_then_exit ?_
            refine gq_then_exit ?_
            refine gq_block_hit ?_
            refine gq_next ?_
            refine gc_seq ?_
            refine gc_region ?_
            refine ne (eo_loadA 0 rfl a33 rfl rfl rfl rfl) rfl ?_
            refine nu (xo_storeA 2 rfl a33 rfl rfl (ones_cons (by first | rfl | exact AS.one) (ones_cons (by first | rfl | exact AS.one) (ones_cons (by first | rfl | exact AS.one) ones_nil))) rfl rfl rfl rfl) ?_
            rintro _ _ ⟨rfl, rfl⟩
            refine ne (eo_as rfl rfl) rfl ?_
            refine go_nil ?_
            refine gq_next ?_
            refine gc_ret ?_
            refine gq_results (resCT 2 rfl a33 rfl rfl rfl rfl rfl) ?_
            exact fun W1 hO => rx_own 1 hO rfl (barR_ok (by omega) (by omega) (by omega) (by omega) ho hf3) (fun j hj => by rw [hI j hj, show i = n by omega]) (by omega)

/-- barscan/barscanref43.Bars -/
theorem rbars_x (A : Option Addr) (n c : Nat) (f : Nat → Bool) (ht : Int) (s q : Int) (w : World) (hr : Rd w A (tab n (bv f)))  :
    Calls Try.prog 25 #[.slice A n c, .int .i64 ht, .agg #[.int .i64 s, .int .i64 q]] w (fun e w' => ∃ v Hn, e = .returned v ∧ RX (barR n f ht s q) v Hn ∧ Ow [] w w' Hn) := by
  refine calls_enter (N := ⟨109, []⟩) [] ([]) Try.func25 rfl rfl rfl (Ow.start _) ?_
  refine gc_seq ?_
  refine gc_region ?_
  refine nx (xo_boxA rfl rfl) rfl ?_
  rintro _ _ ⟨g5, rfl, rfl⟩
  refine nx (xo_alloc rfl z33) rfl ?_
  rintro _ _ ⟨g6, rfl, rfl⟩
  refine ne (eo_as rfl rfl) rfl ?_
  refine go_nil ?_
  refine gq_next ?_
  refine gc_seq ?_
  refine gc_region ?_
  refine ne (eo_mv rfl rfl) rfl ?_
  refine ne (eo_len rfl Try.underlying31 rfl) rfl ?_
  refine ne (eo_as rfl rfl) rfl ?_
  refine go_nil ?_
  refine gq_next ?_
  refine gc_seq ?_
  refine gc_seq ?_
  refine gc_region ?_
  refine ne (eo_mv rfl rfl) rfl ?_
  refine ne (eo_eql rfl rfl rfl) rfl ?_
  refine go_nil ?_
  refine gq_next ?_
  refine gc_cond rfl (fun hc0 => ?_) (fun hc0 => ?_)
  ·
    replace hc0 := of_decide_eq_true hc0
    refine gc_seq ?_
    refine gc_region ?_
    refine ne (eo_build rfl rfl (b33_)) rfl ?_
    refine nu (xo_storeA 0 rfl a33 rfl rfl (ones_cons (by first | rfl | exact AS.one) (ones_cons (by first | rfl | exact AS.one) (ones_cons (by first | rfl | exact AS.one) ones_nil))) rfl rfl rfl rfl) ?_
    rintro _ _ ⟨rfl, rfl⟩
    refine ne (eo_as rfl rfl) rfl ?_
    refine go_nil ?_
    refine gq_next ?_
    refine gc_ret ?_
    refine gq_then_ret ?_
    refine gq_results (resCT 0 rfl a33 rfl rfl rfl rfl rfl) ?_
    exact fun W1 hO => rx_nil hO (if_pos (by omega))
  ·
    replace hc0 := of_decide_eq_false hc0
    refine gc_skip ?_
    refine gq_next ?_
    refine gc_seq ?_
    refine gc_seq ?_
    refine gc_region ?_
    refine ne (eo_mv rfl rfl) rfl ?_
    refine ne (eo_gtr rfl rfl rfl) rfl ?_
    refine go_nil ?_
    refine gq_next ?_
    refine gc_cond rfl (fun hc1 => ?_) (fun hc1 => ?_)
    ·
      replace hc1 := of_decide_eq_true hc1
      refine gc_seq ?_
      refine gc_region ?_
      refine ne (eo_build rfl rfl (b33_)) rfl ?_
      refine nu (xo_storeA 0 rfl a33 rfl rfl (ones_cons (by first | rfl | exact AS.one) (ones_cons (by first | rfl | exact AS.one) (ones_cons (by first | rfl | exact AS.one) ones_nil))) rfl rfl rfl rfl) ?_
      rintro _ _ ⟨rfl, rfl⟩
      refine ne (eo_as rfl rfl) rfl ?_
      refine go_nil ?_
      refine gq_next ?_
      refine gc_ret ?_
      refine gq_then_ret ?_
      refine gq_results (resCT 0 rfl a33 rfl rfl rfl rfl rfl) ?_
      exact fun W1 hO => rx_nil hO (barR_long1 (by omega))
    ·
      replace hc1 := of_decide_eq_false hc1
      refine gc_skip ?_
      refine gq_next ?_
      refine gc_seq ?_
      refine gc_seq ?_
      refine gc_region ?_
      refine ne (eo_mv rfl rfl) rfl ?_
      refine ne (eo_lss rfl rfl rfl) rfl ?_
      refine ne (eo_mv rfl rfl) rfl ?_
      refine ng rfl rfl (fun h => eo_mv rfl rfl) rfl ?_
      refine ng rfl rfl (fun h => eo_gtr rfl (ev_if h rfl) rfl) rfl ?_
      refine ne (eo_or rfl rfl (fun hb => ev_if hb rfl)) rfl ?_
      refine ne (eo_mv rfl rfl) rfl ?_
      refine ng rfl rfl (fun h => eo_loadA 1 rfl a38 rfl rfl rfl rfl) rfl ?_
      refine ng rfl rfl (fun h => eo_call rfl en43 (evs_cons (ev_if h rfl) evs_nil) (fun W1 hO => right_c _ _ W1  )) rfl ?_
      refine ng rfl rfl (fun h => eo_not rfl (ev_if h rfl)) rfl ?_
      refine ne (eo_or rfl rfl (fun hb => ev_if hb rfl)) rfl ?_
      refine go_nil ?_
      refine gq_next ?_
      refine gc_cond rfl (fun hc2 => ?_) (fun hc2 => ?_)
      ·
        have hd2 := (or_t hc2).imp (fun h => (or_t h).imp (fun h => of_decide_eq_true h) (fun h => of_decide_eq_true h)) (fun h => (not_t h))
        refine gc_seq ?_
        refine gc_region ?_
        refine ne (eo_build rfl rfl (b33_)) rfl ?_
        refine nu (xo_storeA 0 rfl a33 rfl rfl (ones_cons (by first | rfl | exact AS.one) (ones_cons (by first | rfl | exact AS.one) (ones_cons (by first | rfl | exact AS.one) ones_nil))) rfl rfl rfl rfl) ?_
        rintro _ _ ⟨rfl, rfl⟩
        refine ne (eo_as rfl rfl) rfl ?_
        refine go_nil ?_
        refine gq_next ?_
        refine gc_ret ?_
        refine gq_then_ret ?_
        refine gq_results (resCT 0 rfl a33 rfl rfl rfl rfl rfl) ?_
        exact fun W1 hO => rx_nil hO (barR_range (by omega) (by omega) (hd2.imp (fun h => h.imp (fun h => by omega) (fun h => by omega)) id))
      ·
        have hd2 := (or_f hc2).imp (fun h => (or_f h).imp (fun h => of_decide_eq_false h) (fun h => of_decide_eq_false h)) (fun h => (not_f h))
        have ho : optB s q = true := hd2.2
        obtain ⟨o1, o2, o3, o4⟩ := optB_iff.1 ho
        have m1 := opt_mul (a := (n : Int)) (s := s) (q := q) (by omega) (by omega) (by omega) (by omega) (by omega) (by omega)
        have m2 := opt_mul1 (s := s) (q := q) (by omega) (by omega) (by omega) (by omega)
        have m3 : (n : Int) * s + 2 * (q * s) = ((n : Int) + 2 * q) * s := by rw [Int.add_mul, Int.mul_assoc]
        have m4 : 0 ≤ (n : Int) * s := Int.mul_nonneg (by omega) (by omega)
        refine gc_skip ?_
        refine gq_next ?_
        refine gc_seq ?_
        refine gc_region ?_
        refine ne (eo_field rfl f38_1 rfl) rfl ?_
        refine ne (eo_load 1 rfl s3 rfl rfl rfl rfl) rfl ?_
        refine ne (eo_field rfl f38_0 rfl) rfl ?_
        refine ne (eo_load 1 rfl s3 rfl rfl rfl rfl) rfl ?_
        refine ne (eo_mul rfl rfl rfl (by omega) (by omega)) rfl ?_
        refine ne (eo_as rfl rfl) rfl ?_
        refine go_nil ?_
        refine gq_next ?_
        refine gc_seq ?_
        refine gc_region ?_
        refine ne (eo_mv rfl rfl) rfl ?_
        refine ne (eo_field rfl f38_1 rfl) rfl ?_
        refine ne (eo_load 1 rfl s3 rfl rfl rfl rfl) rfl ?_
        refine ne (eo_mul rfl rfl rfl (by omega) (by omega)) rfl ?_
        refine ne (eo_add rfl rfl rfl (by omega) (by omega)) rfl ?_
        refine ne (eo_field rfl f38_0 rfl) rfl ?_
        refine ne (eo_load 1 rfl s3 rfl rfl rfl rfl) rfl ?_
        refine ne (eo_mul rfl rfl rfl (by omega) (by omega)) rfl ?_
        refine ne (eo_mv rfl rfl) rfl ?_
        refine ne (eo_mv rfl rfl) rfl ?_
        refine ne (eo_mul rfl rfl rfl (by omega) (by omega)) rfl ?_
        refine ne (eo_add rfl rfl rfl (by omega) (by omega)) rfl ?_
        refine ne (eo_build rfl rfl (b33_01 _ _)) rfl ?_
        refine nx (xo_alloc rfl z33) rfl ?_
        rintro _ _ ⟨g10, rfl, rfl⟩
        refine nu (xo_storeA 0 rfl a33 rfl rfl (ones_cons (by first | rfl | exact AS.one) (ones_cons (by first | rfl | exact AS.one) (ones_cons (by first | rfl | exact AS.one) ones_nil))) rfl rfl rfl rfl) ?_
        rintro _ _ ⟨rfl, rfl⟩
        refine go_nil ?_
        refine gq_next ?_
        refine gc_seq ?_
        refine gc_seq ?_
        refine gc_region ?_
        refine ne (eo_field rfl f33_0 rfl) rfl ?_
        refine ne (eo_load 0 rfl s3 rfl rfl rfl rfl) rfl ?_
        refine ne (eo_field rfl f33_1 rfl) rfl ?_
        refine ne (eo_load 0 rfl s3 rfl rfl rfl rfl) rfl ?_
        refine ne (eo_call rfl en39 rfl (fun W1 hO => fits43_c _ _ W1  )) rfl ?_
        refine ne (eo_not rfl rfl) rfl ?_
        refine go_nil ?_
        refine gq_next ?_
        refine gc_cond rfl (fun hc3 => ?_) (fun hc3 => ?_)
        ·
          have hd3 := (not_t hc3)
          have hf3 := not_t hc3
          have hf3 := not_t hc3
          refine gc_seq ?_
          refine gc_region ?_
          refine ne (eo_build rfl rfl (b33_)) rfl ?_
          refine nu (xo_storeA 1 rfl a33 rfl rfl (ones_cons (by first | rfl | exact AS.one) (ones_cons (by first | rfl | exact AS.one) (ones_cons (by first | rfl | exact AS.one) ones_nil))) rfl rfl rfl rfl) ?_
          rintro _ _ ⟨rfl, rfl⟩
          refine ne (eo_as rfl rfl) rfl ?_
          refine go_nil ?_
          refine gq_next ?_
          refine gc_ret ?_
          refine gq_then_ret ?_
          refine gq_results (resCT 1 rfl a33 rfl rfl rfl rfl rfl) ?_
          exact fun W1 hO => rx_nil hO (barR_long (by omega) (by omega) (by omega) (by omega) ho hf3)
        ·
          have hd3 := (not_f hc3)
          have hf3 := not_f hc3
          have hf3 := not_f hc3
          have hfb := fits_bd hf3
          obtain ⟨f1, f2, f3, f4, f5⟩ := fitsB_iff.1 hf3
          refine gc_skip ?_
          refine gq_next ?_
          refine gc_seq ?_
          refine gc_seq ?_
          refine gc_region ?_
          refine ne (eo_as rfl rfl) rfl ?_
          refine go_nil ?_
          refine gq_next ?_
          refine gc_block ?_
          refine loop3 (fun (y : Nat) (k : Nat) (u : AS) => (y : Int) ≤ ht + 2 * (q * s) ∧ (k : Int) = y * (((n : Int) + 2 * q) * s) ∧ u.Ok 1 k (tab k (bv (barP n f ht s q n)))) (fun (y : Nat) (k : Nat) (u : AS) => (ht + 2 * (q * s) - y).toNat) (fun (y : Nat) (k : Nat) (u : AS) => [(0, .slice A n c), (1, .int .i64 ht), (5, .pointer (some ⟨g5, 0, none⟩)), (6, .pointer (some ⟨g6, 0, none⟩)), (8, .int .i64 ((n : Nat) : Int)), (9, .int .i64 (q * s)), (10, .pointer (some ⟨g10, 0, none⟩)), (11, .int .i64 (y : Int))]) (fun (y : Nat) (k : Nat) (u : AS) => ⟨g10, 33, [.int .i64 ((((n : Nat) : Int) + (2 * q)) * s), .int .i64 (ht + (2 * (q * s))), u.val k]⟩ :: ⟨g6, 33, [.int .i64 0, .int .i64 0, .slice none 0 0]⟩ :: ⟨g5, 38, [.int .i64 s, .int .i64 q]⟩ :: u.blks 4 (tab k (bv (barP n f ht s q n)))) 0 0 .nil ⟨by omega, by simp, AS.Ok0⟩ ⟨rfl, rfl, rfl, rfl, rfl, rfl, rfl, rfl, trivial⟩ (List.Sublist.refl _) ?_
          rintro y k u ⟨hy, hk, hs⟩
          refine gc_seq ?_
          refine gc_seq ?_
          refine gc_region ?_
          refine ne (eo_mv rfl rfl) rfl ?_
          refine ne (eo_field rfl f33_1 rfl) rfl ?_
          refine ne (eo_load 0 rfl s3 rfl rfl rfl rfl) rfl ?_
          refine ne (eo_lss rfl rfl rfl) rfl ?_
          refine go_nil ?_
          refine gq_next ?_
          refine gc_cond rfl (fun hc4 => ?_) (fun hc4 => ?_)
          ·
            replace hc4 := of_decide_eq_true hc4
            have hyb := idx_bd (W := ((n : Int) + 2 * q) * s) (H := ht + 2 * (q * s)) (x := 0) (y := y) (by omega) (by omega) (by omega) (by omega)
            have ha : ((y : Int) + 1) * (((n : Int) + 2 * q) * s) = y * (((n : Int) + 2 * q) * s) + (((n : Int) + 2 * q) * s) := add1_mul
            refine gc_skip ?_
            refine gq_next ?_
            refine gc_seq ?_
            refine gc_block ?_
            refine gc_seq ?_
            refine gc_region ?_
            refine ne (eo_as rfl rfl) rfl ?_
            refine go_nil ?_
            refine gq_next ?_
            refine gc_block ?_
            refine loop3 (fun (x : Nat) (k : Nat) (u : AS) => (x : Int) ≤ ((n : Int) + 2 * q) * s ∧ (k : Int) = y * (((n : Int) + 2 * q) * s) + x ∧ u.Ok 1 k (tab k (bv (barP n f ht s q n)))) (fun (x : Nat) (k : Nat) (u : AS) => (((n : Int) + 2 * q) * s - x).toNat) (fun (x : Nat) (k : Nat) (u : AS) => [(0, .slice A n c), (1, .int .i64 ht), (5, .pointer (some ⟨g5, 0, none⟩)), (6, .pointer (some ⟨g6, 0, none⟩)), (8, .int .i64 ((n : Nat) : Int)), (9, .int .i64 (q * s)), (10, .pointer (some ⟨g10, 0, none⟩)), (11, .int .i64 (y : Int)), (12, .int .i64 (x : Int))]) (fun (x : Nat) (k : Nat) (u : AS) => ⟨g10, 33, [.int .i64 ((((n : Nat) : Int) + (2 * q)) * s), .int .i64 (ht + (2 * (q * s))), u.val k]⟩ :: ⟨g6, 33, [.int .i64 0, .int .i64 0, .slice none 0 0]⟩ :: ⟨g5, 38, [.int .i64 s, .int .i64 q]⟩ :: u.blks 4 (tab k (bv (barP n f ht s q n)))) 0 k u ⟨by omega, by omega, hs⟩ ⟨rfl, rfl, rfl, rfl, rfl, rfl, rfl, rfl, rfl, trivial⟩ (List.Sublist.refl _) ?_
            rintro x k u ⟨hx, hk, hs⟩
            refine gc_seq ?_
            refine gc_seq ?_
            refine gc_region ?_
            refine ne (eo_mv rfl rfl) rfl ?_
            refine ne (eo_field rfl f33_0 rfl) rfl ?_
            refine ne (eo_load 0 rfl s3 rfl rfl rfl rfl) rfl ?_
            refine ne (eo_lss rfl rfl rfl) rfl ?_
            refine go_nil ?_
            refine gq_next ?_
            refine gc_cond rfl (fun hc5 => ?_) (fun hc5 => ?_)
            ·
              replace hc5 := of_decide_eq_true hc5
              have dx := div_bd (a := (x : Int)) (s := s) (by omega) (by omega)
              refine gc_skip ?_
              refine gq_next ?_
              refine gc_seq ?_
              refine gc_block ?_
              refine gc_seq ?_
              refine gc_draw [] [0, 1, 2, 3, 4, 5, 6, 7] [] [] (by kernel_rfl) (by kernel_rfl) ?_
              refine gp_nil ?_
              refine de rfl (eo_mv rfl rfl) rfl ?_
              refine de rfl (eo_field rfl f38_0 rfl) rfl ?_
              refine de rfl (eo_load 2 rfl s3 rfl rfl rfl rfl) rfl ?_
              refine de rfl (eo_quo rfl rfl rfl (by omega) (by omega) (by omega)) rfl ?_
              refine de rfl (eo_field rfl f38_1 rfl) rfl ?_
              refine de rfl (eo_load 2 rfl s3 rfl rfl rfl rfl) rfl ?_
              refine de rfl (eo_sub rfl rfl rfl (by omega) (by omega)) rfl ?_
              refine de rfl (eo_as rfl rfl) rfl ?_
              refine ge_nil ?_
              refine ga_nil ?_
              refine gi_nil ?_
              refine gq_nq ?_
              refine gq_next ?_
              refine gc_draw [] [0, 1, 2, 3, 4, 5, 6, 7, 8, 9, 10, 11, 12, 13, 14, 15, 16, 17, 18, 19, 20, 21, 22, 23, 24, 25, 26] [27] [28, 29, 30] (by kernel_rfl) (by kernel_rfl) ?_
              refine gp_nil ?_
              refine de rfl (eo_field rfl f33_2 rfl) rfl ?_
              refine de rfl (eo_load 0 rfl s31 rfl rfl rfl rfl) rfl ?_
              refine de rfl (eo_mv rfl rfl) rfl ?_
              refine de rfl (eo_geq rfl rfl rfl) rfl ?_
              refine de rfl (eo_mv rfl rfl) rfl ?_
              refine dg rfl rfl rfl (fun h => eo_mv rfl rfl) rfl ?_
              refine dg rfl rfl rfl (fun h => eo_mv rfl rfl) rfl ?_
              refine dg rfl rfl rfl (fun h => eo_lss rfl (ev_if h rfl) (ev_if h rfl)) rfl ?_
              refine de rfl (eo_and rfl rfl (fun hb => ev_if hb rfl)) rfl ?_
              refine de rfl (eo_mv rfl rfl) rfl ?_
              refine dg rfl rfl rfl (fun h => eo_mv rfl rfl) rfl ?_
              refine dg rfl rfl rfl (fun h => eo_mv rfl rfl) rfl ?_
              refine dg rfl rfl rfl (fun h => eo_indexR rfl sl31 (ev_if h rfl) (ev_if h rfl) hr (by simp) (by have hg0 := (and_t h).imp (fun h => of_decide_eq_true h) (fun h => of_decide_eq_true h); omega) (by have hg0 := (and_t h).imp (fun h => of_decide_eq_true h) (fun h => of_decide_eq_true h); omega)) rfl ?_
              refine dg rfl rfl rfl (fun h => eo_load_old rfl s4 (ev_if h rfl) (Rd.tabb hr (by have hg0 := (and_t h).imp (fun h => of_decide_eq_true h) (fun h => of_decide_eq_true h); omega)) (by simp)) rfl ?_
              refine de rfl (eo_and rfl rfl (fun hb => ev_if hb rfl)) rfl ?_
              refine de rfl (eo_mv rfl rfl) rfl ?_
              refine dg rfl rfl rfl (fun h => eo_mv rfl rfl) rfl ?_
              refine dg rfl rfl rfl (fun h => eo_mv rfl rfl) rfl ?_
              refine dg rfl rfl rfl (fun h => eo_geq rfl (ev_if h rfl) (ev_if h rfl)) rfl ?_
              refine de rfl (eo_and rfl rfl (fun hb => ev_if hb rfl)) rfl ?_
              refine de rfl (eo_mv rfl rfl) rfl ?_
              refine dg rfl rfl rfl (fun h => eo_mv rfl rfl) rfl ?_
              refine dg rfl rfl rfl (fun h => eo_mv rfl rfl) rfl ?_
              refine dg rfl rfl rfl (fun h => eo_mv rfl rfl) rfl ?_
              refine dg rfl rfl rfl (fun h => eo_add rfl (ev_if h rfl) (ev_if h rfl) (by have hg0 := (and_t h).imp (fun h => (and_t h).imp (fun h => (and_t h).imp (fun h => of_decide_eq_true h) (fun h => of_decide_eq_true h)) (fun h => h)) (fun h => of_decide_eq_true h); omega) (by have hg0 := (and_t h).imp (fun h => (and_t h).imp (fun h => (and_t h).imp (fun h => of_decide_eq_true h) (fun h => of_decide_eq_true h)) (fun h => h)) (fun h => of_decide_eq_true h); omega)) rfl ?_
              refine dg rfl rfl rfl (fun h => eo_lss rfl (ev_if h rfl) (ev_if h rfl)) rfl ?_
              refine de rfl (eo_and rfl rfl (fun hb => ev_if hb rfl)) rfl ?_
              refine ge_nil ?_
              refine da rfl (xo_lit1 rfl Try.underlying31 e4 rfl (by first | rfl | exact AS.one)) rfl ?_
              rintro _ _ ⟨g105, rfl, rfl⟩
              refine ⟨by first | exact (List.Sublist.cons _ (List.Sublist.refl _)) | exact (List.sublist_append_left _ _), ?_⟩
              refine ga_nil ?_
              refine ix rfl (xo_app1b 4 rfl rfl Try.underlying31 e4 rfl hs rfl rfl (bar_at hk (by omega) (by omega)) (by omega)) rfl ?_
              rintro _ _ ⟨s106, hs106, rfl, rfl⟩
              refine ie rfl (eo_field rfl f33_2 rfl) rfl ?_
              refine iu rfl (xo_store 1 rfl s31 rfl rfl (by first | rfl | exact AS.one) rfl rfl (by simp)) ?_
              rintro _ _ ⟨rfl, rfl⟩
              refine gi_nil ?_
              refine gq_nq ?_
              refine gq_block_end ?_
              refine gq_next ?_
              refine gc_region ?_
              refine ne (eo_mv rfl rfl) rfl ?_
              refine ne (eo_add rfl rfl rfl (by omega) (by omega)) rfl ?_
              refine ne (eo_as rfl rfl) rfl ?_
              refine go_nil ?_
              exact round3 (x + 1) (k + 1) s106 ⟨by omega, by push_cast; omega, hs106⟩ (by omega) ⟨rfl, rfl, rfl, rfl, rfl, rfl, rfl, rfl, rfl, trivial⟩ (List.Sublist.cons _ (List.Sublist.refl _))
            ·
              replace hc5 := of_decide_eq_false hc5
              refine gc_exit ?_
              refine gq_then_exit ?_
              refine gq_then_exit ?_
              refine gq_block_hit ?_
              refine gq_block_end ?_
              refine gq_next ?_
              refine gc_region ?_
              refine ne (eo_mv rfl rfl) rfl ?_
              refine ne (eo_add rfl rfl rfl (by omega) (by omega)) rfl ?_
              refine ne (eo_as rfl rfl) rfl ?_
              refine go_nil ?_
              exact round3 (y + 1) k u ⟨by omega, by push_cast; omega, hs⟩ (by omega) ⟨rfl, rfl, rfl, rfl, rfl, rfl, rfl, rfl, trivial⟩ (List.Sublist.refl _)
          ·
            replace hc4 := of_decide_eq_false hc4
            refine gc_exit ?_
            refine gq_then_exit ?_
            refine gq_then_exit ?_
            refine gq_block_hit ?_
            refine gq_next ?_
            refine gc_seq ?_
            refine gc_region ?_
            refine ne (eo_loadA 0 rfl a33 rfl rfl rfl rfl) rfl ?_
            refine nu (xo_storeA 1 rfl a33 rfl rfl (ones_cons (by first | rfl | exact AS.one) (ones_cons (by first | rfl | exact AS.one) (ones_cons (by first | rfl | exact AS.one) ones_nil))) rfl rfl rfl rfl) ?_
            rintro _ _ ⟨rfl, rfl⟩
            refine ne (eo_as rfl rfl) rfl ?_
            refine go_nil ?_
            refine gq_next ?_
            refine gc_ret ?_
            refine gq_results (resCT 1 rfl a33 rfl rfl rfl rfl rfl) ?_
            have hkn : (((n : Int) + 2 * q) * s * (ht + 2 * (q * s))).toNat = k := by rw [show (y : Int) = ht + 2 * (q * s) by omega, Int.mul_comm (ht + 2 * (q * s))] at hk; omega
            subst hkn
            exact fun W1 hO => rx_as 3 hO rfl hs (barR_ok (by omega) (by omega) (by omega) (by omega) ho hf3)

end Go.Proofs.Ytibooikbbcilcaa
