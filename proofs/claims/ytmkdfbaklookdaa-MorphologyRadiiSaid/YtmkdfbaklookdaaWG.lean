/-
  The walks of the functions of package morphology and of the document's answer (part G): what each call returns, at every argument.
-/
import Derived.Test.YtmkdfbaklookdaaWF
namespace Go.Proofs.Ytmkdfbaklookdaa
open Go.RowKit Go.Eng

open Go.Bs
theorem lit22_410f6c1b (W : World) : (Instr.buildSlice 22 3 #[(0, .bool true), (1, .bool false), (2, .bool true)]).run Try.prog W = .ok (.slice (some ⟨W.heap.size, 0, none⟩) 3 3) (W.alloc (.cells (tab 3 (bv (litF false [true, false, true])) ++ []).toArray 4)) := by kernel_rfl
theorem en20 : Ent Try.prog 20 := ent_of Try.func20 (by kernel_rfl) rfl
theorem en18 : Ent Try.prog 18 := ent_of Try.func18 (by kernel_rfl) rfl
theorem lit22_e8b475db (W : World) : (Instr.buildSlice 22 9 #[(0, .bool true), (1, .bool true), (2, .bool true), (3, .bool true), (4, .bool true), (5, .bool true), (6, .bool true), (7, .bool true), (8, .bool true)]).run Try.prog W = .ok (.slice (some ⟨W.heap.size, 0, none⟩) 9 9) (W.alloc (.cells (tab 9 (bv (litF false [true, true, true, true, true, true, true, true, true])) ++ []).toArray 4)) := by kernel_rfl
theorem en24 : Ent Try.prog 24 := ent_of Try.func24 (by kernel_rfl) rfl
theorem en22 : Ent Try.prog 22 := ent_of Try.func22 (by kernel_rfl) rfl

/-- barscan/barscanlaw37.same -/
theorem same37_c (W H : Int) (A : Option Addr) (n c : Nat) (f : Nat → Bool) (W1 H1 : Int) (A1 : Option Addr) (n1 c1 : Nat) (f1 : Nat → Bool) (w : World) (hr : Rd w A (tab n (bv f))) (hr1 : Rd w A1 (tab n1 (bv f1))) (hn : n ≤ 140737488355328) :
    Calls Try.prog 16 #[.agg #[.int .i64 W, .int .i64 H, .slice A n c], .agg #[.int .i64 W1, .int .i64 H1, .slice A1 n1 c1]] w (fun e w' => e = .returned (.bool (eqM W H n f W1 H1 n1 f1)) ∧ Ext w w') := by
  refine calls_enter (N := ⟨45, []⟩) [] ([]) Try.func16 rfl rfl rfl (Ow.start _) ?_
  refine gc_seq ?_
  refine gc_region ?_
  refine nx (xo_boxA rfl rfl) rfl ?_
  rintro _ _ ⟨g2, rfl, rfl⟩
  refine nx (xo_boxA rfl rfl) rfl ?_
  rintro _ _ ⟨g3, rfl, rfl⟩
  refine ne (eo_as rfl rfl) rfl ?_
  refine go_nil ?_
  refine gq_next ?_
  refine gc_seq ?_
  refine gc_seq ?_
  refine gc_region ?_
  refine ne (eo_field rfl f24_0 rfl) rfl ?_
  refine ne (eo_load 1 rfl s3 rfl rfl rfl rfl) rfl ?_
  refine ne (eo_field rfl f24_0 rfl) rfl ?_
  refine ne (eo_load 0 rfl s3 rfl rfl rfl rfl) rfl ?_
  refine ne (eo_neq rfl rfl rfl) rfl ?_
  refine ne (eo_mv rfl rfl) rfl ?_
  refine ng rfl rfl (fun h => eo_field rfl f24_1 rfl) rfl ?_
  refine ng rfl rfl (fun h => eo_load 1 rfl s3 (ev_if h rfl) rfl rfl rfl) rfl ?_
  refine ng rfl rfl (fun h => eo_field rfl f24_1 rfl) rfl ?_
  refine ng rfl rfl (fun h => eo_load 0 rfl s3 (ev_if h rfl) rfl rfl rfl) rfl ?_
  refine ng rfl rfl (fun h => eo_neq rfl (ev_if h rfl) (ev_if h rfl)) rfl ?_
  refine ne (eo_or rfl rfl (fun hb => ev_if hb rfl)) rfl ?_
  refine ne (eo_mv rfl rfl) rfl ?_
  refine ng rfl rfl (fun h => eo_field rfl f24_2 rfl) rfl ?_
  refine ng rfl rfl (fun h => eo_load 1 rfl s22 (ev_if h rfl) rfl rfl rfl) rfl ?_
  refine ng rfl rfl (fun h => eo_len rfl Try.underlying22 (ev_if h rfl)) rfl ?_
  refine ng rfl rfl (fun h => eo_field rfl f24_2 rfl) rfl ?_
  refine ng rfl rfl (fun h => eo_load 0 rfl s22 (ev_if h rfl) rfl rfl rfl) rfl ?_
  refine ng rfl rfl (fun h => eo_len rfl Try.underlying22 (ev_if h rfl)) rfl ?_
  refine ng rfl rfl (fun h => eo_neq rfl (ev_if h rfl) (ev_if h rfl)) rfl ?_
  refine ne (eo_or rfl rfl (fun hb => ev_if hb rfl)) rfl ?_
  refine go_nil ?_
  refine gq_next ?_
  refine gc_cond rfl (fun hc0 => ?_) (fun hc0 => ?_)
  ·
    have hd0 := (or_t hc0).imp (fun h => (or_t h).imp (fun h => of_decide_eq_true h) (fun h => of_decide_eq_true h)) (fun h => of_decide_eq_true h)
    refine gc_seq ?_
    refine gc_region ?_
    refine ne (eo_as rfl rfl) rfl ?_
    refine go_nil ?_
    refine gq_next ?_
    refine gc_ret ?_
    refine gq_then_ret ?_
    refine gq_results (res1 rfl rfl) ?_
    exact fun W2 hO => ⟨ret_bool ((eqM_test hc0).symm), hO.toExt⟩
  ·
    have hd0 := (or_f hc0).imp (fun h => (or_f h).imp (fun h => ne_f h) (fun h => ne_f h)) (fun h => ne_f h)
    refine gc_skip ?_
    refine gq_next ?_
    refine gc_seq ?_
    refine gc_seq ?_
    refine gc_region ?_
    refine ne (eo_field rfl f24_2 rfl) rfl ?_
    refine ne (eo_load 1 rfl s22 rfl rfl rfl rfl) rfl ?_
    refine ne (eo_len rfl Try.underlying22 rfl) rfl ?_
    refine ne (eo_mv rfl rfl) rfl ?_
    refine go_nil ?_
    refine gq_next ?_
    refine gc_block ?_
    refine loop1 (fun (k : Nat) => k ≤ n ∧ ∀ i, i < k → f i = f1 i) (fun (k : Nat) => n - k) (fun (k : Nat) => [(2, .pointer (some ⟨g2, 0, none⟩)), (3, .pointer (some ⟨g3, 0, none⟩)), (29, .int .i64 ((n : Nat) : Int)), (30, .int .i64 (k : Int))]) (fun (k : Nat) => [⟨g3, 24, [.int .i64 W1, .int .i64 H1, .slice A1 n1 c1]⟩, ⟨g2, 24, [.int .i64 W, .int .i64 H, .slice A n c]⟩]) 0 ⟨by omega, fun i hi => absurd hi (by omega)⟩ ⟨rfl, rfl, rfl, rfl, trivial⟩ (List.Sublist.refl _) ?_
    rintro k ⟨hk, hI⟩
    refine gc_seq ?_
    refine gc_region ?_
    refine ne (eo_lss rfl rfl rfl) rfl ?_
    refine go_nil ?_
    refine gq_next ?_
    refine gc_seq ?_
    refine gc_cond rfl (fun hc1 => ?_) (fun hc1 => ?_)
    ·
      replace hc1 := of_decide_eq_true hc1
      refine gc_skip ?_
      refine gq_next ?_
      refine gc_seq ?_
      refine gc_block ?_
      refine gc_seq ?_
      refine gc_region ?_
      refine ne (eo_mv rfl rfl) rfl ?_
      refine ne (eo_as rfl rfl) rfl ?_
      refine go_nil ?_
      refine gq_next ?_
      refine gc_seq ?_
      refine gc_draw [] [0, 1, 2, 3, 4, 5, 6, 7, 8, 9, 10] [] [] (by kernel_rfl) (by kernel_rfl) ?_
      refine gp_nil ?_
      refine de rfl (eo_field rfl f24_2 rfl) rfl ?_
      refine de rfl (eo_load 1 rfl s22 rfl rfl rfl rfl) rfl ?_
      refine de rfl (eo_mv rfl rfl) rfl ?_
      refine de rfl (eo_indexR rfl sl22 rfl rfl hr (by simp) (by omega) (by omega)) rfl ?_
      refine de rfl (eo_load_old rfl s4 rfl (Rd.tabb hr (by omega)) (by simp)) rfl ?_
      refine de rfl (eo_field rfl f24_2 rfl) rfl ?_
      refine de rfl (eo_load 0 rfl s22 rfl rfl rfl rfl) rfl ?_
      refine de rfl (eo_mv rfl rfl) rfl ?_
      refine de rfl (eo_indexR rfl sl22 rfl rfl hr1 (by simp) (by omega) (by omega)) rfl ?_
      refine de rfl (eo_load_old rfl s4 rfl (Rd.tabb hr1 (by omega)) (by simp)) rfl ?_
      refine de rfl (eo_bneq rfl rfl rfl Try.underlying4) rfl ?_
      refine ge_nil ?_
      refine ga_nil ?_
      refine gi_nil ?_
      refine gq_nq ?_
      refine gq_next ?_
      refine gc_cond rfl (fun hc2 => ?_) (fun hc2 => ?_)
      ·
        refine gc_seq ?_
        refine gc_region ?_
        refine ne (eo_as rfl rfl) rfl ?_
        refine go_nil ?_
        refine gq_next ?_
        refine gc_ret ?_
        refine gq_block_ret ?_
        refine gq_then_ret ?_
        refine gq_then_ret ?_
        refine gq_block_ret ?_
        refine gq_then_ret ?_
        refine gq_results (res1 rfl rfl) ?_
        exact fun W2 hO => ⟨ret_bool ((eqM_differ k (by omega) (by simpa [bne] using hc2)).symm), hO.toExt⟩
      ·
        refine gc_skip ?_
        refine gq_block_end ?_
        refine gq_next ?_
        refine gc_region ?_
        refine ne (eo_add rfl rfl rfl (by omega) (by omega)) rfl ?_
        refine ne (eo_mv rfl rfl) rfl ?_
        refine go_nil ?_
        exact round1 (k + 1) ⟨by omega, upto_succ hI (by simpa [bne] using hc2)⟩ (by omega) ⟨rfl, rfl, rfl, rfl, trivial⟩ (List.Sublist.refl _)
    ·
      replace hc1 := of_decide_eq_false hc1
      refine gc_exit ?_
      refine gq_then_exit ?_
      refine gq_then_exit ?_
      refine gq_block_hit ?_
      refine gq_next ?_
      refine gc_seq ?_
      refine gc_region ?_
      refine ne (eo_as rfl rfl) rfl ?_
      refine go_nil ?_
      refine gq_next ?_
      refine gc_ret ?_
      refine gq_results (res1 rfl rfl) ?_
      exact fun W2 hO => ⟨ret_bool ((eqM_yes (by omega) (by omega) (by omega) (fun i hi => hI i (by omega))).symm), hO.toExt⟩

/-- barscan/barscanlaw37.within -/
theorem within37_c (W H : Int) (A : Option Addr) (n c : Nat) (f : Nat → Bool) (W1 H1 : Int) (A1 : Option Addr) (n1 c1 : Nat) (f1 : Nat → Bool) (w : World) (hr : Rd w A (tab n (bv f))) (hr1 : Rd w A1 (tab n1 (bv f1))) (hn : n ≤ 140737488355328) :
    Calls Try.prog 26 #[.agg #[.int .i64 W, .int .i64 H, .slice A n c], .agg #[.int .i64 W1, .int .i64 H1, .slice A1 n1 c1]] w (fun e w' => e = .returned (.bool (wiB ⟨W, H, n, f⟩ ⟨W1, H1, n1, f1⟩)) ∧ Ext w w') := by
  refine calls_enter (N := ⟨47, []⟩) [] ([]) Try.func26 rfl rfl rfl (Ow.start _) ?_
  refine gc_seq ?_
  refine gc_region ?_
  refine nx (xo_boxA rfl rfl) rfl ?_
  rintro _ _ ⟨g2, rfl, rfl⟩
  refine nx (xo_boxA rfl rfl) rfl ?_
  rintro _ _ ⟨g3, rfl, rfl⟩
  refine ne (eo_as rfl rfl) rfl ?_
  refine go_nil ?_
  refine gq_next ?_
  refine gc_seq ?_
  refine gc_seq ?_
  refine gc_region ?_
  refine ne (eo_field rfl f24_0 rfl) rfl ?_
  refine ne (eo_load 1 rfl s3 rfl rfl rfl rfl) rfl ?_
  refine ne (eo_field rfl f24_0 rfl) rfl ?_
  refine ne (eo_load 0 rfl s3 rfl rfl rfl rfl) rfl ?_
  refine ne (eo_neq rfl rfl rfl) rfl ?_
  refine ne (eo_mv rfl rfl) rfl ?_
  refine ng rfl rfl (fun h => eo_field rfl f24_1 rfl) rfl ?_
  refine ng rfl rfl (fun h => eo_load 1 rfl s3 (ev_if h rfl) rfl rfl rfl) rfl ?_
  refine ng rfl rfl (fun h => eo_field rfl f24_1 rfl) rfl ?_
  refine ng rfl rfl (fun h => eo_load 0 rfl s3 (ev_if h rfl) rfl rfl rfl) rfl ?_
  refine ng rfl rfl (fun h => eo_neq rfl (ev_if h rfl) (ev_if h rfl)) rfl ?_
  refine ne (eo_or rfl rfl (fun hb => ev_if hb rfl)) rfl ?_
  refine ne (eo_mv rfl rfl) rfl ?_
  refine ng rfl rfl (fun h => eo_field rfl f24_2 rfl) rfl ?_
  refine ng rfl rfl (fun h => eo_load 1 rfl s22 (ev_if h rfl) rfl rfl rfl) rfl ?_
  refine ng rfl rfl (fun h => eo_len rfl Try.underlying22 (ev_if h rfl)) rfl ?_
  refine ng rfl rfl (fun h => eo_field rfl f24_2 rfl) rfl ?_
  refine ng rfl rfl (fun h => eo_load 0 rfl s22 (ev_if h rfl) rfl rfl rfl) rfl ?_
  refine ng rfl rfl (fun h => eo_len rfl Try.underlying22 (ev_if h rfl)) rfl ?_
  refine ng rfl rfl (fun h => eo_neq rfl (ev_if h rfl) (ev_if h rfl)) rfl ?_
  refine ne (eo_or rfl rfl (fun hb => ev_if hb rfl)) rfl ?_
  refine go_nil ?_
  refine gq_next ?_
  refine gc_cond rfl (fun hc0 => ?_) (fun hc0 => ?_)
  ·
    have hd0 := (or_t hc0).imp (fun h => (or_t h).imp (fun h => of_decide_eq_true h) (fun h => of_decide_eq_true h)) (fun h => of_decide_eq_true h)
    refine gc_seq ?_
    refine gc_region ?_
    refine ne (eo_as rfl rfl) rfl ?_
    refine go_nil ?_
    refine gq_next ?_
    refine gc_ret ?_
    refine gq_then_ret ?_
    refine gq_results (res1 rfl rfl) ?_
    exact fun W2 hO => ⟨ret_bool ((wi_len (a := ⟨W, H, n, f⟩) (b := ⟨W1, H1, n1, f1⟩) (by simp only; omega)).symm), hO.toExt⟩
  ·
    have hd0 := (or_f hc0).imp (fun h => (or_f h).imp (fun h => ne_f h) (fun h => ne_f h)) (fun h => ne_f h)
    refine gc_skip ?_
    refine gq_next ?_
    refine gc_seq ?_
    refine gc_seq ?_
    refine gc_region ?_
    refine ne (eo_field rfl f24_2 rfl) rfl ?_
    refine ne (eo_load 1 rfl s22 rfl rfl rfl rfl) rfl ?_
    refine ne (eo_len rfl Try.underlying22 rfl) rfl ?_
    refine ne (eo_mv rfl rfl) rfl ?_
    refine go_nil ?_
    refine gq_next ?_
    refine gc_block ?_
    refine loop1 (fun (k : Nat) => k ≤ n ∧ ∀ i, i < k → f i = true → f1 i = true) (fun (k : Nat) => n - k) (fun (k : Nat) => [(2, .pointer (some ⟨g2, 0, none⟩)), (3, .pointer (some ⟨g3, 0, none⟩)), (29, .int .i64 ((n : Nat) : Int)), (30, .int .i64 (k : Int))]) (fun (k : Nat) => [⟨g3, 24, [.int .i64 W1, .int .i64 H1, .slice A1 n1 c1]⟩, ⟨g2, 24, [.int .i64 W, .int .i64 H, .slice A n c]⟩]) 0 ⟨by omega, fun i hi => absurd hi (by omega)⟩ ⟨rfl, rfl, rfl, rfl, trivial⟩ (List.Sublist.refl _) ?_
    rintro k ⟨hk, hI⟩
    refine gc_seq ?_
    refine gc_region ?_
    refine ne (eo_lss rfl rfl rfl) rfl ?_
    refine go_nil ?_
    refine gq_next ?_
    refine gc_seq ?_
    refine gc_cond rfl (fun hc1 => ?_) (fun hc1 => ?_)
    ·
      replace hc1 := of_decide_eq_true hc1
      refine gc_skip ?_
      refine gq_next ?_
      refine gc_seq ?_
      refine gc_block ?_
      refine gc_seq ?_
      refine gc_region ?_
      refine ne (eo_mv rfl rfl) rfl ?_
      refine ne (eo_as rfl rfl) rfl ?_
      refine go_nil ?_
      refine gq_next ?_
      refine gc_seq ?_
      refine gc_region ?_
      refine ne (eo_field rfl f24_2 rfl) rfl ?_
      refine ne (eo_load 1 rfl s22 rfl rfl rfl rfl) rfl ?_
      refine ne (eo_mv rfl rfl) rfl ?_
      refine ne (eo_indexR rfl sl22 rfl rfl hr (by simp) (by omega) (by omega)) rfl ?_
      refine ne (eo_load_old rfl s4 rfl (Rd.tabb hr (by omega)) (by simp)) rfl ?_
      refine ne (eo_mv rfl rfl) rfl ?_
      refine ng rfl rfl (fun h => eo_field rfl f24_2 rfl) rfl ?_
      refine ng rfl rfl (fun h => eo_load 0 rfl s22 (ev_if h rfl) rfl rfl rfl) rfl ?_
      refine ng rfl rfl (fun h => eo_mv rfl rfl) rfl ?_
      refine ng rfl rfl (fun h => eo_indexR rfl sl22 (ev_if h rfl) (ev_if h rfl) hr1 (by simp) (by omega) (by omega)) rfl ?_
      refine ng rfl rfl (fun h => eo_load_old rfl s4 (ev_if h rfl) (Rd.tabb hr1 (by omega)) (by simp)) rfl ?_
      refine ng rfl rfl (fun h => eo_not rfl (ev_if h rfl)) rfl ?_
      refine ne (eo_and rfl rfl (fun hb => ev_if hb rfl)) rfl ?_
      refine go_nil ?_
      refine gq_next ?_
      refine gc_cond rfl (fun hc2 => ?_) (fun hc2 => ?_)
      ·
        have hd2 := (and_t hc2).imp (fun h => h) (fun h => (not_t h))
        refine gc_seq ?_
        refine gc_region ?_
        refine ne (eo_as rfl rfl) rfl ?_
        refine go_nil ?_
        refine gq_next ?_
        refine gc_ret ?_
        refine gq_block_ret ?_
        refine gq_then_ret ?_
        refine gq_then_ret ?_
        refine gq_block_ret ?_
        refine gq_then_ret ?_
        refine gq_results (res1 rfl rfl) ?_
        exact fun W2 hO => ⟨ret_bool ((wi_no (a := ⟨W, H, n, f⟩) (b := ⟨W1, H1, n1, f1⟩) k (by simp only; omega) hd2.1 hd2.2).symm), hO.toExt⟩
      ·
        have hd2 := (and_f hc2).imp (fun h => h) (fun h => (not_f h))
        refine gc_skip ?_
        refine gq_block_end ?_
        refine gq_next ?_
        refine gc_region ?_
        refine ne (eo_add rfl rfl rfl (by omega) (by omega)) rfl ?_
        refine ne (eo_mv rfl rfl) rfl ?_
        refine go_nil ?_
        exact round1 (k + 1) ⟨by omega, fun i hi hf => by by_cases e : i = k; (· subst e; rcases hd2 with h | h; (· exact Bool.noConfusion (hf.symm.trans h)); exact h); exact hI i (by omega) hf⟩ (by omega) ⟨rfl, rfl, rfl, rfl, trivial⟩ (List.Sublist.refl _)
    ·
      replace hc1 := of_decide_eq_false hc1
      refine gc_exit ?_
      refine gq_then_exit ?_
      refine gq_then_exit ?_
      refine gq_block_hit ?_
      refine gq_next ?_
      refine gc_seq ?_
      refine gc_region ?_
      refine ne (eo_as rfl rfl) rfl ?_
      refine go_nil ?_
      refine gq_next ?_
      refine gc_ret ?_
      refine gq_results (res1 rfl rfl) ?_
      exact fun W2 hO => ⟨ret_bool ((wi_yes (a := ⟨W, H, n, f⟩) (b := ⟨W1, H1, n1, f1⟩) (by simp only; omega) (by simp only; omega) (by simp only; omega) (fun i hi => hI i (by simp only at hi; omega))).symm), hO.toExt⟩

/-- barscan/barscanlaw37.moderate -/
theorem moder_c (r : Int) (w : World)   :
    Calls Try.prog 17 #[.int .i64 r] w (fun e w' => e = .returned (.bool (decide (r ≤ 5) || decide (4096 < r))) ∧ Ext w w') := by
  refine calls_enter (N := ⟨9, []⟩) [] ([]) Try.func17 rfl rfl rfl (Ow.start _) ?_
  refine gc_seq ?_
  refine gc_region ?_
  refine ne (eo_as rfl rfl) rfl ?_
  refine go_nil ?_
  refine gq_next ?_
  refine gc_seq ?_
  refine gc_region ?_
  refine ne (eo_mv rfl rfl) rfl ?_
  refine ne (eo_leq rfl rfl rfl) rfl ?_
  refine ne (eo_mv rfl rfl) rfl ?_
  refine ng rfl rfl (fun h => eo_mv rfl rfl) rfl ?_
  refine ng rfl rfl (fun h => eo_gtr rfl (ev_if h rfl) rfl) rfl ?_
  refine ne (eo_or rfl rfl (fun hb => ev_if hb rfl)) rfl ?_
  refine ne (eo_as rfl rfl) rfl ?_
  refine go_nil ?_
  refine gq_next ?_
  refine gc_ret ?_
  refine gq_results (res1 rfl rfl) ?_
  exact fun W1 hO => ⟨rfl, hO.toExt⟩

/-- barscan/barscanlaw37.examples -/
theorem exam_c  (w : World)   :
    Calls Try.prog 11 #[] w (fun e w' => e = .returned (.bool true) ∧ Ext w w') := by
  refine calls_enter (N := ⟨146, []⟩) [] ([]) Try.func11 rfl rfl rfl (Ow.start _) ?_
  refine gc_seq ?_
  refine gc_region ?_
  refine ne (eo_as rfl rfl) rfl ?_
  refine go_nil ?_
  refine gq_next ?_
  refine gc_seq ?_
  refine gc_region ?_
  refine nx (xo_lit rfl rfl lit22_410f6c1b) rfl ?_
  rintro _ _ ⟨g13, rfl, rfl⟩
  refine ne (eo_build rfl rfl (b24_012 _ _ _ _ _)) rfl ?_
  refine nx (xo_alloc rfl z24) rfl ?_
  rintro _ _ ⟨g1, rfl, rfl⟩
  refine nu (xo_storeA 0 rfl a24 rfl rfl (ones_cons (by first | rfl | exact AS.one) (ones_cons (by first | rfl | exact AS.one) (ones_cons (by first | rfl | exact AS.one) ones_nil))) rfl rfl rfl rfl) ?_
  rintro _ _ ⟨rfl, rfl⟩
  refine go_nil ?_
  refine gq_next ?_
  refine gc_seq ?_
  refine gc_region ?_
  refine ne (eo_loadA 0 rfl a24 rfl rfl rfl rfl) rfl ?_
  refine nx (xo_freshT rfl en20 rfl (fun W1 hO => close_x _ _ _ _ _ _ _ _ W1 (tabs_rd hO 1 rfl) (by omega))) rfl ?_
  rintro _ _ ⟨S17, ⟨A17, k17, rfl, hk17, hS17⟩, rfl⟩
  refine ne (eo_mv rfl rfl) rfl ?_
  refine ne (eo_extract rfl rfl rfl) rfl ?_
  refine ne (eo_extract rfl rfl rfl) rfl ?_
  refine nx (xo_alloc rfl z24) rfl ?_
  rintro _ _ ⟨g2, rfl, rfl⟩
  refine nu (xo_storeA 0 rfl a24 rfl rfl (ones_cons (by first | rfl | exact AS.one) (ones_cons (by first | rfl | exact AS.one) (ones_cons (by first | rfl | exact AS.one) ones_nil))) rfl rfl rfl rfl) ?_
  rintro _ _ ⟨rfl, rfl⟩
  refine ne (eo_as rfl rfl) rfl ?_
  refine go_nil ?_
  refine gq_next ?_
  refine gc_seq ?_
  refine gc_region ?_
  refine ne (eo_loadA 1 rfl a24 rfl rfl rfl rfl) rfl ?_
  refine nx (xo_freshT rfl en18 rfl (fun W1 hO => open_x _ _ _ _ _ _ _ _ W1 (tabs_rd hO 2 rfl) (by omega))) rfl ?_
  rintro _ _ ⟨S22, ⟨A22, k22, rfl, hk22, hS22⟩, rfl⟩
  refine ne (eo_mv rfl rfl) rfl ?_
  refine ne (eo_extract rfl rfl rfl) rfl ?_
  refine ne (eo_extract rfl rfl rfl) rfl ?_
  refine nx (xo_alloc rfl z24) rfl ?_
  rintro _ _ ⟨g4, rfl, rfl⟩
  refine nu (xo_storeA 0 rfl a24 rfl rfl (ones_cons (by first | rfl | exact AS.one) (ones_cons (by first | rfl | exact AS.one) (ones_cons (by first | rfl | exact AS.one) ones_nil))) rfl rfl rfl rfl) ?_
  rintro _ _ ⟨rfl, rfl⟩
  refine ne (eo_as rfl rfl) rfl ?_
  refine go_nil ?_
  refine gq_next ?_
  refine gc_seq ?_
  refine gc_region ?_
  refine nx (xo_lit rfl rfl lit22_e8b475db) rfl ?_
  rintro _ _ ⟨g25, rfl, rfl⟩
  refine ne (eo_build rfl rfl (b24_012 _ _ _ _ _)) rfl ?_
  refine nx (xo_alloc rfl z24) rfl ?_
  rintro _ _ ⟨g6, rfl, rfl⟩
  refine nu (xo_storeA 0 rfl a24 rfl rfl (ones_cons (by first | rfl | exact AS.one) (ones_cons (by first | rfl | exact AS.one) (ones_cons (by first | rfl | exact AS.one) ones_nil))) rfl rfl rfl rfl) ?_
  rintro _ _ ⟨rfl, rfl⟩
  refine go_nil ?_
  refine gq_next ?_
  refine gc_seq ?_
  refine gc_region ?_
  refine ne (eo_loadA 0 rfl a24 rfl rfl rfl rfl) rfl ?_
  refine nx (xo_freshT rfl en24 rfl (fun W1 hO => outl_x _ _ _ _ _ _ W1 (tabs_rd hO 1 rfl) )) rfl ?_
  rintro _ _ ⟨S29, ⟨A29, k29, rfl, hk29, hS29⟩, rfl⟩
  refine ne (eo_mv rfl rfl) rfl ?_
  refine ne (eo_extract rfl rfl rfl) rfl ?_
  refine ne (eo_extract rfl rfl rfl) rfl ?_
  refine nx (xo_alloc rfl z24) rfl ?_
  rintro _ _ ⟨g7, rfl, rfl⟩
  refine nu (xo_storeA 0 rfl a24 rfl rfl (ones_cons (by first | rfl | exact AS.one) (ones_cons (by first | rfl | exact AS.one) (ones_cons (by first | rfl | exact AS.one) ones_nil))) rfl rfl rfl rfl) ?_
  rintro _ _ ⟨rfl, rfl⟩
  refine ne (eo_as rfl rfl) rfl ?_
  refine go_nil ?_
  refine gq_next ?_
  refine gc_seq ?_
  refine gc_region ?_
  refine ne (eo_loadA 1 rfl a24 rfl rfl rfl rfl) rfl ?_
  refine nx (xo_freshT rfl en22 rfl (fun W1 hO => maj_x _ _ _ _ _ _ _ W1 (tabs_rd hO 2 rfl) )) rfl ?_
  rintro _ _ ⟨S34, ⟨A34, k34, rfl, hk34, hS34⟩, rfl⟩
  refine ne (eo_mv rfl rfl) rfl ?_
  refine ne (eo_extract rfl rfl rfl) rfl ?_
  refine ne (eo_extract rfl rfl rfl) rfl ?_
  refine nx (xo_alloc rfl z24) rfl ?_
  rintro _ _ ⟨g9, rfl, rfl⟩
  refine nu (xo_storeA 0 rfl a24 rfl rfl (ones_cons (by first | rfl | exact AS.one) (ones_cons (by first | rfl | exact AS.one) (ones_cons (by first | rfl | exact AS.one) ones_nil))) rfl rfl rfl rfl) ?_
  rintro _ _ ⟨rfl, rfl⟩
  refine ne (eo_as rfl rfl) rfl ?_
  refine go_nil ?_
  refine gq_next ?_
  refine gc_seq ?_
  refine gc_region ?_
  refine ne (eo_loadA 6 rfl a24 rfl rfl rfl rfl) rfl ?_
  refine nx (xo_freshT rfl en12 rfl (fun W1 hO => erode_x _ _ _ _ _ _ _ _ W1 (tabs_rd hO 7 rfl) (by omega))) rfl ?_
  rintro _ _ ⟨S39, ⟨A39, k39, rfl, hk39, hS39⟩, rfl⟩
  refine ne (eo_mv rfl rfl) rfl ?_
  refine ne (eo_extract rfl rfl rfl) rfl ?_
  refine ne (eo_extract rfl rfl rfl) rfl ?_
  refine nx (xo_alloc rfl z24) rfl ?_
  rintro _ _ ⟨g11, rfl, rfl⟩
  refine nu (xo_storeA 0 rfl a24 rfl rfl (ones_cons (by first | rfl | exact AS.one) (ones_cons (by first | rfl | exact AS.one) (ones_cons (by first | rfl | exact AS.one) ones_nil))) rfl rfl rfl rfl) ?_
  rintro _ _ ⟨rfl, rfl⟩
  refine ne (eo_as rfl rfl) rfl ?_
  refine go_nil ?_
  refine gq_next ?_
  refine gc_seq ?_
  refine gc_seq ?_
  refine gc_region ?_
  refine ne (eo_mv rfl rfl) rfl ?_
  refine ne (eo_neq rfl rfl rfl) rfl ?_
  refine ne (eo_mv rfl rfl) rfl ?_
  refine ng rfl rfl (fun h => eo_mv rfl rfl) rfl ?_
  refine ng rfl rfl (fun h => eo_neq rfl (ev_if h rfl) rfl) rfl ?_
  refine ne (eo_or rfl rfl (fun hb => ev_if hb rfl)) rfl ?_
  refine ne (eo_mv rfl rfl) rfl ?_
  refine ng rfl rfl (fun h => eo_mv rfl rfl) rfl ?_
  refine ng rfl rfl (fun h => eo_neq rfl (ev_if h rfl) rfl) rfl ?_
  refine ne (eo_or rfl rfl (fun hb => ev_if hb rfl)) rfl ?_
  refine ne (eo_mv rfl rfl) rfl ?_
  refine ng rfl rfl (fun h => eo_mv rfl rfl) rfl ?_
  refine ng rfl rfl (fun h => eo_neq rfl (ev_if h rfl) rfl) rfl ?_
  refine ne (eo_or rfl rfl (fun hb => ev_if hb rfl)) rfl ?_
  refine ne (eo_mv rfl rfl) rfl ?_
  refine ng rfl rfl (fun h => eo_mv rfl rfl) rfl ?_
  refine ng rfl rfl (fun h => eo_neq rfl (ev_if h rfl) rfl) rfl ?_
  refine ne (eo_or rfl rfl (fun hb => ev_if hb rfl)) rfl ?_
  refine ne (eo_mv rfl rfl) rfl ?_
  refine ng rfl rfl (fun h => eo_field rfl f24_2 rfl) rfl ?_
  refine ng rfl rfl (fun h => eo_load 6 rfl s22 (ev_if h rfl) rfl rfl rfl) rfl ?_
  refine ng rfl rfl (fun h => eo_len rfl Try.underlying22 (ev_if h rfl)) rfl ?_
  refine ng rfl rfl (fun h => eo_neq rfl (ev_if h rfl) rfl) rfl ?_
  refine ne (eo_or rfl rfl (fun hb => ev_if hb rfl)) rfl ?_
  refine ne (eo_mv rfl rfl) rfl ?_
  refine ng rfl rfl (fun h => eo_field rfl f24_2 rfl) rfl ?_
  refine ng rfl rfl (fun h => eo_load 5 rfl s22 (ev_if h rfl) rfl rfl rfl) rfl ?_
  refine ng rfl rfl (fun h => eo_len rfl Try.underlying22 (ev_if h rfl)) rfl ?_
  refine ng rfl rfl (fun h => eo_neq rfl (ev_if h rfl) rfl) rfl ?_
  refine ne (eo_or rfl rfl (fun hb => ev_if hb rfl)) rfl ?_
  refine ne (eo_mv rfl rfl) rfl ?_
  refine ng rfl rfl (fun h => eo_field rfl f24_2 rfl) rfl ?_
  refine ng rfl rfl (fun h => eo_load 2 rfl s22 (ev_if h rfl) rfl rfl rfl) rfl ?_
  refine ng rfl rfl (fun h => eo_len rfl Try.underlying22 (ev_if h rfl)) rfl ?_
  refine ng rfl rfl (fun h => eo_neq rfl (ev_if h rfl) rfl) rfl ?_
  refine ne (eo_or rfl rfl (fun hb => ev_if hb rfl)) rfl ?_
  refine ne (eo_mv rfl rfl) rfl ?_
  refine ng rfl rfl (fun h => eo_field rfl f24_2 rfl) rfl ?_
  refine ng rfl rfl (fun h => eo_load 1 rfl s22 (ev_if h rfl) rfl rfl rfl) rfl ?_
  refine ng rfl rfl (fun h => eo_len rfl Try.underlying22 (ev_if h rfl)) rfl ?_
  refine ng rfl rfl (fun h => eo_neq rfl (ev_if h rfl) rfl) rfl ?_
  refine ne (eo_or rfl rfl (fun hb => ev_if hb rfl)) rfl ?_
  refine go_nil ?_
  refine gq_next ?_
  refine gc_cond rfl (fun hc0 => ?_) (fun hc0 => ?_)
  ·
    have hd0 := (or_t hc0).imp (fun h => (or_t h).imp (fun h => (or_t h).imp (fun h => (or_t h).imp (fun h => (or_t h).imp (fun h => (or_t h).imp (fun h => (or_t h).imp (fun h => (or_t h).imp (fun h => of_decide_eq_true h) (fun h => of_decide_eq_true h)) (fun h => of_decide_eq_true h)) (fun h => of_decide_eq_true h)) (fun h => of_decide_eq_true h)) (fun h => of_decide_eq_true h)) (fun h => of_decide_eq_true h)) (fun h => of_decide_eq_true h)) (fun h => of_decide_eq_true h)
    exact Bool.noConfusion (hc0.symm.trans (show _ = false from by kernel_rfl))
  ·
    have hd0 := (or_f hc0).imp (fun h => (or_f h).imp (fun h => (or_f h).imp (fun h => (or_f h).imp (fun h => (or_f h).imp (fun h => (or_f h).imp (fun h => (or_f h).imp (fun h => (or_f h).imp (fun h => ne_f h) (fun h => ne_f h)) (fun h => ne_f h)) (fun h => ne_f h)) (fun h => ne_f h)) (fun h => ne_f h)) (fun h => ne_f h)) (fun h => ne_f h)) (fun h => ne_f h)
    refine gc_skip ?_
    refine gq_next ?_
    refine gc_seq ?_
    refine gc_region ?_
    refine ne (eo_field rfl f24_2 rfl) rfl ?_
    refine ne (eo_load 6 rfl s22 rfl rfl rfl rfl) rfl ?_
    refine ne (eo_indexS rfl sl22 rfl rfl (fun W1 hO => (hS17.rd (hO.tl 9 rfl ((((List.sublist_append_left _ _).trans (List.sublist_append_left _ _)).trans (List.sublist_append_left _ _)).trans (List.sublist_append_left _ _))))) (by simp) (by omega) (by omega)) rfl ?_
    refine ne (eo_loadS rfl s4 rfl (fun W1 hO => Rd.tabb (hS17.rd (hO.tl 9 rfl ((((List.sublist_append_left _ _).trans (List.sublist_append_left _ _)).trans (List.sublist_append_left _ _)).trans (List.sublist_append_left _ _)))) (by omega))) rfl ?_
    refine ne (eo_mv rfl rfl) rfl ?_
    refine ng rfl rfl (fun h => eo_field rfl f24_2 rfl) rfl ?_
    refine ng rfl rfl (fun h => eo_load 6 rfl s22 (ev_if h rfl) rfl rfl rfl) rfl ?_
    refine ng rfl rfl (fun h => eo_indexS rfl sl22 (ev_if h rfl) rfl (fun W1 hO => (hS17.rd (hO.tl 9 rfl ((((List.sublist_append_left _ _).trans (List.sublist_append_left _ _)).trans (List.sublist_append_left _ _)).trans (List.sublist_append_left _ _))))) (by simp) (by omega) (by omega)) rfl ?_
    refine ng rfl rfl (fun h => eo_loadS rfl s4 (ev_if h rfl) (fun W1 hO => Rd.tabb (hS17.rd (hO.tl 9 rfl ((((List.sublist_append_left _ _).trans (List.sublist_append_left _ _)).trans (List.sublist_append_left _ _)).trans (List.sublist_append_left _ _)))) (by omega))) rfl ?_
    refine ne (eo_and rfl rfl (fun hb => ev_if hb rfl)) rfl ?_
    refine ne (eo_mv rfl rfl) rfl ?_
    refine ng rfl rfl (fun h => eo_field rfl f24_2 rfl) rfl ?_
    refine ng rfl rfl (fun h => eo_load 6 rfl s22 (ev_if h rfl) rfl rfl rfl) rfl ?_
    refine ng rfl rfl (fun h => eo_indexS rfl sl22 (ev_if h rfl) rfl (fun W1 hO => (hS17.rd (hO.tl 9 rfl ((((List.sublist_append_left _ _).trans (List.sublist_append_left _ _)).trans (List.sublist_append_left _ _)).trans (List.sublist_append_left _ _))))) (by simp) (by have hg0 := (and_t h).imp (fun h => h) (fun h => h); omega) (by have hg0 := (and_t h).imp (fun h => h) (fun h => h); omega)) rfl ?_
    refine ng rfl rfl (fun h => eo_loadS rfl s4 (ev_if h rfl) (fun W1 hO => Rd.tabb (hS17.rd (hO.tl 9 rfl ((((List.sublist_append_left _ _).trans (List.sublist_append_left _ _)).trans (List.sublist_append_left _ _)).trans (List.sublist_append_left _ _)))) (by have hg0 := (and_t h).imp (fun h => h) (fun h => h); omega))) rfl ?_
    refine ne (eo_and rfl rfl (fun hb => ev_if hb rfl)) rfl ?_
    refine ne (eo_mv rfl rfl) rfl ?_
    refine ng rfl rfl (fun h => eo_field rfl f24_2 rfl) rfl ?_
    refine ng rfl rfl (fun h => eo_load 5 rfl s22 (ev_if h rfl) rfl rfl rfl) rfl ?_
    refine ng rfl rfl (fun h => eo_indexS rfl sl22 (ev_if h rfl) rfl (fun W1 hO => (hS22.rd (hO.tl 9 rfl ((((List.sublist_append_right _ _).trans (List.sublist_append_left _ _)).trans (List.sublist_append_left _ _)).trans (List.sublist_append_left _ _))))) (by simp) (by have hg0 := (and_t h).imp (fun h => (and_t h).imp (fun h => h) (fun h => h)) (fun h => h); omega) (by have hg0 := (and_t h).imp (fun h => (and_t h).imp (fun h => h) (fun h => h)) (fun h => h); omega)) rfl ?_
    refine ng rfl rfl (fun h => eo_loadS rfl s4 (ev_if h rfl) (fun W1 hO => Rd.tabb (hS22.rd (hO.tl 9 rfl ((((List.sublist_append_right _ _).trans (List.sublist_append_left _ _)).trans (List.sublist_append_left _ _)).trans (List.sublist_append_left _ _)))) (by have hg0 := (and_t h).imp (fun h => (and_t h).imp (fun h => h) (fun h => h)) (fun h => h); omega))) rfl ?_
    refine ng rfl rfl (fun h => eo_not rfl (ev_if h rfl)) rfl ?_
    refine ne (eo_and rfl rfl (fun hb => ev_if hb rfl)) rfl ?_
    refine ne (eo_mv rfl rfl) rfl ?_
    refine ng rfl rfl (fun h => eo_field rfl f24_2 rfl) rfl ?_
    refine ng rfl rfl (fun h => eo_load 5 rfl s22 (ev_if h rfl) rfl rfl rfl) rfl ?_
    refine ng rfl rfl (fun h => eo_indexS rfl sl22 (ev_if h rfl) rfl (fun W1 hO => (hS22.rd (hO.tl 9 rfl ((((List.sublist_append_right _ _).trans (List.sublist_append_left _ _)).trans (List.sublist_append_left _ _)).trans (List.sublist_append_left _ _))))) (by simp) (by have hg0 := (and_t h).imp (fun h => (and_t h).imp (fun h => (and_t h).imp (fun h => h) (fun h => h)) (fun h => h)) (fun h => (not_t h)); omega) (by have hg0 := (and_t h).imp (fun h => (and_t h).imp (fun h => (and_t h).imp (fun h => h) (fun h => h)) (fun h => h)) (fun h => (not_t h)); omega)) rfl ?_
    refine ng rfl rfl (fun h => eo_loadS rfl s4 (ev_if h rfl) (fun W1 hO => Rd.tabb (hS22.rd (hO.tl 9 rfl ((((List.sublist_append_right _ _).trans (List.sublist_append_left _ _)).trans (List.sublist_append_left _ _)).trans (List.sublist_append_left _ _)))) (by have hg0 := (and_t h).imp (fun h => (and_t h).imp (fun h => (and_t h).imp (fun h => h) (fun h => h)) (fun h => h)) (fun h => (not_t h)); omega))) rfl ?_
    refine ng rfl rfl (fun h => eo_not rfl (ev_if h rfl)) rfl ?_
    refine ne (eo_and rfl rfl (fun hb => ev_if hb rfl)) rfl ?_
    refine ne (eo_mv rfl rfl) rfl ?_
    refine ng rfl rfl (fun h => eo_field rfl f24_2 rfl) rfl ?_
    refine ng rfl rfl (fun h => eo_load 2 rfl s22 (ev_if h rfl) rfl rfl rfl) rfl ?_
    refine ng rfl rfl (fun h => eo_indexS rfl sl22 (ev_if h rfl) rfl (fun W1 hO => (hS29.rd (hO.tl 9 rfl (((List.sublist_append_right _ _).trans (List.sublist_append_left _ _)).trans (List.sublist_append_left _ _))))) (by simp) (by have hg0 := (and_t h).imp (fun h => (and_t h).imp (fun h => (and_t h).imp (fun h => (and_t h).imp (fun h => h) (fun h => h)) (fun h => h)) (fun h => (not_t h))) (fun h => (not_t h)); omega) (by have hg0 := (and_t h).imp (fun h => (and_t h).imp (fun h => (and_t h).imp (fun h => (and_t h).imp (fun h => h) (fun h => h)) (fun h => h)) (fun h => (not_t h))) (fun h => (not_t h)); omega)) rfl ?_
    refine ng rfl rfl (fun h => eo_loadS rfl s4 (ev_if h rfl) (fun W1 hO => Rd.tabb (hS29.rd (hO.tl 9 rfl (((List.sublist_append_right _ _).trans (List.sublist_append_left _ _)).trans (List.sublist_append_left _ _)))) (by have hg0 := (and_t h).imp (fun h => (and_t h).imp (fun h => (and_t h).imp (fun h => (and_t h).imp (fun h => h) (fun h => h)) (fun h => h)) (fun h => (not_t h))) (fun h => (not_t h)); omega))) rfl ?_
    refine ne (eo_and rfl rfl (fun hb => ev_if hb rfl)) rfl ?_
    refine ne (eo_mv rfl rfl) rfl ?_
    refine ng rfl rfl (fun h => eo_field rfl f24_2 rfl) rfl ?_
    refine ng rfl rfl (fun h => eo_load 2 rfl s22 (ev_if h rfl) rfl rfl rfl) rfl ?_
    refine ng rfl rfl (fun h => eo_indexS rfl sl22 (ev_if h rfl) rfl (fun W1 hO => (hS29.rd (hO.tl 9 rfl (((List.sublist_append_right _ _).trans (List.sublist_append_left _ _)).trans (List.sublist_append_left _ _))))) (by simp) (by have hg0 := (and_t h).imp (fun h => (and_t h).imp (fun h => (and_t h).imp (fun h => (and_t h).imp (fun h => (and_t h).imp (fun h => h) (fun h => h)) (fun h => h)) (fun h => (not_t h))) (fun h => (not_t h))) (fun h => h); omega) (by have hg0 := (and_t h).imp (fun h => (and_t h).imp (fun h => (and_t h).imp (fun h => (and_t h).imp (fun h => (and_t h).imp (fun h => h) (fun h => h)) (fun h => h)) (fun h => (not_t h))) (fun h => (not_t h))) (fun h => h); omega)) rfl ?_
    refine ng rfl rfl (fun h => eo_loadS rfl s4 (ev_if h rfl) (fun W1 hO => Rd.tabb (hS29.rd (hO.tl 9 rfl (((List.sublist_append_right _ _).trans (List.sublist_append_left _ _)).trans (List.sublist_append_left _ _)))) (by have hg0 := (and_t h).imp (fun h => (and_t h).imp (fun h => (and_t h).imp (fun h => (and_t h).imp (fun h => (and_t h).imp (fun h => h) (fun h => h)) (fun h => h)) (fun h => (not_t h))) (fun h => (not_t h))) (fun h => h); omega))) rfl ?_
    refine ng rfl rfl (fun h => eo_not rfl (ev_if h rfl)) rfl ?_
    refine ne (eo_and rfl rfl (fun hb => ev_if hb rfl)) rfl ?_
    refine ne (eo_mv rfl rfl) rfl ?_
    refine ng rfl rfl (fun h => eo_field rfl f24_2 rfl) rfl ?_
    refine ng rfl rfl (fun h => eo_load 1 rfl s22 (ev_if h rfl) rfl rfl rfl) rfl ?_
    refine ng rfl rfl (fun h => eo_indexS rfl sl22 (ev_if h rfl) rfl (fun W1 hO => (hS34.rd (hO.tl 9 rfl ((List.sublist_append_right _ _).trans (List.sublist_append_left _ _))))) (by simp) (by have hg0 := (and_t h).imp (fun h => (and_t h).imp (fun h => (and_t h).imp (fun h => (and_t h).imp (fun h => (and_t h).imp (fun h => (and_t h).imp (fun h => h) (fun h => h)) (fun h => h)) (fun h => (not_t h))) (fun h => (not_t h))) (fun h => h)) (fun h => (not_t h)); omega) (by have hg0 := (and_t h).imp (fun h => (and_t h).imp (fun h => (and_t h).imp (fun h => (and_t h).imp (fun h => (and_t h).imp (fun h => (and_t h).imp (fun h => h) (fun h => h)) (fun h => h)) (fun h => (not_t h))) (fun h => (not_t h))) (fun h => h)) (fun h => (not_t h)); omega)) rfl ?_
    refine ng rfl rfl (fun h => eo_loadS rfl s4 (ev_if h rfl) (fun W1 hO => Rd.tabb (hS34.rd (hO.tl 9 rfl ((List.sublist_append_right _ _).trans (List.sublist_append_left _ _)))) (by have hg0 := (and_t h).imp (fun h => (and_t h).imp (fun h => (and_t h).imp (fun h => (and_t h).imp (fun h => (and_t h).imp (fun h => (and_t h).imp (fun h => h) (fun h => h)) (fun h => h)) (fun h => (not_t h))) (fun h => (not_t h))) (fun h => h)) (fun h => (not_t h)); omega))) rfl ?_
    refine ng rfl rfl (fun h => eo_not rfl (ev_if h rfl)) rfl ?_
    refine ne (eo_and rfl rfl (fun hb => ev_if hb rfl)) rfl ?_
    refine ne (eo_mv rfl rfl) rfl ?_
    refine ng rfl rfl (fun h => eo_field rfl f24_2 rfl) rfl ?_
    refine ng rfl rfl (fun h => eo_load 1 rfl s22 (ev_if h rfl) rfl rfl rfl) rfl ?_
    refine ng rfl rfl (fun h => eo_indexS rfl sl22 (ev_if h rfl) rfl (fun W1 hO => (hS34.rd (hO.tl 9 rfl ((List.sublist_append_right _ _).trans (List.sublist_append_left _ _))))) (by simp) (by have hg0 := (and_t h).imp (fun h => (and_t h).imp (fun h => (and_t h).imp (fun h => (and_t h).imp (fun h => (and_t h).imp (fun h => (and_t h).imp (fun h => (and_t h).imp (fun h => h) (fun h => h)) (fun h => h)) (fun h => (not_t h))) (fun h => (not_t h))) (fun h => h)) (fun h => (not_t h))) (fun h => (not_t h)); omega) (by have hg0 := (and_t h).imp (fun h => (and_t h).imp (fun h => (and_t h).imp (fun h => (and_t h).imp (fun h => (and_t h).imp (fun h => (and_t h).imp (fun h => (and_t h).imp (fun h => h) (fun h => h)) (fun h => h)) (fun h => (not_t h))) (fun h => (not_t h))) (fun h => h)) (fun h => (not_t h))) (fun h => (not_t h)); omega)) rfl ?_
    refine ng rfl rfl (fun h => eo_loadS rfl s4 (ev_if h rfl) (fun W1 hO => Rd.tabb (hS34.rd (hO.tl 9 rfl ((List.sublist_append_right _ _).trans (List.sublist_append_left _ _)))) (by have hg0 := (and_t h).imp (fun h => (and_t h).imp (fun h => (and_t h).imp (fun h => (and_t h).imp (fun h => (and_t h).imp (fun h => (and_t h).imp (fun h => (and_t h).imp (fun h => h) (fun h => h)) (fun h => h)) (fun h => (not_t h))) (fun h => (not_t h))) (fun h => h)) (fun h => (not_t h))) (fun h => (not_t h)); omega))) rfl ?_
    refine ne (eo_and rfl rfl (fun hb => ev_if hb rfl)) rfl ?_
    refine ne (eo_mv rfl rfl) rfl ?_
    refine ng rfl rfl (fun h => eo_field rfl f24_2 rfl) rfl ?_
    refine ng rfl rfl (fun h => eo_load 1 rfl s22 (ev_if h rfl) rfl rfl rfl) rfl ?_
    refine ng rfl rfl (fun h => eo_indexS rfl sl22 (ev_if h rfl) rfl (fun W1 hO => (hS34.rd (hO.tl 9 rfl ((List.sublist_append_right _ _).trans (List.sublist_append_left _ _))))) (by simp) (by have hg0 := (and_t h).imp (fun h => (and_t h).imp (fun h => (and_t h).imp (fun h => (and_t h).imp (fun h => (and_t h).imp (fun h => (and_t h).imp (fun h => (and_t h).imp (fun h => (and_t h).imp (fun h => h) (fun h => h)) (fun h => h)) (fun h => (not_t h))) (fun h => (not_t h))) (fun h => h)) (fun h => (not_t h))) (fun h => (not_t h))) (fun h => h); omega) (by have hg0 := (and_t h).imp (fun h => (and_t h).imp (fun h => (and_t h).imp (fun h => (and_t h).imp (fun h => (and_t h).imp (fun h => (and_t h).imp (fun h => (and_t h).imp (fun h => (and_t h).imp (fun h => h) (fun h => h)) (fun h => h)) (fun h => (not_t h))) (fun h => (not_t h))) (fun h => h)) (fun h => (not_t h))) (fun h => (not_t h))) (fun h => h); omega)) rfl ?_
    refine ng rfl rfl (fun h => eo_loadS rfl s4 (ev_if h rfl) (fun W1 hO => Rd.tabb (hS34.rd (hO.tl 9 rfl ((List.sublist_append_right _ _).trans (List.sublist_append_left _ _)))) (by have hg0 := (and_t h).imp (fun h => (and_t h).imp (fun h => (and_t h).imp (fun h => (and_t h).imp (fun h => (and_t h).imp (fun h => (and_t h).imp (fun h => (and_t h).imp (fun h => (and_t h).imp (fun h => h) (fun h => h)) (fun h => h)) (fun h => (not_t h))) (fun h => (not_t h))) (fun h => h)) (fun h => (not_t h))) (fun h => (not_t h))) (fun h => h); omega))) rfl ?_
    refine ne (eo_and rfl rfl (fun hb => ev_if hb rfl)) rfl ?_
    refine ne (eo_as rfl rfl) rfl ?_
    refine go_nil ?_
    refine gq_next ?_
    refine gc_ret ?_
    refine gq_results (res1 rfl rfl) ?_
    exact fun W1 hO => ⟨ret_bool (by kernel_rfl), hO.toExt⟩

end Go.Proofs.Ytmkdfbaklookdaa
