/-
  The walks of the functions of packages bigint and threshold and of the document's answers (part G): what each call returns, at every argument.
-/
import Derived.Test.YtcdhbikginpogaaWF
namespace Go.Proofs.Ytcdhbikginpogaa
open Go.RowKit Go.Eng

open Go.Bs
theorem z27 : TyZ Try.prog 27 (tab 256 (iv .i64 (fun _ => 0)) ++ []) := .inl (by kernel_rfl)
theorem a24 : TyA Try.prog 24 3 := ⟨⟨_, Try.underlying24, rfl⟩, by kernel_rfl⟩
theorem en28 : Ent Try.prog 28 := ent_of Try.func28 (by kernel_rfl) rfl
theorem a27 : TyA Try.prog 27 256 := ⟨⟨_, Try.underlying27, rfl⟩, by kernel_rfl⟩
theorem sl22 : TySl Try.prog 22 5 1 := ⟨Try.underlying22, by kernel_rfl⟩
theorem s5 : TyS Try.prog 5 := ⟨⟨_, Try.underlying5, rfl⟩, by kernel_rfl⟩
theorem sz3 : (Try.prog.info? 3).map (·.size) = some 1 := by kernel_rfl
theorem ba27z (W : World) : (Instr.build 27 #[]).run Try.prog W = .ok (.agg (tab 256 (iv .i64 (fun _ => 0)) ++ []).toArray) W := by kernel_rfl
theorem en25 : Ent Try.prog 25 := ent_of Try.func25 (by kernel_rfl) rfl

/-- barscan/barscanref36.Sound -/
theorem sound36_c (W H : Int) (A : Option Addr) (n c : Nat) (f : Nat → Int) (w : World) (_hr : Rd w A (tab n (iv .u8 f)))  :
    Calls Try.prog 25 #[.agg #[.int .i64 W, .int .i64 H, .slice A n c]] w (fun e w' => e = .returned (.bool (vldB W H n)) ∧ Ext w w') := by
  refine calls_enter (N := ⟨40, []⟩) [] ([]) Try.func25 rfl rfl rfl (Ow.start _) ?_
  refine gc_seq ?_
  refine gc_region ?_
  refine nx (xo_boxA rfl rfl) rfl ?_
  rintro _ _ ⟨g1, rfl, rfl⟩
  refine ne (eo_as rfl rfl) rfl ?_
  refine go_nil ?_
  refine gq_next ?_
  refine gc_seq ?_
  refine gc_region ?_
  refine ne (eo_field rfl f24_0 rfl) rfl ?_
  refine ne (eo_load 0 rfl s3 rfl rfl rfl rfl) rfl ?_
  refine ne (eo_geq rfl rfl rfl) rfl ?_
  refine ne (eo_mv rfl rfl) rfl ?_
  refine ng rfl rfl (fun h => eo_field rfl f24_0 rfl) rfl ?_
  refine ng rfl rfl (fun h => eo_load 0 rfl s3 (ev_if h rfl) rfl rfl rfl) rfl ?_
  refine ng rfl rfl (fun h => eo_leq rfl (ev_if h rfl) rfl) rfl ?_
  refine ne (eo_and rfl rfl (fun hb => ev_if hb rfl)) rfl ?_
  refine ne (eo_mv rfl rfl) rfl ?_
  refine ng rfl rfl (fun h => eo_field rfl f24_1 rfl) rfl ?_
  refine ng rfl rfl (fun h => eo_load 0 rfl s3 (ev_if h rfl) rfl rfl rfl) rfl ?_
  refine ng rfl rfl (fun h => eo_geq rfl (ev_if h rfl) rfl) rfl ?_
  refine ne (eo_and rfl rfl (fun hb => ev_if hb rfl)) rfl ?_
  refine ne (eo_mv rfl rfl) rfl ?_
  refine ng rfl rfl (fun h => eo_field rfl f24_1 rfl) rfl ?_
  refine ng rfl rfl (fun h => eo_load 0 rfl s3 (ev_if h rfl) rfl rfl rfl) rfl ?_
  refine ng rfl rfl (fun h => eo_leq rfl (ev_if h rfl) rfl) rfl ?_
  refine ne (eo_and rfl rfl (fun hb => ev_if hb rfl)) rfl ?_
  refine ne (eo_mv rfl rfl) rfl ?_
  refine ng rfl rfl (fun h => eo_field rfl f24_0 rfl) rfl ?_
  refine ng rfl rfl (fun h => eo_load 0 rfl s3 (ev_if h rfl) rfl rfl rfl) rfl ?_
  refine ng rfl rfl (fun h => eo_field rfl f24_1 rfl) rfl ?_
  refine ng rfl rfl (fun h => eo_load 0 rfl s3 (ev_if h rfl) rfl rfl rfl) rfl ?_
  refine ng rfl rfl (fun h => eo_mul rfl (ev_if h rfl) (ev_if h rfl) (by have hg0 := (and_t h).imp (fun h => (and_t h).imp (fun h => (and_t h).imp (fun h => of_decide_eq_true h) (fun h => of_decide_eq_true h)) (fun h => of_decide_eq_true h)) (fun h => of_decide_eq_true h); first | omega | (have hm := mul_le2 (show 0 ≤ W by omega) (show W ≤ 4096 by omega) (show 0 ≤ H by omega) (show H ≤ 4096 by omega); omega)) (by have hg0 := (and_t h).imp (fun h => (and_t h).imp (fun h => (and_t h).imp (fun h => of_decide_eq_true h) (fun h => of_decide_eq_true h)) (fun h => of_decide_eq_true h)) (fun h => of_decide_eq_true h); first | omega | (have hm := mul_le2 (show 0 ≤ W by omega) (show W ≤ 4096 by omega) (show 0 ≤ H by omega) (show H ≤ 4096 by omega); omega))) rfl ?_
  refine ng rfl rfl (fun h => eo_leq rfl (ev_if h rfl) rfl) rfl ?_
  refine ne (eo_and rfl rfl (fun hb => ev_if hb rfl)) rfl ?_
  refine ne (eo_mv rfl rfl) rfl ?_
  refine ng rfl rfl (fun h => eo_field rfl f24_2 rfl) rfl ?_
  refine ng rfl rfl (fun h => eo_load 0 rfl s22 (ev_if h rfl) rfl rfl rfl) rfl ?_
  refine ng rfl rfl (fun h => eo_len rfl Try.underlying22 (ev_if h rfl)) rfl ?_
  refine ng rfl rfl (fun h => eo_field rfl f24_0 rfl) rfl ?_
  refine ng rfl rfl (fun h => eo_load 0 rfl s3 (ev_if h rfl) rfl rfl rfl) rfl ?_
  refine ng rfl rfl (fun h => eo_field rfl f24_1 rfl) rfl ?_
  refine ng rfl rfl (fun h => eo_load 0 rfl s3 (ev_if h rfl) rfl rfl rfl) rfl ?_
  refine ng rfl rfl (fun h => eo_mul rfl (ev_if h rfl) (ev_if h rfl) (by have hg0 := (and_t h).imp (fun h => (and_t h).imp (fun h => (and_t h).imp (fun h => (and_t h).imp (fun h => of_decide_eq_true h) (fun h => of_decide_eq_true h)) (fun h => of_decide_eq_true h)) (fun h => of_decide_eq_true h)) (fun h => of_decide_eq_true h); first | omega | (have hm := mul_le2 (show 0 ≤ W by omega) (show W ≤ 4096 by omega) (show 0 ≤ H by omega) (show H ≤ 4096 by omega); omega)) (by have hg0 := (and_t h).imp (fun h => (and_t h).imp (fun h => (and_t h).imp (fun h => (and_t h).imp (fun h => of_decide_eq_true h) (fun h => of_decide_eq_true h)) (fun h => of_decide_eq_true h)) (fun h => of_decide_eq_true h)) (fun h => of_decide_eq_true h); first | omega | (have hm := mul_le2 (show 0 ≤ W by omega) (show W ≤ 4096 by omega) (show 0 ≤ H by omega) (show H ≤ 4096 by omega); omega))) rfl ?_
  refine ng rfl rfl (fun h => eo_eql rfl (ev_if h rfl) (ev_if h rfl)) rfl ?_
  refine ne (eo_and rfl rfl (fun hb => ev_if hb rfl)) rfl ?_
  refine ne (eo_as rfl rfl) rfl ?_
  refine go_nil ?_
  refine gq_next ?_
  refine gc_ret ?_
  refine gq_results (res1 rfl rfl) ?_
  exact fun W1 hO => ⟨ret_bool (by rw [Bool.eq_iff_iff]; simp [vldB_iff, and_assoc]), hO.toExt⟩

/-- barscan/threshold.Histogram -/
theorem hist_c (W H : Int) (A : Option Addr) (n c : Nat) (f : Nat → Int) (w : World) (hr : Rd w A (tab n (iv .u8 f))) (hp : PixOk n f) (hnn : n ≤ 140737488355328) :
    Calls Try.prog 11 #[.agg #[.int .i64 W, .int .i64 H, .slice A n c]] w (fun e w' => e = .returned (.tuple #[.agg (tab 256 (iv .i64 (hisR ⟨W, H, n, f⟩).1) ++ []).toArray, .int .i64 (hisR ⟨W, H, n, f⟩).2]) ∧ Ext w w') := by
  refine calls_enter (N := ⟨28, []⟩) [] ([]) Try.func11 rfl rfl rfl (Ow.start _) ?_
  refine gc_seq ?_
  refine gc_region ?_
  refine nx (xo_boxA rfl rfl) rfl ?_
  rintro _ _ ⟨g1, rfl, rfl⟩
  refine nx (xo_alloc rfl z27) rfl ?_
  rintro _ _ ⟨g2, rfl, rfl⟩
  refine ne (eo_as rfl rfl) rfl ?_
  refine go_nil ?_
  refine gq_next ?_
  refine gc_seq ?_
  refine gc_region ?_
  refine nx (xo_alloc rfl z27) rfl ?_
  rintro _ _ ⟨g4, rfl, rfl⟩
  refine go_nil ?_
  refine gq_next ?_
  refine gc_seq ?_
  refine gc_seq ?_
  refine gc_region ?_
  refine ne (eo_loadA 2 rfl a24 rfl rfl rfl rfl) rfl ?_
  refine ne (eo_call rfl en28 rfl (fun W1 hO => checkim_c _ _ _ _ _ W1  )) rfl ?_
  refine ne (eo_as rfl rfl) rfl ?_
  refine go_nil ?_
  refine gq_next ?_
  refine gc_seq ?_
  refine gc_region ?_
  refine ne (eo_mv rfl rfl) rfl ?_
  refine ne (eo_neq rfl rfl rfl) rfl ?_
  refine go_nil ?_
  refine gq_next ?_
  refine gc_cond rfl (fun hc0 => ?_) (fun hc0 => ?_)
  ·
    replace hc0 := of_decide_eq_true hc0
    have hv := chk_f hc0
    refine gc_seq ?_
    refine gc_region ?_
    refine ne (eo_loadA 0 rfl a27 rfl rfl rfl (by simp)) rfl ?_
    refine ne (eo_mv rfl rfl) rfl ?_
    refine nu (xo_storeA 1 rfl a27 rfl rfl tab_onei0 (by simp) rfl rfl (by simp)) ?_
    rintro _ _ ⟨rfl, rfl⟩
    refine ne (eo_as rfl rfl) rfl ?_
    refine go_nil ?_
    refine gq_next ?_
    refine gc_ret ?_
    refine gq_then_ret ?_
    refine gq_results (resCT 1 rfl a27 rfl rfl rfl (by simp) rfl) ?_
    exact fun W1 hO => ⟨his_ret (fun v hv2 => by rw [hisR_no hv]) (by rw [hisR_no hv]; exact chk_no hv), hO.toExt⟩
  ·
    replace hc0 := of_decide_eq_false hc0
    have hv := chk_t hc0
    obtain ⟨v1, v2, v3, v4, v5, v6⟩ := vldB_iff.1 hv
    have v7 := vld_pos hv
    refine gc_skip ?_
    refine gq_next ?_
    refine gc_seq ?_
    refine gc_seq ?_
    refine gc_region ?_
    refine ne (eo_field rfl f24_2 rfl) rfl ?_
    refine ne (eo_load 2 rfl s22 rfl rfl rfl rfl) rfl ?_
    refine ne (eo_len rfl Try.underlying22 rfl) rfl ?_
    refine ne (eo_mv rfl rfl) rfl ?_
    refine go_nil ?_
    refine gq_next ?_
    refine gc_block ?_
    refine loop2 (fun (i : Nat) (f1 : Nat → Int) => i ≤ n ∧ ∀ u, u < 256 → f1 u = cntP f i u) (fun (i : Nat) (f1 : Nat → Int) => n - i) (fun (i : Nat) (f1 : Nat → Int) => [(2, .pointer (some ⟨g2, 0, none⟩)), (4, .pointer (some ⟨g4, 0, none⟩)), (15, .slice A n c), (16, .int .i64 ((n : Nat) : Int)), (17, .int .i64 (i : Int))]) (fun (i : Nat) (f1 : Nat → Int) => [⟨g4, 27, tab 256 (iv .i64 f1) ++ []⟩, ⟨g2, 27, tab 256 (iv .i64 (fun _ => 0)) ++ []⟩, ⟨g1, 24, [.int .i64 W, .int .i64 H, .slice A n c]⟩]) 0 (fun _ => 0) ⟨by omega, fun _ _ => rfl⟩ ⟨rfl, rfl, rfl, rfl, rfl, trivial⟩ (List.Sublist.refl _) ?_
    rintro i f1 ⟨hi, hI⟩
    refine gc_seq ?_
    refine gc_region ?_
    refine ne (eo_lss rfl rfl rfl) rfl ?_
    refine go_nil ?_
    refine gq_next ?_
    refine gc_seq ?_
    refine gc_cond rfl (fun hc1 => ?_) (fun hc1 => ?_)
    ·
      replace hc1 := of_decide_eq_true hc1
      have hpx := hp (i : Int).toNat (by omega)
      have hcb := cnt_bd (f := f) (n := i) (v := 0 + (f (i : Int).toNat).toNat * 1)
      have hfx := hI (0 + (f (i : Int).toNat).toNat * 1) (by omega)
      refine gc_skip ?_
      refine gq_next ?_
      refine gc_seq ?_
      refine gc_block ?_
      refine gc_seq ?_
      refine gc_region ?_
      refine ne (eo_indexR rfl sl22 rfl rfl hr (by simp) (by omega) (by omega)) rfl ?_
      refine ne (eo_load_old rfl s5 rfl (Rd.tabi hr (by omega)) (by simp)) rfl ?_
      refine ne (eo_as rfl rfl) rfl ?_
      refine go_nil ?_
      refine gq_next ?_
      refine gc_region ?_
      refine ne (eo_mv rfl rfl) rfl ?_
      refine ne (eo_indexArr rfl Try.underlying27 sz3 rfl rfl (by omega) (by omega)) rfl ?_
      refine ne (eo_geti 0 rfl s3 rfl rfl (by omega)) rfl ?_
      refine ne (eo_add rfl rfl rfl (by omega) (by omega)) rfl ?_
      refine ne (eo_indexArr rfl Try.underlying27 sz3 rfl rfl (by omega) (by omega)) rfl ?_
      refine nu (xo_seti 0 rfl s3 rfl rfl rfl (by omega)) ?_
      rintro _ _ ⟨rfl, rfl⟩
      refine go_nil ?_
      refine gq_block_end ?_
      refine gq_next ?_
      refine gc_region ?_
      refine ne (eo_add rfl rfl rfl (by omega) (by omega)) rfl ?_
      refine ne (eo_mv rfl rfl) rfl ?_
      refine go_nil ?_
      exact round2 (i + 1) (upd f1 (0 + ((f (i))).toNat * 1) ((f1 (0 + ((f (i))).toNat * 1)) + 1)) ⟨by omega, his_step (by show f i = _; have := hp i (by omega); omega) hI⟩ (by omega) ⟨rfl, rfl, rfl, rfl, rfl, trivial⟩ (List.Sublist.refl _)
    ·
      replace hc1 := of_decide_eq_false hc1
      refine gc_exit ?_
      refine gq_then_exit ?_
      refine gq_then_exit ?_
      refine gq_block_hit ?_
      refine gq_next ?_
      refine gc_seq ?_
      refine gc_region ?_
      refine ne (eo_loadA 0 rfl a27 rfl rfl rfl (by simp)) rfl ?_
      refine nu (xo_storeA 1 rfl a27 rfl rfl tab_onei0 (by simp) rfl rfl (by simp)) ?_
      rintro _ _ ⟨rfl, rfl⟩
      refine ne (eo_as rfl rfl) rfl ?_
      refine go_nil ?_
      refine gq_next ?_
      refine gc_ret ?_
      refine gq_results (resCT 1 rfl a27 rfl rfl rfl (by simp) rfl) ?_
      exact fun W1 hO => ⟨his_ret (fun v hv2 => by rw [hisR_ok hv, hI v hv2, show i = n by omega]) (by rw [hisR_ok hv]), hO.toExt⟩

/-- barscan/barscanref36.Histogram -/
theorem rhist_c (W H : Int) (A : Option Addr) (n c : Nat) (f : Nat → Int) (w : World) (hr : Rd w A (tab n (iv .u8 f))) (hp : PixOk n f) (hnn : n ≤ 140737488355328) :
    Calls Try.prog 12 #[.agg #[.int .i64 W, .int .i64 H, .slice A n c]] w (fun e w' => e = .returned (.tuple #[.agg (tab 256 (iv .i64 (hisR ⟨W, H, n, f⟩).1) ++ []).toArray, .int .i64 (hisR ⟨W, H, n, f⟩).2]) ∧ Ext w w') := by
  refine calls_enter (N := ⟨33, []⟩) [] ([]) Try.func12 rfl rfl rfl (Ow.start _) ?_
  refine gc_seq ?_
  refine gc_region ?_
  refine nx (xo_boxA rfl rfl) rfl ?_
  rintro _ _ ⟨g1, rfl, rfl⟩
  refine nx (xo_alloc rfl z27) rfl ?_
  rintro _ _ ⟨g2, rfl, rfl⟩
  refine ne (eo_as rfl rfl) rfl ?_
  refine go_nil ?_
  refine gq_next ?_
  refine gc_seq ?_
  refine gc_region ?_
  refine ne (eo_build rfl rfl ba27z) rfl ?_
  refine nx (xo_alloc rfl z27) rfl ?_
  rintro _ _ ⟨g4, rfl, rfl⟩
  refine nu (xo_storeA 0 rfl a27 rfl rfl tab_onei0 (by simp) rfl rfl (by simp)) ?_
  rintro _ _ ⟨rfl, rfl⟩
  refine go_nil ?_
  refine gq_next ?_
  refine gc_seq ?_
  refine gc_seq ?_
  refine gc_region ?_
  refine ne (eo_loadA 2 rfl a24 rfl rfl rfl rfl) rfl ?_
  refine ne (eo_call rfl en25 rfl (fun W1 hO => sound36_c _ _ _ _ _ _ W1 (hr.old0 hO) )) rfl ?_
  refine ne (eo_not rfl rfl) rfl ?_
  refine go_nil ?_
  refine gq_next ?_
  refine gc_cond rfl (fun hc0 => ?_) (fun hc0 => ?_)
  ·
    have hd0 := (not_t hc0)
    have hv := not_t hc0
    refine gc_seq ?_
    refine gc_region ?_
    refine ne (eo_loadA 0 rfl a27 rfl rfl rfl (by simp)) rfl ?_
    refine nu (xo_storeA 1 rfl a27 rfl rfl tab_onei0 (by simp) rfl rfl (by simp)) ?_
    rintro _ _ ⟨rfl, rfl⟩
    refine ne (eo_as rfl rfl) rfl ?_
    refine go_nil ?_
    refine gq_next ?_
    refine gc_ret ?_
    refine gq_then_ret ?_
    refine gq_results (resCT 1 rfl a27 rfl rfl rfl (by simp) rfl) ?_
    exact fun W1 hO => ⟨his_ret (fun v hv2 => by rw [hisR_no (not_t hc0)]) (by rw [hisR_no (not_t hc0)]), hO.toExt⟩
  ·
    have hd0 := (not_f hc0)
    have hv := not_f hc0
    obtain ⟨v1, v2, v3, v4, v5, v6⟩ := vldB_iff.1 hv
    have v7 := vld_pos hv
    refine gc_skip ?_
    refine gq_next ?_
    refine gc_seq ?_
    refine gc_seq ?_
    refine gc_region ?_
    refine ne (eo_as rfl rfl) rfl ?_
    refine go_nil ?_
    refine gq_next ?_
    refine gc_block ?_
    refine loop2 (fun (i : Nat) (f1 : Nat → Int) => i ≤ n ∧ ∀ u, u < 256 → f1 u = cntP f i u) (fun (i : Nat) (f1 : Nat → Int) => n - i) (fun (i : Nat) (f1 : Nat → Int) => [(1, .pointer (some ⟨g1, 0, none⟩)), (2, .pointer (some ⟨g2, 0, none⟩)), (4, .pointer (some ⟨g4, 0, none⟩)), (5, .int .i64 (i : Int))]) (fun (i : Nat) (f1 : Nat → Int) => [⟨g4, 27, tab 256 (iv .i64 f1) ++ []⟩, ⟨g2, 27, tab 256 (iv .i64 (fun _ => 0)) ++ []⟩, ⟨g1, 24, [.int .i64 W, .int .i64 H, .slice A n c]⟩]) 0 (fun _ => 0) ⟨by omega, fun _ _ => rfl⟩ ⟨rfl, rfl, rfl, rfl, trivial⟩ (List.Sublist.refl _) ?_
    rintro i f1 ⟨hi, hI⟩
    refine gc_seq ?_
    refine gc_seq ?_
    refine gc_region ?_
    refine ne (eo_mv rfl rfl) rfl ?_
    refine ne (eo_field rfl f24_2 rfl) rfl ?_
    refine ne (eo_load 2 rfl s22 rfl rfl rfl rfl) rfl ?_
    refine ne (eo_len rfl Try.underlying22 rfl) rfl ?_
    refine ne (eo_lss rfl rfl rfl) rfl ?_
    refine go_nil ?_
    refine gq_next ?_
    refine gc_cond rfl (fun hc1 => ?_) (fun hc1 => ?_)
    ·
      replace hc1 := of_decide_eq_true hc1
      have hpx := hp (i : Int).toNat (by omega)
      have hcb := cnt_bd (f := f) (n := i) (v := 0 + (f (i : Int).toNat).toNat * 1)
      have hfx := hI (0 + (f (i : Int).toNat).toNat * 1) (by omega)
      refine gc_skip ?_
      refine gq_next ?_
      refine gc_seq ?_
      refine gc_block ?_
      refine gc_draw [] [0, 1, 2, 3, 4, 5, 6, 7, 8, 9, 10, 11, 12, 13] [] [14] (by kernel_rfl) (by kernel_rfl) ?_
      refine gp_nil ?_
      refine de rfl (eo_field rfl f24_2 rfl) rfl ?_
      refine de rfl (eo_load 2 rfl s22 rfl rfl rfl rfl) rfl ?_
      refine de rfl (eo_mv rfl rfl) rfl ?_
      refine de rfl (eo_indexR rfl sl22 rfl rfl hr (by simp) (by omega) (by omega)) rfl ?_
      refine de rfl (eo_load_old rfl s5 rfl (Rd.tabi hr (by omega)) (by simp)) rfl ?_
      refine de rfl (eo_field rfl f24_2 rfl) rfl ?_
      refine de rfl (eo_load 2 rfl s22 rfl rfl rfl rfl) rfl ?_
      refine de rfl (eo_mv rfl rfl) rfl ?_
      refine de rfl (eo_indexR rfl sl22 rfl rfl hr (by simp) (by omega) (by omega)) rfl ?_
      refine de rfl (eo_load_old rfl s5 rfl (Rd.tabi hr (by omega)) (by simp)) rfl ?_
      refine de rfl (eo_indexArr rfl Try.underlying27 sz3 rfl rfl (by omega) (by omega)) rfl ?_
      refine de rfl (eo_geti 0 rfl s3 rfl rfl (by omega)) rfl ?_
      refine de rfl (eo_add rfl rfl rfl (by omega) (by omega)) rfl ?_
      refine de rfl (eo_indexArr rfl Try.underlying27 sz3 rfl rfl (by omega) (by omega)) rfl ?_
      refine ge_nil ?_
      refine ga_nil ?_
      refine iu rfl (xo_seti 0 rfl s3 rfl rfl rfl (by omega)) ?_
      rintro _ _ ⟨rfl, rfl⟩
      refine gi_nil ?_
      refine gq_nq ?_
      refine gq_block_end ?_
      refine gq_next ?_
      refine gc_region ?_
      refine ne (eo_mv rfl rfl) rfl ?_
      refine ne (eo_add rfl rfl rfl (by omega) (by omega)) rfl ?_
      refine ne (eo_as rfl rfl) rfl ?_
      refine go_nil ?_
      exact round2 (i + 1) (upd f1 (0 + ((f (i))).toNat * 1) ((f1 (0 + ((f (i))).toNat * 1)) + 1)) ⟨by omega, his_step (by show f i = _; have := hp i (by omega); omega) hI⟩ (by omega) ⟨rfl, rfl, rfl, rfl, trivial⟩ (List.Sublist.refl _)
    ·
      replace hc1 := of_decide_eq_false hc1
      refine gc_exit ?_
      refine gq_then_exit ?_
      refine gq_then_exit ?_
      refine gq_block_hit ?_
      refine gq_next ?_
      refine gc_seq ?_
      refine gc_region ?_
      refine ne (eo_loadA 0 rfl a27 rfl rfl rfl (by simp)) rfl ?_
      refine nu (xo_storeA 1 rfl a27 rfl rfl tab_onei0 (by simp) rfl rfl (by simp)) ?_
      rintro _ _ ⟨rfl, rfl⟩
      refine ne (eo_as rfl rfl) rfl ?_
      refine go_nil ?_
      refine gq_next ?_
      refine gc_ret ?_
      refine gq_results (resCT 1 rfl a27 rfl rfl rfl (by simp) rfl) ?_
      exact fun W1 hO => ⟨his_ret (fun v hv2 => by rw [hisR_ok (not_f hc0), hI v hv2, show i = n by omega]) (by rw [hisR_ok (not_f hc0)]), hO.toExt⟩

end Go.Proofs.Ytcdhbikginpogaa
