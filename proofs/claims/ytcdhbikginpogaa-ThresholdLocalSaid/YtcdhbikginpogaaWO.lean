/-
  The walks of the functions of packages bigint and threshold and of the document's answers (part O): what each call returns, at every argument.
-/
import Derived.Test.YtcdhbikginpogaaWK
namespace Go.Proofs.Ytcdhbikginpogaa
open Go.RowKit Go.Eng

open Go.Bs


/-- barscan/barscanref36.Integral -/
theorem rint_x (W H : Int) (A : Option Addr) (n c : Nat) (f : Nat → Int) (w : World) (hr : Rd w A (tab n (iv .u8 f))) (hp : PixOk n f) :
    Calls Try.prog 21 #[.agg #[.int .i64 W, .int .i64 H, .slice A n c]] w (fun e w' => ∃ v Hn, e = .returned v ∧ RXs (intR ⟨W, H, n, f⟩) v Hn ∧ Ow [] w w' Hn) := by
  refine calls_enter (N := ⟨84, []⟩) [] ([]) Try.func21 rfl rfl rfl (Ow.start _) ?_
  refine gc_seq ?_
  refine gc_region ?_
  refine nx (xo_boxA rfl rfl) rfl ?_
  rintro _ _ ⟨g1, rfl, rfl⟩
  refine ne (eo_as rfl rfl) rfl ?_
  refine ne (eo_as rfl rfl) rfl ?_
  refine go_nil ?_
  refine gq_next ?_
  refine gc_seq ?_
  refine gc_seq ?_
  refine gc_region ?_
  refine ne (eo_loadA 0 rfl a24 rfl rfl rfl rfl) rfl ?_
  refine ne (eo_call rfl en25 rfl (fun W1 hO => sound36_c _ _ _ _ _ _ W1 (hr.old0 hO) )) rfl ?_
  refine ne (eo_not rfl rfl) rfl ?_
  refine go_nil ?_
  refine gq_next ?_
  refine gc_cond rfl (fun hc0 => ?_) (fun hc0 => ?_)
  ·
    have hd0 := (not_t hc0)
    have hv := not_t hc0
    refine gc_seq ?_
    refine gc_region ?_
    refine ne (eo_as rfl rfl) rfl ?_
    refine ne (eo_as rfl rfl) rfl ?_
    refine go_nil ?_
    refine gq_next ?_
    refine gc_ret ?_
    refine gq_then_ret ?_
    refine gq_results (res2 rfl rfl rfl) ?_
    exact fun W1 hO => rxs_nil hO (intR_no (not_t hc0))
  ·
    have hd0 := (not_f hc0)
    have hv := not_f hc0
    obtain ⟨v1, v2, v3, v4, v5, v6⟩ := vldB_iff.1 hv
    have v7 := vld_pos hv
    have hv := not_f hc0
    obtain ⟨v1, v2, v3, v4, v5, v6⟩ := vldB_iff.1 hv
    have v7 := vld_pos hv
    have v8 := mul_up1 v1 v2 v3 v4
    have hg := fx_bd hp
    refine gc_skip ?_
    refine gq_next ?_
    refine gc_seq ?_
    refine gc_region ?_
    refine ne (eo_field rfl f24_0 rfl) rfl ?_
    refine ne (eo_load 0 rfl s3 rfl rfl rfl rfl) rfl ?_
    refine ne (eo_add rfl rfl rfl (by omega) (by omega)) rfl ?_
    refine ne (eo_as rfl rfl) rfl ?_
    refine go_nil ?_
    refine gq_next ?_
    refine gc_seq ?_
    refine gc_region ?_
    refine ne (eo_mv rfl rfl) rfl ?_
    refine ne (eo_field rfl f24_1 rfl) rfl ?_
    refine ne (eo_load 0 rfl s3 rfl rfl rfl rfl) rfl ?_
    refine ne (eo_add rfl rfl rfl (by omega) (by omega)) rfl ?_
    refine ne (eo_mul rfl rfl rfl (by omega) (by omega)) rfl ?_
    refine nx (xo_makei rfl Try.underlying41 e3 rfl rfl (by omega) (by omega) (by omega)) rfl ?_
    rintro _ _ ⟨g19, rfl, rfl⟩
    refine ne (eo_as rfl rfl) rfl ?_
    refine go_nil ?_
    refine gq_next ?_
    refine gc_seq ?_
    refine gc_seq ?_
    refine gc_region ?_
    refine ne (eo_as rfl rfl) rfl ?_
    refine go_nil ?_
    refine gq_next ?_
    refine gc_block ?_
    refine loop2 (fun (y : Nat) (s1 : Nat → Int) => 1 ≤ y ∧ (y : Int) ≤ H + 1 ∧ ∀ q, q < ((W + 1) * (H + 1)).toNat → s1 q = if (q : Int) < (y : Int) * (W + 1) then sumG (fx n f) W q else 0) (fun (y : Nat) (s1 : Nat → Int) => (H + 1 - y).toNat) (fun (y : Nat) (s1 : Nat → Int) => [(1, .pointer (some ⟨g1, 0, none⟩)), (4, .int .i64 (W + 1)), (5, .slice (some ⟨g19, 0, none⟩) ((((W + 1) * (H + 1))).toNat) ((((W + 1) * (H + 1))).toNat)), (6, .int .i64 (y : Int))]) (fun (y : Nat) (s1 : Nat → Int) => [⟨g19, 3, tab ((((W + 1) * (H + 1))).toNat) (iv .i64 s1) ++ []⟩, ⟨g1, 24, [.int .i64 W, .int .i64 H, .slice A n c]⟩]) 1 (fun _ => 0) ⟨by omega, by omega, sumG_new (by omega) (by show ((1 : Nat) : Int) * (W + 1) ≤ W + 1; omega)⟩ ⟨rfl, rfl, rfl, rfl, trivial⟩ (List.Sublist.refl _) ?_
    rintro y s1 ⟨hy0, hy, hI⟩
    refine gc_seq ?_
    refine gc_seq ?_
    refine gc_region ?_
    refine ne (eo_mv rfl rfl) rfl ?_
    refine ne (eo_field rfl f24_1 rfl) rfl ?_
    refine ne (eo_load 1 rfl s3 rfl rfl rfl rfl) rfl ?_
    refine ne (eo_leq rfl rfl rfl) rfl ?_
    refine go_nil ?_
    refine gq_next ?_
    refine gc_cond rfl (fun hc1 => ?_) (fun hc1 => ?_)
    ·
      replace hc1 := of_decide_eq_true hc1
      have hb := idx_bd (W := W + 1) (H := H + 1) (x := 0) (y := (y : Int)) (by omega) (by omega) (by omega) (by omega)
      refine gc_skip ?_
      refine gq_next ?_
      refine gc_seq ?_
      refine gc_block ?_
      refine gc_seq ?_
      refine gc_region ?_
      refine ne (eo_as rfl rfl) rfl ?_
      refine go_nil ?_
      refine gq_next ?_
      refine gc_block ?_
      refine loop2 (fun (x : Nat) (s1 : Nat → Int) => 1 ≤ x ∧ (x : Int) ≤ W + 1 ∧ ∀ q, q < ((W + 1) * (H + 1)).toNat → s1 q = if (q : Int) < (y : Int) * (W + 1) + x then sumG (fx n f) W q else 0) (fun (x : Nat) (s1 : Nat → Int) => (W + 1 - x).toNat) (fun (x : Nat) (s1 : Nat → Int) => [(1, .pointer (some ⟨g1, 0, none⟩)), (4, .int .i64 (W + 1)), (5, .slice (some ⟨g19, 0, none⟩) ((((W + 1) * (H + 1))).toNat) ((((W + 1) * (H + 1))).toNat)), (6, .int .i64 (y : Int)), (7, .int .i64 (x : Int))]) (fun (x : Nat) (s1 : Nat → Int) => [⟨g19, 3, tab ((((W + 1) * (H + 1))).toNat) (iv .i64 s1) ++ []⟩, ⟨g1, 24, [.int .i64 W, .int .i64 H, .slice A n c]⟩]) 1 s1 ⟨by omega, by omega, fill_to (sumG_row (y := y - 1) (by omega) (by rw [show ((y - 1 : Nat) : Int) + 1 = (y : Int) by omega]) hI) (by simp)⟩ ⟨rfl, rfl, rfl, rfl, rfl, trivial⟩ (List.Sublist.refl _) ?_
      rintro x s1 ⟨hx0, hx, hI⟩
      refine gc_seq ?_
      refine gc_seq ?_
      refine gc_region ?_
      refine ne (eo_mv rfl rfl) rfl ?_
      refine ne (eo_field rfl f24_0 rfl) rfl ?_
      refine ne (eo_load 1 rfl s3 rfl rfl rfl rfl) rfl ?_
      refine ne (eo_leq rfl rfl rfl) rfl ?_
      refine go_nil ?_
      refine gq_next ?_
      refine gc_cond rfl (fun hc2 => ?_) (fun hc2 => ?_)
      ·
        replace hc2 := of_decide_eq_true hc2
        have hs1 : ((y : Int) - 1) * (W + 1) = (y : Int) * (W + 1) - (W + 1) := sub1_mul
        have hi1 := idx_bd (W := W + 1) (H := H + 1) (x := (x : Int)) (y := (y : Int)) (by omega) (by omega) (by omega) (by omega)
        have hi2 := idx_bd (W := W + 1) (H := H + 1) (x := (x : Int)) (y := ((y : Int) - 1)) (by omega) (by omega) (by omega) (by omega)
        have hi3 := idx_bd (W := W) (H := H) (x := ((x : Int) - 1)) (y := ((y : Int) - 1)) (by omega) (by omega) (by omega) (by omega)
        have hpx := hp (((y : Int) - 1) * W + (x : Int) - 1).toNat (by omega)
        have hfx := fx_in (f := f) (n := n) (i := (((y : Int) - 1) * W + (x : Int) - 1).toNat) (by omega)
        have q1 : s1 ((y : Int) * (W + 1) + (x : Int) - 1).toNat = sumS (fx n f) W (y : Int).toNat ((x : Int) - 1).toNat := by
          rw [hI _ (by omega), if_pos (by omega), Int.add_sub_assoc]
          exact sumG_z (by omega) (by omega) (by omega) (by omega)
        have q2 : s1 (((y : Int) - 1) * (W + 1) + (x : Int)).toNat = sumS (fx n f) W ((y : Int) - 1).toNat (x : Int).toNat := by
          rw [hI _ (by omega), if_pos (by omega)]
          exact sumG_z (by omega) (by omega) (by omega) (by omega)
        have q3 : s1 (((y : Int) - 1) * (W + 1) + (x : Int) - 1).toNat = sumS (fx n f) W ((y : Int) - 1).toNat ((x : Int) - 1).toNat := by
          rw [hI _ (by omega), if_pos (by omega), Int.add_sub_assoc]
          exact sumG_z (by omega) (by omega) (by omega) (by omega)
        have bq1 := sumS_z (g := (fx n f)) (W := W) (hi := 255) (y := (y : Int)) (x := ((x : Int) - 1)) (by omega) hg (by omega) (by omega) (by omega) (by omega)
        have bq2 := sumS_z (g := (fx n f)) (W := W) (hi := 255) (y := ((y : Int) - 1)) (x := (x : Int)) (by omega) hg (by omega) (by omega) (by omega) (by omega)
        have bq3 := sumS_z (g := (fx n f)) (W := W) (hi := 255) (y := ((y : Int) - 1)) (x := ((x : Int) - 1)) (by omega) hg (by omega) (by omega) (by omega) (by omega)
        refine gc_skip ?_
        refine gq_next ?_
        refine gc_seq ?_
        refine gc_block ?_
        refine gc_draw [] [0, 1, 2, 3, 4, 5, 6, 7, 8, 9, 10, 11, 12, 13, 14, 15, 16, 17, 18, 19, 20, 21, 22, 23, 24, 25, 26, 27, 28, 29, 30, 31, 32, 33, 34, 35, 36, 37, 38, 39, 40, 41, 42, 43, 44, 45, 46, 47, 48, 49, 50] [] [51] (by kernel_rfl) (by kernel_rfl) ?_
        refine gp_nil ?_
        refine de rfl (eo_mv rfl rfl) rfl ?_
        refine de rfl (eo_mv rfl rfl) rfl ?_
        refine de rfl (eo_mv rfl rfl) rfl ?_
        refine de rfl (eo_mul rfl rfl rfl (by omega) (by omega)) rfl ?_
        refine de rfl (eo_mv rfl rfl) rfl ?_
        refine de rfl (eo_add rfl rfl rfl (by omega) (by omega)) rfl ?_
        refine de rfl (eo_mv rfl rfl) rfl ?_
        refine de rfl (eo_mv rfl rfl) rfl ?_
        refine de rfl (eo_mv rfl rfl) rfl ?_
        refine de rfl (eo_mul rfl rfl rfl (by omega) (by omega)) rfl ?_
        refine de rfl (eo_mv rfl rfl) rfl ?_
        refine de rfl (eo_add rfl rfl rfl (by omega) (by omega)) rfl ?_
        refine de rfl (eo_sub rfl rfl rfl (by omega) (by omega)) rfl ?_
        refine de rfl (eo_index0 rfl sl41 rfl rfl (by omega) (by omega)) rfl ?_
        refine de rfl (eo_geti 0 rfl s3 rfl rfl (by omega)) rfl ?_
        refine de rfl (eo_mv rfl rfl) rfl ?_
        refine de rfl (eo_mv rfl rfl) rfl ?_
        refine de rfl (eo_sub rfl rfl rfl (by omega) (by omega)) rfl ?_
        refine de rfl (eo_mv rfl rfl) rfl ?_
        refine de rfl (eo_mul rfl rfl rfl (by omega) (by omega)) rfl ?_
        refine de rfl (eo_mv rfl rfl) rfl ?_
        refine de rfl (eo_add rfl rfl rfl (by omega) (by omega)) rfl ?_
        refine de rfl (eo_index0 rfl sl41 rfl rfl (by omega) (by omega)) rfl ?_
        refine de rfl (eo_geti 0 rfl s3 rfl rfl (by omega)) rfl ?_
        refine de rfl (eo_add rfl rfl rfl (by omega) (by omega)) rfl ?_
        refine de rfl (eo_mv rfl rfl) rfl ?_
        refine de rfl (eo_mv rfl rfl) rfl ?_
        refine de rfl (eo_sub rfl rfl rfl (by omega) (by omega)) rfl ?_
        refine de rfl (eo_mv rfl rfl) rfl ?_
        refine de rfl (eo_mul rfl rfl rfl (by omega) (by omega)) rfl ?_
        refine de rfl (eo_mv rfl rfl) rfl ?_
        refine de rfl (eo_add rfl rfl rfl (by omega) (by omega)) rfl ?_
        refine de rfl (eo_sub rfl rfl rfl (by omega) (by omega)) rfl ?_
        refine de rfl (eo_index0 rfl sl41 rfl rfl (by omega) (by omega)) rfl ?_
        refine de rfl (eo_geti 0 rfl s3 rfl rfl (by omega)) rfl ?_
        refine de rfl (eo_sub rfl rfl rfl (by omega) (by omega)) rfl ?_
        refine de rfl (eo_field rfl f24_2 rfl) rfl ?_
        refine de rfl (eo_load 1 rfl s22 rfl rfl rfl rfl) rfl ?_
        refine de rfl (eo_mv rfl rfl) rfl ?_
        refine de rfl (eo_sub rfl rfl rfl (by omega) (by omega)) rfl ?_
        refine de rfl (eo_field rfl f24_0 rfl) rfl ?_
        refine de rfl (eo_load 1 rfl s3 rfl rfl rfl rfl) rfl ?_
        refine de rfl (eo_mul rfl rfl rfl (by omega) (by omega)) rfl ?_
        refine de rfl (eo_mv rfl rfl) rfl ?_
        refine de rfl (eo_add rfl rfl rfl (by omega) (by omega)) rfl ?_
        refine de rfl (eo_sub rfl rfl rfl (by omega) (by omega)) rfl ?_
        refine de rfl (eo_indexR rfl sl22 rfl rfl hr (by simp) (by omega) (by omega)) rfl ?_
        refine de rfl (eo_load_old rfl s5 rfl (Rd.tabi hr (by omega)) (by simp)) rfl ?_
        refine de rfl (eo_convi rfl rfl ⟨_, Try.underlying5⟩ Try.underlying3 (by omega) (by omega)) rfl ?_
        refine de rfl (eo_add rfl rfl rfl (by omega) (by omega)) rfl ?_
        refine de rfl (eo_index0 rfl sl41 rfl rfl (by omega) (by omega)) rfl ?_
        refine ge_nil ?_
        refine ga_nil ?_
        refine iu rfl (xo_seti 0 rfl s3 rfl rfl rfl (by omega)) ?_
        rintro _ _ ⟨rfl, rfl⟩
        refine gi_nil ?_
        refine gq_nq ?_
        refine gq_block_end ?_
        refine gq_next ?_
        refine gc_region ?_
        refine ne (eo_mv rfl rfl) rfl ?_
        refine ne (eo_add rfl rfl rfl (by omega) (by omega)) rfl ?_
        refine ne (eo_as rfl rfl) rfl ?_
        refine go_nil ?_
        exact round2 (x + 1) (upd s1 (((((y : Int) * (W + 1)) + (x : Int))).toNat) ((((s1 ((((((y : Int) * (W + 1)) + (x : Int)) - 1)).toNat)) + (s1 ((((((y : Int) - 1) * (W + 1)) + (x : Int))).toNat))) - (s1 (((((((y : Int) - 1) * (W + 1)) + (x : Int)) - 1)).toNat))) + (f (((((((y : Int) - 1) * W) + (x : Int)) - 1)).toNat)))) ⟨by omega, by omega, fill_to (fill_up hI (by omega) (int_at hy0 hx0 (by omega) (by omega) q1 q2 q3 hfx.symm)) (by push_cast; omega)⟩ (by omega) ⟨rfl, rfl, rfl, rfl, rfl, trivial⟩ (List.Sublist.refl _)
      ·
        replace hc2 := of_decide_eq_false hc2
        refine gc_exit ?_
        refine gq_then_exit ?_
        refine gq_then_exit ?_
        refine gq_block_hit ?_
        refine gq_block_end ?_
        refine gq_next ?_
        refine gc_region ?_
        refine ne (eo_mv rfl rfl) rfl ?_
        refine ne (eo_add rfl rfl rfl (by omega) (by omega)) rfl ?_
        refine ne (eo_as rfl rfl) rfl ?_
        refine go_nil ?_
        exact round2 (y + 1) s1 ⟨by omega, by omega, fill_to hI (by push_cast; rw [add1_mul]; omega)⟩ (by omega) ⟨rfl, rfl, rfl, rfl, trivial⟩ (List.Sublist.refl _)
    ·
      replace hc1 := of_decide_eq_false hc1
      refine gc_exit ?_
      refine gq_then_exit ?_
      refine gq_then_exit ?_
      refine gq_block_hit ?_
      refine gq_next ?_
      refine gc_seq ?_
      refine gc_region ?_
      refine ne (eo_mv rfl rfl) rfl ?_
      refine ne (eo_as rfl rfl) rfl ?_
      refine ne (eo_as rfl rfl) rfl ?_
      refine go_nil ?_
      refine gq_next ?_
      refine gc_ret ?_
      refine gq_results (res2 rfl rfl rfl) ?_
      exact fun W1 hO => rxs_own 0 hO rfl (intR_ok hv) (fill_end hI (by rw [show (y : Int) = H + 1 by omega, Int.mul_comm (H + 1)]; omega)) (by omega)

end Go.Proofs.Ytcdhbikginpogaa
