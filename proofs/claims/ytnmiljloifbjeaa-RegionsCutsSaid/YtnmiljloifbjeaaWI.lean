/-
  The walks of the functions of package regions and of the document's answers (part I): what each call returns, at every argument.
-/
import Derived.Test.YtnmiljloifbjeaaWB
import Derived.Test.YtnmiljloifbjeaaMo
namespace Go.Proofs.Ytnmiljloifbjeaa
open Go.RowKit Go.Eng

open Go.Bs


/-- barscan/barscanref46.empty -/
theorem rempty_c (W H : Int) (A : Option Addr) (n c : Nat) (f : Nat → Bool) (X Y BW BH : Int) (w : World) (hr : Rd w A (tab n (bv f))) (hv : vldB W H n = true) (hb : BIn W H ⟨X, Y, BW, BH⟩) :
    Calls Try.prog 43 #[.agg #[.int .i64 W, .int .i64 H, .slice A n c], .agg #[.int .i64 X, .int .i64 Y, .int .i64 BW, .int .i64 BH]] w (fun e w' => e = .returned (.bool (decide (bxS f W ⟨X, Y, BW, BH⟩ = 0))) ∧ Ext w w') := by
  obtain ⟨v1, v2, v3, v4, v5, v6⟩ := vldB_iff.1 hv
  have v7 := vld_pos hv
  obtain ⟨b1, b2, b3, b4, b5, b6⟩ := bin_nums hb
  refine calls_enter (N := ⟨39, []⟩) [] ([]) Try.func43 rfl rfl rfl (Ow.start _) ?_
  refine gc_seq ?_
  refine gc_region ?_
  refine nx (xo_boxA rfl rfl) rfl ?_
  rintro _ _ ⟨g2, rfl, rfl⟩
  refine nx (xo_boxA rfl rfl) rfl ?_
  rintro _ _ ⟨g3, rfl, rfl⟩
  refine ne (eo_as rfl rfl) rfl ?_
  refine go_nil ?_
  refine gq_next ?_
  refine gc_seq ?_
  refine gc_seq ?_
  refine gc_region ?_
  refine ne (eo_field rfl f32_1 rfl) rfl ?_
  refine ne (eo_load 0 rfl s3 rfl rfl rfl rfl) rfl ?_
  refine ne (eo_as rfl rfl) rfl ?_
  refine go_nil ?_
  refine gq_next ?_
  refine gc_block ?_
  refine loop1 (fun (y : Int) => Y ≤ y ∧ y ≤ Y + BH ∧ ∀ a b, BHas ⟨X, Y, BW, BH⟩ a b → b < y → pxD W f a b = false) (fun (y : Int) => (Y + BH - y).toNat) (fun (y : Int) => [(2, .pointer (some ⟨g2, 0, none⟩)), (3, .pointer (some ⟨g3, 0, none⟩)), (5, .int .i64 y)]) (fun (y : Int) => [⟨g3, 32, [.int .i64 X, .int .i64 Y, .int .i64 BW, .int .i64 BH]⟩, ⟨g2, 24, [.int .i64 W, .int .i64 H, .slice A n c]⟩]) Y ⟨by omega, by omega, fun a b h1 h2 => by have := h1.2.2.1; simp only at this; omega⟩ ⟨rfl, rfl, rfl, trivial⟩ (List.Sublist.refl _) ?_
  rintro y ⟨hy0, hy, hI⟩
  refine gc_seq ?_
  refine gc_seq ?_
  refine gc_region ?_
  refine ne (eo_mv rfl rfl) rfl ?_
  refine ne (eo_field rfl f32_1 rfl) rfl ?_
  refine ne (eo_load 0 rfl s3 rfl rfl rfl rfl) rfl ?_
  refine ne (eo_field rfl f32_3 rfl) rfl ?_
  refine ne (eo_load 0 rfl s3 rfl rfl rfl rfl) rfl ?_
  refine ne (eo_add rfl rfl rfl (by omega) (by omega)) rfl ?_
  refine ne (eo_lss rfl rfl rfl) rfl ?_
  refine go_nil ?_
  refine gq_next ?_
  refine gc_cond rfl (fun hc0 => ?_) (fun hc0 => ?_)
  ·
    replace hc0 := of_decide_eq_true hc0
    refine gc_skip ?_
    refine gq_next ?_
    refine gc_seq ?_
    refine gc_block ?_
    refine gc_seq ?_
    refine gc_region ?_
    refine ne (eo_field rfl f32_0 rfl) rfl ?_
    refine ne (eo_load 0 rfl s3 rfl rfl rfl rfl) rfl ?_
    refine ne (eo_as rfl rfl) rfl ?_
    refine go_nil ?_
    refine gq_next ?_
    refine gc_block ?_
    refine loop1 (fun (x : Int) => X ≤ x ∧ x ≤ X + BW ∧ ∀ a, X ≤ a → a < x → pxD W f a y = false) (fun (x : Int) => (X + BW - x).toNat) (fun (x : Int) => [(2, .pointer (some ⟨g2, 0, none⟩)), (3, .pointer (some ⟨g3, 0, none⟩)), (5, .int .i64 y), (6, .int .i64 x)]) (fun (x : Int) => [⟨g3, 32, [.int .i64 X, .int .i64 Y, .int .i64 BW, .int .i64 BH]⟩, ⟨g2, 24, [.int .i64 W, .int .i64 H, .slice A n c]⟩]) X ⟨by omega, by omega, fun a h1 h2 => by omega⟩ ⟨rfl, rfl, rfl, rfl, trivial⟩ (List.Sublist.refl _) ?_
    rintro x ⟨hx0, hx, hJ⟩
    refine gc_seq ?_
    refine gc_seq ?_
    refine gc_region ?_
    refine ne (eo_mv rfl rfl) rfl ?_
    refine ne (eo_field rfl f32_0 rfl) rfl ?_
    refine ne (eo_load 0 rfl s3 rfl rfl rfl rfl) rfl ?_
    refine ne (eo_field rfl f32_2 rfl) rfl ?_
    refine ne (eo_load 0 rfl s3 rfl rfl rfl rfl) rfl ?_
    refine ne (eo_add rfl rfl rfl (by omega) (by omega)) rfl ?_
    refine ne (eo_lss rfl rfl rfl) rfl ?_
    refine go_nil ?_
    refine gq_next ?_
    refine gc_cond rfl (fun hc1 => ?_) (fun hc1 => ?_)
    ·
      replace hc1 := of_decide_eq_true hc1
      have hi1 := idx_bd (W := W) (H := H) (x := x) (y := y) (by omega) (by omega) (by omega) (by omega)
      refine gc_skip ?_
      refine gq_next ?_
      refine gc_seq ?_
      refine gc_block ?_
      refine gc_seq ?_
      refine gc_region ?_
      refine ne (eo_field rfl f24_2 rfl) rfl ?_
      refine ne (eo_load 1 rfl s22 rfl rfl rfl rfl) rfl ?_
      refine ne (eo_mv rfl rfl) rfl ?_
      refine ne (eo_field rfl f24_0 rfl) rfl ?_
      refine ne (eo_load 1 rfl s3 rfl rfl rfl rfl) rfl ?_
      refine ne (eo_mul rfl rfl rfl (by omega) (by omega)) rfl ?_
      refine ne (eo_mv rfl rfl) rfl ?_
      refine ne (eo_add rfl rfl rfl (by omega) (by omega)) rfl ?_
      refine ne (eo_indexR rfl sl22 rfl rfl hr (by simp) (by omega) (by omega)) rfl ?_
      refine ne (eo_load_old rfl s4 rfl (Rd.tabb hr (by omega)) (by simp)) rfl ?_
      refine go_nil ?_
      refine gq_next ?_
      refine gc_cond rfl (fun hc2 => ?_) (fun hc2 => ?_)
      ·
        refine gc_seq ?_
        refine gc_region ?_
        refine ne (eo_as rfl rfl) rfl ?_
        refine go_nil ?_
        refine gq_next ?_
        refine gc_ret ?_
        refine gq_block_ret ?_
        refine gq_then_ret ?_
        refine gq_then_ret ?_
        refine gq_block_ret ?_
        refine gq_block_ret ?_
        refine gq_then_ret ?_
        refine gq_then_ret ?_
        refine gq_block_ret ?_
        refine gq_then_ret ?_
        refine gq_results (res1 rfl rfl) ?_
        exact fun W1 hO => ⟨ret_bool (decide_eq_false fun e => by have e2 := (bxS_zero hb).1 e x y ⟨hx0, by simp only; omega, hy0, by simp only; omega⟩; have e3 : pxD W f x y = true := hc2; rw [e3] at e2; cases e2).symm, hO.toExt⟩
      ·
        refine gc_skip ?_
        refine gq_block_end ?_
        refine gq_next ?_
        refine gc_region ?_
        refine ne (eo_mv rfl rfl) rfl ?_
        refine ne (eo_add rfl rfl rfl (by omega) (by omega)) rfl ?_
        refine ne (eo_as rfl rfl) rfl ?_
        refine go_nil ?_
        exact round1 (x + 1) ⟨by omega, by omega, fun a q1 q2 => by
          by_cases e : a = x
          · rw [e]; exact hc2
          · exact hJ a q1 (by omega)⟩ (by omega) ⟨rfl, rfl, rfl, rfl, trivial⟩ (List.Sublist.refl _)
    ·
      replace hc1 := of_decide_eq_false hc1
      refine gc_exit ?_
      refine gq_then_exit ?_
      refine gq_then_exit ?_
      refine gq_block_hit ?_
      refine gq_block_end ?_
      refine gq_next ?_
      refine gc_region ?_
      refine ne (eo_mv rfl rfl) rfl ?_
      refine ne (eo_add rfl rfl rfl (by omega) (by omega)) rfl ?_
      refine ne (eo_as rfl rfl) rfl ?_
      refine go_nil ?_
      exact round1 (y + 1) ⟨by omega, by omega, fun a b q1 q2 => by
        by_cases e : b = y
        · rw [e]; exact hJ a q1.1 (by have := q1.2.1; simp only at this; omega)
        · exact hI a b q1 (by omega)⟩ (by omega) ⟨rfl, rfl, rfl, trivial⟩ (List.Sublist.refl _)
  ·
    replace hc0 := of_decide_eq_false hc0
    refine gc_exit ?_
    refine gq_then_exit ?_
    refine gq_then_exit ?_
    refine gq_block_hit ?_
    refine gq_next ?_
    refine gc_seq ?_
    refine gc_region ?_
    refine ne (eo_as rfl rfl) rfl ?_
    refine go_nil ?_
    refine gq_next ?_
    refine gc_ret ?_
    refine gq_results (res1 rfl rfl) ?_
    exact fun W1 hO => ⟨ret_bool (decide_eq_true ((bxS_zero hb).2 fun a b q => hI a b q (by have := q.2.2.2; simp only at this; omega))).symm, hO.toExt⟩

/-- barscan/barscanref46.count -/
theorem rcount_c (W H : Int) (A : Option Addr) (n c : Nat) (f : Nat → Bool) (X Y BW BH : Int) (w : World) (hr : Rd w A (tab n (bv f))) (hv : vldB W H n = true) (hb : BIn W H ⟨X, Y, BW, BH⟩) :
    Calls Try.prog 36 #[.agg #[.int .i64 W, .int .i64 H, .slice A n c], .agg #[.int .i64 X, .int .i64 Y, .int .i64 BW, .int .i64 BH]] w (fun e w' => e = .returned (.int .i64 (bxS f W ⟨X, Y, BW, BH⟩)) ∧ Ext w w') := by
  obtain ⟨v1, v2, v3, v4, v5, v6⟩ := vldB_iff.1 hv
  have v7 := vld_pos hv
  obtain ⟨b1, b2, b3, b4, b5, b6⟩ := bin_nums hb
  refine calls_enter (N := ⟨43, []⟩) [] ([]) Try.func36 rfl rfl rfl (Ow.start _) ?_
  refine gc_seq ?_
  refine gc_region ?_
  refine nx (xo_boxA rfl rfl) rfl ?_
  rintro _ _ ⟨g2, rfl, rfl⟩
  refine nx (xo_boxA rfl rfl) rfl ?_
  rintro _ _ ⟨g3, rfl, rfl⟩
  refine ne (eo_as rfl rfl) rfl ?_
  refine go_nil ?_
  refine gq_next ?_
  refine gc_seq ?_
  refine gc_region ?_
  refine ne (eo_as rfl rfl) rfl ?_
  refine go_nil ?_
  refine gq_next ?_
  refine gc_seq ?_
  refine gc_seq ?_
  refine gc_region ?_
  refine ne (eo_field rfl f32_1 rfl) rfl ?_
  refine ne (eo_load 0 rfl s3 rfl rfl rfl rfl) rfl ?_
  refine ne (eo_as rfl rfl) rfl ?_
  refine go_nil ?_
  refine gq_next ?_
  refine gc_block ?_
  refine loop2 (fun (y : Int) (q : Int) => Y ≤ y ∧ y ≤ Y + BH ∧ q = boxS (bw f) W Y.toNat y.toNat X.toNat (X + BW).toNat) (fun (y : Int) (q : Int) => (Y + BH - y).toNat) (fun (y : Int) (q : Int) => [(2, .pointer (some ⟨g2, 0, none⟩)), (3, .pointer (some ⟨g3, 0, none⟩)), (5, .int .i64 q), (6, .int .i64 y)]) (fun (y : Int) (q : Int) => [⟨g3, 32, [.int .i64 X, .int .i64 Y, .int .i64 BW, .int .i64 BH]⟩, ⟨g2, 24, [.int .i64 W, .int .i64 H, .slice A n c]⟩]) Y 0 ⟨by omega, by omega, boxS_nil.symm⟩ ⟨rfl, rfl, rfl, rfl, trivial⟩ (List.Sublist.refl _) ?_
  rintro y q ⟨hy0, hy, hq⟩
  have hbl := box_le (f := f) (W := W) (t := Y) (b := y) (l := X) (r := X + BW) (by omega) (by omega) (by omega) (by omega) (by omega) (by omega)
  refine gc_seq ?_
  refine gc_seq ?_
  refine gc_region ?_
  refine ne (eo_mv rfl rfl) rfl ?_
  refine ne (eo_field rfl f32_1 rfl) rfl ?_
  refine ne (eo_load 0 rfl s3 rfl rfl rfl rfl) rfl ?_
  refine ne (eo_field rfl f32_3 rfl) rfl ?_
  refine ne (eo_load 0 rfl s3 rfl rfl rfl rfl) rfl ?_
  refine ne (eo_add rfl rfl rfl (by omega) (by omega)) rfl ?_
  refine ne (eo_lss rfl rfl rfl) rfl ?_
  refine go_nil ?_
  refine gq_next ?_
  refine gc_cond rfl (fun hc0 => ?_) (fun hc0 => ?_)
  ·
    replace hc0 := of_decide_eq_true hc0
    refine gc_skip ?_
    refine gq_next ?_
    refine gc_seq ?_
    refine gc_block ?_
    refine gc_seq ?_
    refine gc_region ?_
    refine ne (eo_field rfl f32_0 rfl) rfl ?_
    refine ne (eo_load 0 rfl s3 rfl rfl rfl rfl) rfl ?_
    refine ne (eo_as rfl rfl) rfl ?_
    refine go_nil ?_
    refine gq_next ?_
    refine gc_block ?_
    refine loop2 (fun (x : Int) (q2 : Int) => X ≤ x ∧ x ≤ X + BW ∧ q2 = q + (rowS (bw f) W y.toNat x.toNat - rowS (bw f) W y.toNat X.toNat)) (fun (x : Int) (q2 : Int) => (X + BW - x).toNat) (fun (x : Int) (q2 : Int) => [(2, .pointer (some ⟨g2, 0, none⟩)), (3, .pointer (some ⟨g3, 0, none⟩)), (5, .int .i64 q2), (6, .int .i64 y), (7, .int .i64 x)]) (fun (x : Int) (q2 : Int) => [⟨g3, 32, [.int .i64 X, .int .i64 Y, .int .i64 BW, .int .i64 BH]⟩, ⟨g2, 24, [.int .i64 W, .int .i64 H, .slice A n c]⟩]) X q ⟨by omega, by omega, by omega⟩ ⟨rfl, rfl, rfl, rfl, rfl, trivial⟩ (List.Sublist.refl _) ?_
    rintro x q2 ⟨hx0, hx, hq2⟩
    have hrl := row_le (f := f) (W := W) (y := y.toNat) (l := X) (r := x) (by omega) (by omega) (by omega)
    refine gc_seq ?_
    refine gc_seq ?_
    refine gc_region ?_
    refine ne (eo_mv rfl rfl) rfl ?_
    refine ne (eo_field rfl f32_0 rfl) rfl ?_
    refine ne (eo_load 0 rfl s3 rfl rfl rfl rfl) rfl ?_
    refine ne (eo_field rfl f32_2 rfl) rfl ?_
    refine ne (eo_load 0 rfl s3 rfl rfl rfl rfl) rfl ?_
    refine ne (eo_add rfl rfl rfl (by omega) (by omega)) rfl ?_
    refine ne (eo_lss rfl rfl rfl) rfl ?_
    refine go_nil ?_
    refine gq_next ?_
    refine gc_cond rfl (fun hc1 => ?_) (fun hc1 => ?_)
    ·
      replace hc1 := of_decide_eq_true hc1
      have hi1 := idx_bd (W := W) (H := H) (x := x) (y := y) (by omega) (by omega) (by omega) (by omega)
      have hcs := cnt_step (g := bw f) (W := W) (j := y) (i := x) (l := 0) (by omega) (by omega)
      refine gc_skip ?_
      refine gq_next ?_
      refine gc_seq ?_
      refine gc_block ?_
      refine gc_seq ?_
      refine gc_region ?_
      refine ne (eo_field rfl f24_2 rfl) rfl ?_
      refine ne (eo_load 1 rfl s22 rfl rfl rfl rfl) rfl ?_
      refine ne (eo_mv rfl rfl) rfl ?_
      refine ne (eo_field rfl f24_0 rfl) rfl ?_
      refine ne (eo_load 1 rfl s3 rfl rfl rfl rfl) rfl ?_
      refine ne (eo_mul rfl rfl rfl (by omega) (by omega)) rfl ?_
      refine ne (eo_mv rfl rfl) rfl ?_
      refine ne (eo_add rfl rfl rfl (by omega) (by omega)) rfl ?_
      refine ne (eo_indexR rfl sl22 rfl rfl hr (by simp) (by omega) (by omega)) rfl ?_
      refine ne (eo_load_old rfl s4 rfl (Rd.tabb hr (by omega)) (by simp)) rfl ?_
      refine go_nil ?_
      refine gq_next ?_
      refine gc_cond rfl (fun hc2 => ?_) (fun hc2 => ?_)
      ·
        refine gc_region ?_
        refine ne (eo_mv rfl rfl) rfl ?_
        refine ne (eo_add rfl rfl rfl (by omega) (by omega)) rfl ?_
        refine ne (eo_as rfl rfl) rfl ?_
        refine go_nil ?_
        refine gq_block_end ?_
        refine gq_next ?_
        refine gc_region ?_
        refine ne (eo_mv rfl rfl) rfl ?_
        refine ne (eo_add rfl rfl rfl (by omega) (by omega)) rfl ?_
        refine ne (eo_as rfl rfl) rfl ?_
        refine go_nil ?_
        exact round2 (x + 1) (q2 + 1) ⟨by omega, by omega, by have e3 := bw_t (f := f) (i := (y * W + x).toNat) hc2; omega⟩ (by omega) ⟨rfl, rfl, rfl, rfl, rfl, trivial⟩ (List.Sublist.refl _)
      ·
        refine gc_skip ?_
        refine gq_block_end ?_
        refine gq_next ?_
        refine gc_region ?_
        refine ne (eo_mv rfl rfl) rfl ?_
        refine ne (eo_add rfl rfl rfl (by omega) (by omega)) rfl ?_
        refine ne (eo_as rfl rfl) rfl ?_
        refine go_nil ?_
        exact round2 (x + 1) q2 ⟨by omega, by omega, by have e3 := bw_f (f := f) (i := (y * W + x).toNat) hc2; omega⟩ (by omega) ⟨rfl, rfl, rfl, rfl, rfl, trivial⟩ (List.Sublist.refl _)
    ·
      replace hc1 := of_decide_eq_false hc1
      refine gc_exit ?_
      refine gq_then_exit ?_
      refine gq_then_exit ?_
      refine gq_block_hit ?_
      refine gq_block_end ?_
      refine gq_next ?_
      refine gc_region ?_
      refine ne (eo_mv rfl rfl) rfl ?_
      refine ne (eo_add rfl rfl rfl (by omega) (by omega)) rfl ?_
      refine ne (eo_as rfl rfl) rfl ?_
      refine go_nil ?_
      exact round2 (y + 1) q2 ⟨by omega, by omega, by rw [cnt_row (by omega), hq2, hq, show x = X + BW by omega]⟩ (by omega) ⟨rfl, rfl, rfl, rfl, trivial⟩ (List.Sublist.refl _)
  ·
    replace hc0 := of_decide_eq_false hc0
    refine gc_exit ?_
    refine gq_then_exit ?_
    refine gq_then_exit ?_
    refine gq_block_hit ?_
    refine gq_next ?_
    refine gc_seq ?_
    refine gc_region ?_
    refine ne (eo_mv rfl rfl) rfl ?_
    refine ne (eo_as rfl rfl) rfl ?_
    refine go_nil ?_
    refine gq_next ?_
    refine gc_ret ?_
    refine gq_results (res1 rfl rfl) ?_
    exact fun W1 hO => ⟨ret_int (by rw [hq, show y = Y + BH by omega]; rfl), hO.toExt⟩

end Go.Proofs.Ytnmiljloifbjeaa
