/-
  The walks of the functions of package regions and of the document's answers (part C): what each call returns, at every argument.
-/
import Derived.Test.YtnmiljloifbjeaaWB
import Derived.Test.YtnmiljloifbjeaaMo
namespace Go.Proofs.Ytnmiljloifbjeaa
open Go.RowKit Go.Eng

open Go.Bs
theorem z61 : TyZ Try.prog 61 [.int .i64 0, .slice none 0 0] := .inl (by kernel_rfl)
theorem e21 : TyE Try.prog 21 (.int .i32 0) 4 := ⟨rfl, by kernel_rfl⟩
theorem b61_01 (x0 : Int) (x1A : Option Addr) (x1n x1c : Nat) (W : World) : (Instr.build 61 #[(0, .int .i64 x0), (1, .slice x1A x1n x1c)]).run Try.prog W = .ok (.agg #[.int .i64 x0, .slice x1A x1n x1c]) W := by kernel_rfl
theorem a61 : TyA Try.prog 61 2 := ⟨⟨_, Try.underlying61, rfl⟩, by kernel_rfl⟩
theorem f61_1 : FieldAt Try.prog 61 1 1 := ⟨_, _, 0, Try.underlying61, rfl, by kernel_rfl, rfl⟩
theorem s59 : TyS Try.prog 59 := ⟨⟨_, Try.underlying59, rfl⟩, by kernel_rfl⟩
theorem f61_0 : FieldAt Try.prog 61 0 0 := ⟨_, _, 0, Try.underlying61, rfl, by kernel_rfl, rfl⟩
theorem sl59 : TySl Try.prog 59 21 1 := ⟨Try.underlying59, by kernel_rfl⟩
theorem s21 : TyS Try.prog 21 := ⟨⟨_, Try.underlying21, rfl⟩, by kernel_rfl⟩
theorem en44 : Ent Try.prog 44 := ent_of Try.func44 (by kernel_rfl) rfl

/-- barscan/regions.count -/
theorem count_x (W H : Int) (A : Option Addr) (n c : Nat) (f : Nat → Bool) (w : World) (hr : Rd w A (tab n (bv f))) (hv : vldB W H n = true) :
    Calls Try.prog 26 #[.agg #[.int .i64 W, .int .i64 H, .slice A n c]] w (fun e w' => ∃ v Hn, e = .returned v ∧ RC W H f v Hn ∧ Ow [] w w' Hn) := by
  obtain ⟨v1, v2, v3, v4, v5, v6⟩ := vldB_iff.1 hv
  have v7 := vld_pos hv
  have v8 := mul_up1 v1 v2 v3 v4
  refine calls_enter (N := ⟨68, []⟩) [] ([]) Try.func26 rfl rfl rfl (Ow.start _) ?_
  refine gc_seq ?_
  refine gc_region ?_
  refine nx (xo_boxA rfl rfl) rfl ?_
  rintro _ _ ⟨g1, rfl, rfl⟩
  refine nx (xo_alloc rfl z61) rfl ?_
  rintro _ _ ⟨g2, rfl, rfl⟩
  refine go_nil ?_
  refine gq_next ?_
  refine gc_seq ?_
  refine gc_draw_new (i := 12) (d := 3) [] [0, 1, 2, 3, 4, 5, 6, 7, 8, 9] [10, 11] [13] (by kernel_rfl) (by kernel_rfl) rfl z61 rfl ?_
  refine gp_nil ?_
  refine de rfl (eo_field rfl f24_0 rfl) rfl ?_
  refine de rfl (eo_load 1 rfl s3 rfl rfl rfl rfl) rfl ?_
  refine de rfl (eo_add rfl rfl rfl (by omega) (by omega)) rfl ?_
  refine de rfl (eo_field rfl f24_0 rfl) rfl ?_
  refine de rfl (eo_load 1 rfl s3 rfl rfl rfl rfl) rfl ?_
  refine de rfl (eo_add rfl rfl rfl (by omega) (by omega)) rfl ?_
  refine de rfl (eo_field rfl f24_1 rfl) rfl ?_
  refine de rfl (eo_load 1 rfl s3 rfl rfl rfl rfl) rfl ?_
  refine de rfl (eo_add rfl rfl rfl (by omega) (by omega)) rfl ?_
  refine de rfl (eo_mul rfl rfl rfl (by omega) (by omega)) rfl ?_
  refine ge_nil ?_
  refine ⟨rfl, ?_⟩
  refine da rfl (xo_makei rfl Try.underlying59 e21 rfl rfl (by omega) (by omega) (by omega)) rfl ?_
  rintro _ _ ⟨g17, rfl, rfl⟩
  refine ⟨by first | exact (List.Sublist.cons _ (List.Sublist.refl _)) | exact (List.sublist_append_left _ _), ?_⟩
  refine da rfl (xo_of_eo (eo_build rfl rfl (b61_01 _ _ _ _))) rfl ?_
  rintro _ _ ⟨rfl, rfl⟩
  refine ⟨by first | exact (List.Sublist.cons _ (List.Sublist.refl _)) | exact (List.sublist_append_left _ _), ?_⟩
  refine ga_nil ?_
  intro g3
  refine iu rfl (xo_storeA 0 rfl a61 rfl rfl (ones_cons (by first | rfl | exact AS.one) (ones_cons (by first | rfl | exact AS.one) ones_nil)) rfl rfl rfl rfl) ?_
  rintro _ _ ⟨rfl, rfl⟩
  refine gi_nil ?_
  refine gq_nq ?_
  refine gq_next ?_
  refine gc_seq ?_
  refine gc_seq ?_
  refine gc_region ?_
  refine ne (eo_field rfl f24_1 rfl) rfl ?_
  refine ne (eo_load 3 rfl s3 rfl rfl rfl rfl) rfl ?_
  refine ne (eo_mv rfl rfl) rfl ?_
  refine go_nil ?_
  refine gq_next ?_
  refine gc_block ?_
  refine loop2 (fun (y : Nat) (s1 : Nat → Int) => (y : Int) ≤ H ∧ ∀ q, q < ((W + 1) * (H + 1)).toNat → s1 q = if (q : Int) < ((y : Int) + 1) * (W + 1) then sumG (bw f) W q else 0) (fun (y : Nat) (s1 : Nat → Int) => (H - y).toNat) (fun (y : Nat) (s1 : Nat → Int) => [(1, .pointer (some ⟨g1, 0, none⟩)), (2, .pointer (some ⟨g2, 0, none⟩)), (3, .pointer (some ⟨g3, 0, none⟩)), (20, .int .i64 H), (21, .int .i64 (y : Int))]) (fun (y : Nat) (s1 : Nat → Int) => [⟨g3, 61, [.int .i64 (W + 1), .slice (some ⟨g17, 0, none⟩) ((((W + 1) * (H + 1))).toNat) ((((W + 1) * (H + 1))).toNat)]⟩, ⟨g17, 21, tab ((((W + 1) * (H + 1))).toNat) (iv .i32 s1) ++ []⟩, ⟨g2, 61, [.int .i64 0, .slice none 0 0]⟩, ⟨g1, 24, [.int .i64 W, .int .i64 H, .slice A n c]⟩]) 0 (fun _ => 0) ⟨by omega, sumG_new (by omega) (by simp)⟩ ⟨rfl, rfl, rfl, rfl, rfl, trivial⟩ (List.Sublist.refl _) ?_
  rintro y s1 ⟨hy, hI⟩
  refine gc_seq ?_
  refine gc_region ?_
  refine ne (eo_lss rfl rfl rfl) rfl ?_
  refine go_nil ?_
  refine gq_next ?_
  refine gc_seq ?_
  refine gc_cond rfl (fun hc0 => ?_) (fun hc0 => ?_)
  ·
    replace hc0 := of_decide_eq_true hc0
    have hb := idx_bd (W := W + 1) (H := H + 1) (x := 0) (y := (y : Int) + 1) (by omega) (by omega) (by omega) (by omega)
    have hb0 := idx_bd (W := W) (H := H) (x := 0) (y := (y : Int)) (by omega) (by omega) (by omega) (by omega)
    have ha : ((y : Int) + 1) * (W + 1) = y * (W + 1) + (W + 1) := add1_mul
    have hb1 : 0 ≤ (y : Int) * (W + 1) := Int.mul_nonneg (by omega) (by omega)
    refine gc_skip ?_
    refine gq_next ?_
    refine gc_seq ?_
    refine gc_block ?_
    refine gc_seq ?_
    refine gc_region ?_
    refine ne (eo_mv rfl rfl) rfl ?_
    refine ne (eo_as rfl rfl) rfl ?_
    refine go_nil ?_
    refine gq_next ?_
    refine gc_seq ?_
    refine gc_region ?_
    refine ne (eo_as rfl rfl) rfl ?_
    refine go_nil ?_
    refine gq_next ?_
    refine gc_seq ?_
    refine gc_region ?_
    refine ne (eo_field rfl f24_0 rfl) rfl ?_
    refine ne (eo_load 3 rfl s3 rfl rfl rfl rfl) rfl ?_
    refine ne (eo_mv rfl rfl) rfl ?_
    refine go_nil ?_
    refine gq_next ?_
    refine gc_block ?_
    refine loop3 (fun (x : Nat) (row : Int) (s1 : Nat → Int) => (x : Int) ≤ W ∧ row = rowS (bw f) W y x ∧ ∀ q, q < ((W + 1) * (H + 1)).toNat → s1 q = if (q : Int) < ((y : Int) + 1) * (W + 1) + 1 + x then sumG (bw f) W q else 0) (fun (x : Nat) (row : Int) (s1 : Nat → Int) => (W - x).toNat) (fun (x : Nat) (row : Int) (s1 : Nat → Int) => [(1, .pointer (some ⟨g1, 0, none⟩)), (2, .pointer (some ⟨g2, 0, none⟩)), (3, .pointer (some ⟨g3, 0, none⟩)), (4, .int .i64 (y : Int)), (5, .int .i32 row), (20, .int .i64 H), (21, .int .i64 (y : Int)), (25, .int .i64 W), (26, .int .i64 (x : Int))]) (fun (x : Nat) (row : Int) (s1 : Nat → Int) => [⟨g3, 61, [.int .i64 (W + 1), .slice (some ⟨g17, 0, none⟩) ((((W + 1) * (H + 1))).toNat) ((((W + 1) * (H + 1))).toNat)]⟩, ⟨g17, 21, tab ((((W + 1) * (H + 1))).toNat) (iv .i32 s1) ++ []⟩, ⟨g2, 61, [.int .i64 0, .slice none 0 0]⟩, ⟨g1, 24, [.int .i64 W, .int .i64 H, .slice A n c]⟩]) 0 0 s1 ⟨by omega, rfl, fill_to (sumG_row (by omega) rfl hI) (by simp)⟩ ⟨rfl, rfl, rfl, rfl, rfl, rfl, rfl, rfl, rfl, trivial⟩ (List.Sublist.refl _) ?_
    rintro x row s1 ⟨hx, hrow, hI⟩
    have hrb := rowS_z (g := bw f) (W := W) (hi := 1) (y := y) (x := x) (fun _ => bw_bd)
    refine gc_seq ?_
    refine gc_region ?_
    refine ne (eo_lss rfl rfl rfl) rfl ?_
    refine go_nil ?_
    refine gq_next ?_
    refine gc_seq ?_
    refine gc_cond rfl (fun hc1 => ?_) (fun hc1 => ?_)
    ·
      replace hc1 := of_decide_eq_true hc1
      have hi := idx_bd (W := W) (H := H) (x := (x : Int)) (y := (y : Int)) (by omega) (by omega) (by omega) (by omega)
      have hq : s1 ((y : Int) * (W + 1) + (x : Int) + 1).toNat = sumS (bw f) W (y : Int).toNat ((x : Int) + 1).toNat := by
        rw [hI _ (by omega), if_pos (by omega), Int.add_assoc]
        exact sumG_z (by omega) (by omega) (by omega) (by omega)
      have hqb := sumS_z (g := bw f) (W := W) (hi := 1) (y := (y : Int)) (x := (x : Int) + 1) (by omega) (fun _ => bw_bd) (by omega) (by omega) (by omega) (by omega)
      refine gc_skip ?_
      refine gq_next ?_
      refine gc_seq ?_
      refine gc_block ?_
      refine gc_seq ?_
      refine gc_region ?_
      refine ne (eo_mv rfl rfl) rfl ?_
      refine ne (eo_as rfl rfl) rfl ?_
      refine go_nil ?_
      refine gq_next ?_
      refine gc_seq ?_
      refine gc_seq ?_
      refine gc_region ?_
      refine ne (eo_field rfl f24_2 rfl) rfl ?_
      refine ne (eo_load 3 rfl s22 rfl rfl rfl rfl) rfl ?_
      refine ne (eo_mv rfl rfl) rfl ?_
      refine ne (eo_field rfl f24_0 rfl) rfl ?_
      refine ne (eo_load 3 rfl s3 rfl rfl rfl rfl) rfl ?_
      refine ne (eo_mul rfl rfl rfl (by omega) (by omega)) rfl ?_
      refine ne (eo_mv rfl rfl) rfl ?_
      refine ne (eo_add rfl rfl rfl (by omega) (by omega)) rfl ?_
      refine ne (eo_indexR rfl sl22 rfl rfl hr (by simp) (by omega) (by omega)) rfl ?_
      refine ne (eo_load_old rfl s4 rfl (Rd.tabb hr (by omega)) (by simp)) rfl ?_
      refine go_nil ?_
      refine gq_next ?_
      refine gc_cond rfl (fun hc2 => ?_) (fun hc2 => ?_)
      ·
        have hrw : row + 1 = rowS (bw f) W y (x + 1) := by rw [rowS_succ, ← hrow, bw_t hc2]
        refine gc_region ?_
        refine ne (eo_mv rfl rfl) rfl ?_
        refine ne (eo_addk rfl rfl rfl (i32_in (by omega) (by omega))) rfl ?_
        refine ne (eo_as rfl rfl) rfl ?_
        refine go_nil ?_
        refine gq_next ?_
        refine gc_draw [] [0, 1, 2, 3, 4, 5, 6, 7, 8, 9, 10, 11, 12, 13, 14, 15, 16, 17, 18, 19, 20, 21, 22, 23] [] [24] (by kernel_rfl) (by kernel_rfl) ?_
        refine gp_nil ?_
        refine de rfl (eo_field rfl f61_1 rfl) rfl ?_
        refine de rfl (eo_load 0 rfl s59 rfl rfl rfl rfl) rfl ?_
        refine de rfl (eo_mv rfl rfl) rfl ?_
        refine de rfl (eo_add rfl rfl rfl (by omega) (by omega)) rfl ?_
        refine de rfl (eo_field rfl f61_0 rfl) rfl ?_
        refine de rfl (eo_load 0 rfl s3 rfl rfl rfl rfl) rfl ?_
        refine de rfl (eo_mul rfl rfl rfl (by omega) (by omega)) rfl ?_
        refine de rfl (eo_mv rfl rfl) rfl ?_
        refine de rfl (eo_add rfl rfl rfl (by omega) (by omega)) rfl ?_
        refine de rfl (eo_add rfl rfl rfl (by omega) (by omega)) rfl ?_
        refine de rfl (eo_field rfl f61_1 rfl) rfl ?_
        refine de rfl (eo_load 0 rfl s59 rfl rfl rfl rfl) rfl ?_
        refine de rfl (eo_mv rfl rfl) rfl ?_
        refine de rfl (eo_field rfl f61_0 rfl) rfl ?_
        refine de rfl (eo_load 0 rfl s3 rfl rfl rfl rfl) rfl ?_
        refine de rfl (eo_mul rfl rfl rfl (by omega) (by omega)) rfl ?_
        refine de rfl (eo_mv rfl rfl) rfl ?_
        refine de rfl (eo_add rfl rfl rfl (by omega) (by omega)) rfl ?_
        refine de rfl (eo_add rfl rfl rfl (by omega) (by omega)) rfl ?_
        refine de rfl (eo_index0 rfl sl59 rfl rfl (by omega) (by omega)) rfl ?_
        refine de rfl (eo_geti 1 rfl s21 rfl rfl (by omega)) rfl ?_
        refine de rfl (eo_mv rfl rfl) rfl ?_
        refine de rfl (eo_addk rfl rfl rfl (i32_in (by omega) (by omega))) rfl ?_
        refine de rfl (eo_index0 rfl sl59 rfl rfl (by omega) (by omega)) rfl ?_
        refine ge_nil ?_
        refine ga_nil ?_
        refine iu rfl (xo_seti 1 rfl s21 rfl rfl rfl (by omega)) ?_
        rintro _ _ ⟨rfl, rfl⟩
        refine gi_nil ?_
        refine gq_nq ?_
        refine gq_block_end ?_
        refine gq_next ?_
        refine gc_region ?_
        refine ne (eo_add rfl rfl rfl (by omega) (by omega)) rfl ?_
        refine ne (eo_mv rfl rfl) rfl ?_
        refine go_nil ?_
        exact round3 (x + 1) (row + 1) (upd s1 (((((((y : Int) + 1) * (W + 1)) + (x : Int)) + 1)).toNat) ((s1 ((((((y : Int) * (W + 1)) + (x : Int)) + 1)).toNat)) + (row + 1))) ⟨by omega, hrw, fill_to (fill_up hI (by omega) (sum_at hq (by omega) (by omega) hrw)) (by push_cast; omega)⟩ (by omega) ⟨rfl, rfl, rfl, rfl, rfl, rfl, rfl, rfl, rfl, trivial⟩ (List.Sublist.refl _)
      ·
        have hrw : row = rowS (bw f) W y (x + 1) := by rw [rowS_succ, ← hrow, bw_f hc2]; omega
        refine gc_skip ?_
        refine gq_next ?_
        refine gc_draw [] [0, 1, 2, 3, 4, 5, 6, 7, 8, 9, 10, 11, 12, 13, 14, 15, 16, 17, 18, 19, 20, 21, 22, 23] [] [24] (by kernel_rfl) (by kernel_rfl) ?_
        refine gp_nil ?_
        refine de rfl (eo_field rfl f61_1 rfl) rfl ?_
        refine de rfl (eo_load 0 rfl s59 rfl rfl rfl rfl) rfl ?_
        refine de rfl (eo_mv rfl rfl) rfl ?_
        refine de rfl (eo_add rfl rfl rfl (by omega) (by omega)) rfl ?_
        refine de rfl (eo_field rfl f61_0 rfl) rfl ?_
        refine de rfl (eo_load 0 rfl s3 rfl rfl rfl rfl) rfl ?_
        refine de rfl (eo_mul rfl rfl rfl (by omega) (by omega)) rfl ?_
        refine de rfl (eo_mv rfl rfl) rfl ?_
        refine de rfl (eo_add rfl rfl rfl (by omega) (by omega)) rfl ?_
        refine de rfl (eo_add rfl rfl rfl (by omega) (by omega)) rfl ?_
        refine de rfl (eo_field rfl f61_1 rfl) rfl ?_
        refine de rfl (eo_load 0 rfl s59 rfl rfl rfl rfl) rfl ?_
        refine de rfl (eo_mv rfl rfl) rfl ?_
        refine de rfl (eo_field rfl f61_0 rfl) rfl ?_
        refine de rfl (eo_load 0 rfl s3 rfl rfl rfl rfl) rfl ?_
        refine de rfl (eo_mul rfl rfl rfl (by omega) (by omega)) rfl ?_
        refine de rfl (eo_mv rfl rfl) rfl ?_
        refine de rfl (eo_add rfl rfl rfl (by omega) (by omega)) rfl ?_
        refine de rfl (eo_add rfl rfl rfl (by omega) (by omega)) rfl ?_
        refine de rfl (eo_index0 rfl sl59 rfl rfl (by omega) (by omega)) rfl ?_
        refine de rfl (eo_geti 1 rfl s21 rfl rfl (by omega)) rfl ?_
        refine de rfl (eo_mv rfl rfl) rfl ?_
        refine de rfl (eo_addk rfl rfl rfl (i32_in (by omega) (by omega))) rfl ?_
        refine de rfl (eo_index0 rfl sl59 rfl rfl (by omega) (by omega)) rfl ?_
        refine ge_nil ?_
        refine ga_nil ?_
        refine iu rfl (xo_seti 1 rfl s21 rfl rfl rfl (by omega)) ?_
        rintro _ _ ⟨rfl, rfl⟩
        refine gi_nil ?_
        refine gq_nq ?_
        refine gq_block_end ?_
        refine gq_next ?_
        refine gc_region ?_
        refine ne (eo_add rfl rfl rfl (by omega) (by omega)) rfl ?_
        refine ne (eo_mv rfl rfl) rfl ?_
        refine go_nil ?_
        exact round3 (x + 1) row (upd s1 (((((((y : Int) + 1) * (W + 1)) + (x : Int)) + 1)).toNat) ((s1 ((((((y : Int) * (W + 1)) + (x : Int)) + 1)).toNat)) + row)) ⟨by omega, hrw, fill_to (fill_up hI (by omega) (sum_at hq (by omega) (by omega) hrw)) (by push_cast; omega)⟩ (by omega) ⟨rfl, rfl, rfl, rfl, rfl, rfl, rfl, rfl, rfl, trivial⟩ (List.Sublist.refl _)
    ·
      replace hc1 := of_decide_eq_false hc1
      refine gc_exit ?_
      refine gq_then_exit ?_
      refine gq_then_exit ?_
      refine gq_block_hit ?_
      refine gq_block_end ?_
      refine gq_next ?_
      refine gc_region ?_
      refine ne (eo_add rfl rfl rfl (by omega) (by omega)) rfl ?_
      refine ne (eo_mv rfl rfl) rfl ?_
      refine go_nil ?_
      exact round2 (y + 1) s1 ⟨by omega, fill_to hI (by push_cast; rw [add1_mul (a := (y : Int) + 1)]; omega)⟩ (by omega) ⟨rfl, rfl, rfl, rfl, rfl, trivial⟩ (List.Sublist.refl _)
  ·
    replace hc0 := of_decide_eq_false hc0
    refine gc_exit ?_
    refine gq_then_exit ?_
    refine gq_then_exit ?_
    refine gq_block_hit ?_
    refine gq_next ?_
    refine gc_seq ?_
    refine gc_region ?_
    refine ne (eo_loadA 0 rfl a61 rfl rfl rfl rfl) rfl ?_
    refine nu (xo_storeA 2 rfl a61 rfl rfl (ones_cons (by first | rfl | exact AS.one) (ones_cons (by first | rfl | exact AS.one) ones_nil)) rfl rfl rfl rfl) ?_
    rintro _ _ ⟨rfl, rfl⟩
    refine go_nil ?_
    refine gq_next ?_
    refine gc_ret ?_
    refine gq_results (resC 2 rfl a61 rfl rfl rfl rfl) ?_
    exact fun W1 hO => rc_own 1 hO rfl rfl (fill_end hI (by rw [show (y : Int) = H by omega, Int.mul_comm (H + 1)]; omega)) (by omega)

/-- (barscan/regions.counts).dark -/
theorem dkb_c (W H : Int) (A : Option Addr) (c : Nat) (f : Nat → Bool) (X Y BW BH : Int) (w : World) (hr : Rd w A (tab ((W + 1) * (H + 1)).toNat (iv .i32 (sumG (bw f) W)))) (w1 : 1 ≤ W) (w2 : W ≤ 4096) (h1 : 1 ≤ H) (h2 : H ≤ 4096) (hb : BIn W H ⟨X, Y, BW, BH⟩) :
    Calls Try.prog 44 #[.agg #[.int .i64 (W + 1), .slice A (((W + 1) * (H + 1)).toNat) c], .agg #[.int .i64 X, .int .i64 Y, .int .i64 BW, .int .i64 BH]] w (fun e w' => e = .returned (.int .i64 (bxS f W ⟨X, Y, BW, BH⟩)) ∧ Ext w w') := by
  obtain ⟨b1, b2, b3, b4, b5, b6⟩ := bin_nums hb
  have cq1 : sumG (bw f) W ((Y + BH) * (W + 1) + X + BW).toNat = sumS (bw f) W ((Y + BH)).toNat (X + BW).toNat := by first | exact sumG_z (by omega) (by omega) (by omega) (by omega) | (rw [Int.add_assoc]; exact sumG_z (by omega) (by omega) (by omega) (by omega))
  have cb1 := sumS_z (g := bw f) (W := W) (hi := 1) (y := (Y + BH)) (x := X + BW) (by omega) (fun _ => bw_bd) (by omega) (by omega) (by omega) (by omega)
  have ci1 := idx_bd (W := W + 1) (H := H + 1) (x := X + BW) (y := (Y + BH)) (by omega) (by omega) (by omega) (by omega)
  have cq2 : sumG (bw f) W (Y * (W + 1) + X + BW).toNat = sumS (bw f) W (Y).toNat (X + BW).toNat := by first | exact sumG_z (by omega) (by omega) (by omega) (by omega) | (rw [Int.add_assoc]; exact sumG_z (by omega) (by omega) (by omega) (by omega))
  have cb2 := sumS_z (g := bw f) (W := W) (hi := 1) (y := Y) (x := X + BW) (by omega) (fun _ => bw_bd) (by omega) (by omega) (by omega) (by omega)
  have ci2 := idx_bd (W := W + 1) (H := H + 1) (x := X + BW) (y := Y) (by omega) (by omega) (by omega) (by omega)
  have cq3 : sumG (bw f) W ((Y + BH) * (W + 1) + X).toNat = sumS (bw f) W ((Y + BH)).toNat (X).toNat := by first | exact sumG_z (by omega) (by omega) (by omega) (by omega) | (rw [Int.add_assoc]; exact sumG_z (by omega) (by omega) (by omega) (by omega))
  have cb3 := sumS_z (g := bw f) (W := W) (hi := 1) (y := (Y + BH)) (x := X) (by omega) (fun _ => bw_bd) (by omega) (by omega) (by omega) (by omega)
  have ci3 := idx_bd (W := W + 1) (H := H + 1) (x := X) (y := (Y + BH)) (by omega) (by omega) (by omega) (by omega)
  have cq4 : sumG (bw f) W (Y * (W + 1) + X).toNat = sumS (bw f) W (Y).toNat (X).toNat := by first | exact sumG_z (by omega) (by omega) (by omega) (by omega) | (rw [Int.add_assoc]; exact sumG_z (by omega) (by omega) (by omega) (by omega))
  have cb4 := sumS_z (g := bw f) (W := W) (hi := 1) (y := Y) (x := X) (by omega) (fun _ => bw_bd) (by omega) (by omega) (by omega) (by omega)
  have ci4 := idx_bd (W := W + 1) (H := H + 1) (x := X) (y := Y) (by omega) (by omega) (by omega) (by omega)
  have v8 := mul_up1 w1 w2 h1 h2
  refine calls_enter (N := ⟨62, []⟩) [] ([]) Try.func44 rfl rfl rfl (Ow.start _) ?_
  refine gc_seq ?_
  refine gc_region ?_
  refine nx (xo_boxA rfl rfl) rfl ?_
  rintro _ _ ⟨g2, rfl, rfl⟩
  refine nx (xo_boxA rfl rfl) rfl ?_
  rintro _ _ ⟨g3, rfl, rfl⟩
  refine ne (eo_as rfl rfl) rfl ?_
  refine go_nil ?_
  refine gq_next ?_
  refine gc_seq ?_
  refine gc_draw [] [0, 1, 2, 3, 4, 5, 6, 7, 8, 9, 10, 11, 12, 13, 14] [] [] (by kernel_rfl) (by kernel_rfl) ?_
  refine gp_nil ?_
  refine de rfl (eo_field rfl f32_1 rfl) rfl ?_
  refine de rfl (eo_load 0 rfl s3 rfl rfl rfl rfl) rfl ?_
  refine de rfl (eo_field rfl f61_0 rfl) rfl ?_
  refine de rfl (eo_load 1 rfl s3 rfl rfl rfl rfl) rfl ?_
  refine de rfl (eo_mul rfl rfl rfl (by omega) (by omega)) rfl ?_
  refine de rfl (eo_field rfl f32_1 rfl) rfl ?_
  refine de rfl (eo_load 0 rfl s3 rfl rfl rfl rfl) rfl ?_
  refine de rfl (eo_field rfl f32_3 rfl) rfl ?_
  refine de rfl (eo_load 0 rfl s3 rfl rfl rfl rfl) rfl ?_
  refine de rfl (eo_add rfl rfl rfl (by omega) (by omega)) rfl ?_
  refine de rfl (eo_field rfl f61_0 rfl) rfl ?_
  refine de rfl (eo_load 1 rfl s3 rfl rfl rfl rfl) rfl ?_
  refine de rfl (eo_mul rfl rfl rfl (by omega) (by omega)) rfl ?_
  refine de rfl (eo_as rfl rfl) rfl ?_
  refine de rfl (eo_as rfl rfl) rfl ?_
  refine ge_nil ?_
  refine ga_nil ?_
  refine gi_nil ?_
  refine gq_nq ?_
  refine gq_next ?_
  refine gc_seq ?_
  refine gc_draw [] [0, 1, 2, 3, 4, 5, 6, 7, 8, 9, 10, 11, 12, 13, 14, 15, 16, 17, 18, 19, 20, 21, 22, 23, 24, 25, 26, 27, 28, 29, 30, 31, 32, 33, 34, 35, 36, 37, 38, 39, 40, 41, 42] [] [] (by kernel_rfl) (by kernel_rfl) ?_
  refine gp_nil ?_
  refine de rfl (eo_field rfl f61_1 rfl) rfl ?_
  refine de rfl (eo_load 1 rfl s59 rfl rfl rfl rfl) rfl ?_
  refine de rfl (eo_mv rfl rfl) rfl ?_
  refine de rfl (eo_field rfl f32_0 rfl) rfl ?_
  refine de rfl (eo_load 0 rfl s3 rfl rfl rfl rfl) rfl ?_
  refine de rfl (eo_add rfl rfl rfl (by omega) (by omega)) rfl ?_
  refine de rfl (eo_field rfl f32_2 rfl) rfl ?_
  refine de rfl (eo_load 0 rfl s3 rfl rfl rfl rfl) rfl ?_
  refine de rfl (eo_add rfl rfl rfl (by omega) (by omega)) rfl ?_
  refine de rfl (eo_indexR rfl sl59 rfl rfl hr (by simp) (by omega) (by omega)) rfl ?_
  refine de rfl (eo_load_old rfl s21 rfl (Rd.tabi hr (by omega)) (by simp)) rfl ?_
  refine de rfl (eo_field rfl f61_1 rfl) rfl ?_
  refine de rfl (eo_load 1 rfl s59 rfl rfl rfl rfl) rfl ?_
  refine de rfl (eo_mv rfl rfl) rfl ?_
  refine de rfl (eo_field rfl f32_0 rfl) rfl ?_
  refine de rfl (eo_load 0 rfl s3 rfl rfl rfl rfl) rfl ?_
  refine de rfl (eo_add rfl rfl rfl (by omega) (by omega)) rfl ?_
  refine de rfl (eo_field rfl f32_2 rfl) rfl ?_
  refine de rfl (eo_load 0 rfl s3 rfl rfl rfl rfl) rfl ?_
  refine de rfl (eo_add rfl rfl rfl (by omega) (by omega)) rfl ?_
  refine de rfl (eo_indexR rfl sl59 rfl rfl hr (by simp) (by omega) (by omega)) rfl ?_
  refine de rfl (eo_load_old rfl s21 rfl (Rd.tabi hr (by omega)) (by simp)) rfl ?_
  refine de rfl (eo_subk rfl rfl rfl (i32_in (by omega) (by omega))) rfl ?_
  refine de rfl (eo_field rfl f61_1 rfl) rfl ?_
  refine de rfl (eo_load 1 rfl s59 rfl rfl rfl rfl) rfl ?_
  refine de rfl (eo_mv rfl rfl) rfl ?_
  refine de rfl (eo_field rfl f32_0 rfl) rfl ?_
  refine de rfl (eo_load 0 rfl s3 rfl rfl rfl rfl) rfl ?_
  refine de rfl (eo_add rfl rfl rfl (by omega) (by omega)) rfl ?_
  refine de rfl (eo_indexR rfl sl59 rfl rfl hr (by simp) (by omega) (by omega)) rfl ?_
  refine de rfl (eo_load_old rfl s21 rfl (Rd.tabi hr (by omega)) (by simp)) rfl ?_
  refine de rfl (eo_subk rfl rfl rfl (i32_in (by omega) (by omega))) rfl ?_
  refine de rfl (eo_field rfl f61_1 rfl) rfl ?_
  refine de rfl (eo_load 1 rfl s59 rfl rfl rfl rfl) rfl ?_
  refine de rfl (eo_mv rfl rfl) rfl ?_
  refine de rfl (eo_field rfl f32_0 rfl) rfl ?_
  refine de rfl (eo_load 0 rfl s3 rfl rfl rfl rfl) rfl ?_
  refine de rfl (eo_add rfl rfl rfl (by omega) (by omega)) rfl ?_
  refine de rfl (eo_indexR rfl sl59 rfl rfl hr (by simp) (by omega) (by omega)) rfl ?_
  refine de rfl (eo_load_old rfl s21 rfl (Rd.tabi hr (by omega)) (by simp)) rfl ?_
  refine de rfl (eo_addk rfl rfl rfl (i32_in (by omega) (by omega))) rfl ?_
  refine de rfl (eo_convi rfl rfl ⟨_, Try.underlying21⟩ Try.underlying3 (by omega) (by omega)) rfl ?_
  refine de rfl (eo_as rfl rfl) rfl ?_
  refine ge_nil ?_
  refine ga_nil ?_
  refine gi_nil ?_
  refine gq_nq ?_
  refine gq_next ?_
  refine gc_ret ?_
  refine gq_results (res1 rfl rfl) ?_
  exact fun W1 hO => ⟨ret_int (by rw [cq1, cq2, cq3, cq4]; unfold bxS boxS; simp only; omega), hO.toExt⟩

/-- (barscan/regions.counts).empty -/
theorem empty_c (W H : Int) (A : Option Addr) (c : Nat) (f : Nat → Bool) (X Y BW BH : Int) (k : Int) (v : Bool) (w : World) (hr : Rd w A (tab ((W + 1) * (H + 1)).toNat (iv .i32 (sumG (bw f) W)))) (w1 : 1 ≤ W) (w2 : W ≤ 4096) (h1 : 1 ≤ H) (h2 : H ≤ 4096) (hb : BIn W H ⟨X, Y, BW, BH⟩) (hk : (if v = true then X else Y) ≤ k ∧ k < (if v = true then X + BW else Y + BH)) :
    Calls Try.prog 42 #[.agg #[.int .i64 (W + 1), .slice A (((W + 1) * (H + 1)).toNat) c], .agg #[.int .i64 X, .int .i64 Y, .int .i64 BW, .int .i64 BH], .int .i64 k, .bool v] w (fun e w' => e = .returned (.bool (emL f W ⟨X, Y, BW, BH⟩ v k)) ∧ Ext w w') := by
  obtain ⟨b1, b2, b3, b4, b5, b6⟩ := bin_nums hb
  refine calls_enter (N := ⟨28, []⟩) [] ([]) Try.func42 rfl rfl rfl (Ow.start _) ?_
  refine gc_seq ?_
  refine gc_region ?_
  refine nx (xo_boxA rfl rfl) rfl ?_
  rintro _ _ ⟨g4, rfl, rfl⟩
  refine nx (xo_boxA rfl rfl) rfl ?_
  rintro _ _ ⟨g5, rfl, rfl⟩
  refine ne (eo_as rfl rfl) rfl ?_
  refine go_nil ?_
  refine gq_next ?_
  refine gc_seq ?_
  refine gc_seq ?_
  refine gc_region ?_
  refine ne (eo_mv rfl rfl) rfl ?_
  refine go_nil ?_
  refine gq_next ?_
  refine gc_cond rfl (fun hc0 => ?_) (fun hc0 => ?_)
  ·
    subst hc0
    simp only [if_true] at hk
    refine gc_seq ?_
    refine gc_region ?_
    refine ne (eo_loadA 1 rfl a61 rfl rfl rfl rfl) rfl ?_
    refine ne (eo_mv rfl rfl) rfl ?_
    refine ne (eo_field rfl f32_1 rfl) rfl ?_
    refine ne (eo_load 0 rfl s3 rfl rfl rfl rfl) rfl ?_
    refine ne (eo_field rfl f32_3 rfl) rfl ?_
    refine ne (eo_load 0 rfl s3 rfl rfl rfl rfl) rfl ?_
    refine ne (eo_build rfl rfl (b32_0123 _ _ _ _)) rfl ?_
    refine ne (eo_call rfl en44 rfl (fun W1 hO => dkb_c _ _ _ _ _ _ _ _ _ W1 (hr.old0 hO) (by omega) (by omega) (by omega) (by omega) (bin_mk (by omega) (by omega) (by omega) (by omega) (by omega) (by omega)))) rfl ?_
    refine ne (eo_eql rfl rfl rfl) rfl ?_
    refine ne (eo_as rfl rfl) rfl ?_
    refine go_nil ?_
    refine gq_next ?_
    refine gc_ret ?_
    refine gq_then_ret ?_
    refine gq_results (res1 rfl rfl) ?_
    exact fun W1 hO => ⟨rfl, hO.toExt⟩
  ·
    subst hc0
    simp only [Bool.false_eq_true, if_false] at hk
    refine gc_skip ?_
    refine gq_next ?_
    refine gc_seq ?_
    refine gc_region ?_
    refine ne (eo_loadA 1 rfl a61 rfl rfl rfl rfl) rfl ?_
    refine ne (eo_field rfl f32_0 rfl) rfl ?_
    refine ne (eo_load 0 rfl s3 rfl rfl rfl rfl) rfl ?_
    refine ne (eo_mv rfl rfl) rfl ?_
    refine ne (eo_field rfl f32_2 rfl) rfl ?_
    refine ne (eo_load 0 rfl s3 rfl rfl rfl rfl) rfl ?_
    refine ne (eo_build rfl rfl (b32_0123 _ _ _ _)) rfl ?_
    refine ne (eo_call rfl en44 rfl (fun W1 hO => dkb_c _ _ _ _ _ _ _ _ _ W1 (hr.old0 hO) (by omega) (by omega) (by omega) (by omega) (bin_mk (by omega) (by omega) (by omega) (by omega) (by omega) (by omega)))) rfl ?_
    refine ne (eo_eql rfl rfl rfl) rfl ?_
    refine ne (eo_as rfl rfl) rfl ?_
    refine go_nil ?_
    refine gq_next ?_
    refine gc_ret ?_
    refine gq_results (res1 rfl rfl) ?_
    exact fun W1 hO => ⟨rfl, hO.toExt⟩

end Go.Proofs.Ytnmiljloifbjeaa
