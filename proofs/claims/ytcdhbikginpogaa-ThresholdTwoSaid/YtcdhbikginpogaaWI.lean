/-
  The walks of the functions of packages bigint and threshold and of the document's answers (part I): what each call returns, at every argument.
-/
import Derived.Test.YtcdhbikginpogaaWH
namespace Go.Proofs.Ytcdhbikginpogaa
open Go.RowKit Go.Eng

open Go.Bs
theorem e3 : TyE Try.prog 3 (.int .i64 0) 8 := ⟨rfl, by kernel_rfl⟩
theorem sl41 : TySl Try.prog 41 3 1 := ⟨Try.underlying41, by kernel_rfl⟩
theorem z35 : TyZ Try.prog 35 [.int .i64 0, .int .i64 0, .slice none 0 0] := .inl (by kernel_rfl)
theorem b35_  (W : World) : (Instr.build 35 #[]).run Try.prog W = .ok (.agg #[.int .i64 0, .int .i64 0, .slice none 0 0]) W := by kernel_rfl
theorem a35 : TyA Try.prog 35 3 := ⟨⟨_, Try.underlying35, rfl⟩, by kernel_rfl⟩
theorem e4 : TyE Try.prog 4 (.bool false) 1 := ⟨rfl, by kernel_rfl⟩
theorem b35_012 (x0 : Int) (x1 : Int) (x2A : Option Addr) (x2n x2c : Nat) (W : World) : (Instr.build 35 #[(0, .int .i64 x0), (1, .int .i64 x1), (2, .slice x2A x2n x2c)]).run Try.prog W = .ok (.agg #[.int .i64 x0, .int .i64 x1, .slice x2A x2n x2c]) W := by kernel_rfl
theorem f35_2 : FieldAt Try.prog 35 2 2 := ⟨_, _, 0, Try.underlying35, rfl, by kernel_rfl, rfl⟩
theorem s33 : TyS Try.prog 33 := ⟨⟨_, Try.underlying33, rfl⟩, by kernel_rfl⟩
theorem sl33 : TySl Try.prog 33 4 1 := ⟨Try.underlying33, by kernel_rfl⟩
theorem b35_01 (x0 : Int) (x1 : Int) (W : World) : (Instr.build 35 #[(0, .int .i64 x0), (1, .int .i64 x1)]).run Try.prog W = .ok (.agg #[.int .i64 x0, .int .i64 x1, .slice none 0 0]) W := by kernel_rfl
theorem en13 : Ent Try.prog 13 := ent_of Try.func13 (by kernel_rfl) rfl
theorem en15 : Ent Try.prog 15 := ent_of Try.func15 (by kernel_rfl) rfl
theorem en14 : Ent Try.prog 14 := ent_of Try.func14 (by kernel_rfl) rfl
theorem en16 : Ent Try.prog 16 := ent_of Try.func16 (by kernel_rfl) rfl

/-- barscan/threshold.Integral -/
theorem int_x (W H : Int) (A : Option Addr) (n c : Nat) (f : Nat → Int) (w : World) (hr : Rd w A (tab n (iv .u8 f))) (hp : PixOk n f) :
    Calls Try.prog 20 #[.agg #[.int .i64 W, .int .i64 H, .slice A n c]] w (fun e w' => ∃ v Hn, e = .returned v ∧ RXs (intR ⟨W, H, n, f⟩) v Hn ∧ Ow [] w w' Hn) := by
  refine calls_enter (N := ⟨70, []⟩) [] ([]) Try.func20 rfl rfl rfl (Ow.start _) ?_
  refine gc_seq ?_
  refine gc_region ?_
  refine nx (xo_boxA rfl rfl) rfl ?_
  rintro _ _ ⟨g1, rfl, rfl⟩
  refine ne (eo_as rfl rfl) rfl ?_
  refine ne (eo_as rfl rfl) rfl ?_
  refine go_nil ?_
  refine gq_next ?_
  refine gc_seq ?_
  refine gc_seq ?_
  refine gc_region ?_
  refine ne (eo_loadA 0 rfl a24 rfl rfl rfl rfl) rfl ?_
  refine ne (eo_call rfl en28 rfl (fun W1 hO => checkim_c _ _ _ _ _ W1  )) rfl ?_
  refine ne (eo_as rfl rfl) rfl ?_
  refine go_nil ?_
  refine gq_next ?_
  refine gc_seq ?_
  refine gc_region ?_
  refine ne (eo_mv rfl rfl) rfl ?_
  refine ne (eo_neq rfl rfl rfl) rfl ?_
  refine go_nil ?_
  refine gq_next ?_
  refine gc_cond rfl (fun hc0 => ?_) (fun hc0 => ?_)
  ·
    replace hc0 := of_decide_eq_true hc0
    have hv := chk_f hc0
    refine gc_seq ?_
    refine gc_region ?_
    refine ne (eo_mv rfl rfl) rfl ?_
    refine ne (eo_as rfl rfl) rfl ?_
    refine ne (eo_as rfl rfl) rfl ?_
    refine go_nil ?_
    refine gq_next ?_
    refine gc_ret ?_
    refine gq_then_ret ?_
    refine gq_results (res2 rfl rfl rfl) ?_
    exact fun W1 hO => rxs_nil hO (by rw [intR_no hv, chk_no hv])
  ·
    replace hc0 := of_decide_eq_false hc0
    have hv := chk_t hc0
    obtain ⟨v1, v2, v3, v4, v5, v6⟩ := vldB_iff.1 hv
    have v7 := vld_pos hv
    have v8 := mul_up1 v1 v2 v3 v4
    have hg := fx_bd hp
    refine gc_skip ?_
    refine gq_next ?_
    refine gc_seq ?_
    refine gc_region ?_
    refine ne (eo_field rfl f24_0 rfl) rfl ?_
    refine ne (eo_load 0 rfl s3 rfl rfl rfl rfl) rfl ?_
    refine ne (eo_add rfl rfl rfl (by omega) (by omega)) rfl ?_
    refine ne (eo_as rfl rfl) rfl ?_
    refine go_nil ?_
    refine gq_next ?_
    refine gc_seq ?_
    refine gc_region ?_
    refine ne (eo_mv rfl rfl) rfl ?_
    refine ne (eo_field rfl f24_1 rfl) rfl ?_
    refine ne (eo_load 0 rfl s3 rfl rfl rfl rfl) rfl ?_
    refine ne (eo_add rfl rfl rfl (by omega) (by omega)) rfl ?_
    refine ne (eo_mul rfl rfl rfl (by omega) (by omega)) rfl ?_
    refine nx (xo_makei rfl Try.underlying41 e3 rfl rfl (by omega) (by omega) (by omega)) rfl ?_
    rintro _ _ ⟨g23, rfl, rfl⟩
    refine ne (eo_as rfl rfl) rfl ?_
    refine go_nil ?_
    refine gq_next ?_
    refine gc_seq ?_
    refine gc_seq ?_
    refine gc_region ?_
    refine ne (eo_field rfl f24_1 rfl) rfl ?_
    refine ne (eo_load 1 rfl s3 rfl rfl rfl rfl) rfl ?_
    refine ne (eo_mv rfl rfl) rfl ?_
    refine go_nil ?_
    refine gq_next ?_
    refine gc_block ?_
    refine loop2 (fun (y : Nat) (s1 : Nat → Int) => (y : Int) ≤ H ∧ ∀ q, q < ((W + 1) * (H + 1)).toNat → s1 q = if (q : Int) < ((y : Int) + 1) * (W + 1) then sumG (fx n f) W q else 0) (fun (y : Nat) (s1 : Nat → Int) => (H - y).toNat) (fun (y : Nat) (s1 : Nat → Int) => [(1, .pointer (some ⟨g1, 0, none⟩)), (5, .int .i64 (W + 1)), (6, .slice (some ⟨g23, 0, none⟩) ((((W + 1) * (H + 1))).toNat) ((((W + 1) * (H + 1))).toNat)), (25, .int .i64 H), (26, .int .i64 (y : Int))]) (fun (y : Nat) (s1 : Nat → Int) => [⟨g23, 3, tab ((((W + 1) * (H + 1))).toNat) (iv .i64 s1) ++ []⟩, ⟨g1, 24, [.int .i64 W, .int .i64 H, .slice A n c]⟩]) 0 (fun _ => 0) ⟨by omega, sumG_new (by omega) (by simp)⟩ ⟨rfl, rfl, rfl, rfl, rfl, trivial⟩ (List.Sublist.refl _) ?_
    rintro y s1 ⟨hy, hI⟩
    refine gc_seq ?_
    refine gc_region ?_
    refine ne (eo_lss rfl rfl rfl) rfl ?_
    refine go_nil ?_
    refine gq_next ?_
    refine gc_seq ?_
    refine gc_cond rfl (fun hc1 => ?_) (fun hc1 => ?_)
    ·
      replace hc1 := of_decide_eq_true hc1
      have hb := idx_bd (W := W + 1) (H := H + 1) (x := 0) (y := (y : Int) + 1) (by omega) (by omega) (by omega) (by omega)
      have hb0 := idx_bd (W := W) (H := H) (x := 0) (y := (y : Int)) (by omega) (by omega) (by omega) (by omega)
      have ha : ((y : Int) + 1) * (W + 1) = y * (W + 1) + (W + 1) := add1_mul
      have hb1 : 0 ≤ (y : Int) * (W + 1) := Int.mul_nonneg (by omega) (by omega)
      refine gc_skip ?_
      refine gq_next ?_
      refine gc_seq ?_
      refine gc_block ?_
      refine gc_seq ?_
      refine gc_region ?_
      refine ne (eo_mv rfl rfl) rfl ?_
      refine ne (eo_as rfl rfl) rfl ?_
      refine go_nil ?_
      refine gq_next ?_
      refine gc_seq ?_
      refine gc_region ?_
      refine ne (eo_as rfl rfl) rfl ?_
      refine go_nil ?_
      refine gq_next ?_
      refine gc_seq ?_
      refine gc_region ?_
      refine ne (eo_field rfl f24_0 rfl) rfl ?_
      refine ne (eo_load 1 rfl s3 rfl rfl rfl rfl) rfl ?_
      refine ne (eo_mv rfl rfl) rfl ?_
      refine go_nil ?_
      refine gq_next ?_
      refine gc_block ?_
      refine loop3 (fun (x : Nat) (row : Int) (s1 : Nat → Int) => (x : Int) ≤ W ∧ row = rowS (fx n f) W y x ∧ ∀ q, q < ((W + 1) * (H + 1)).toNat → s1 q = if (q : Int) < ((y : Int) + 1) * (W + 1) + 1 + x then sumG (fx n f) W q else 0) (fun (x : Nat) (row : Int) (s1 : Nat → Int) => (W - x).toNat) (fun (x : Nat) (row : Int) (s1 : Nat → Int) => [(1, .pointer (some ⟨g1, 0, none⟩)), (5, .int .i64 (W + 1)), (6, .slice (some ⟨g23, 0, none⟩) ((((W + 1) * (H + 1))).toNat) ((((W + 1) * (H + 1))).toNat)), (7, .int .i64 (y : Int)), (8, .int .i64 row), (25, .int .i64 H), (26, .int .i64 (y : Int)), (30, .int .i64 W), (31, .int .i64 (x : Int))]) (fun (x : Nat) (row : Int) (s1 : Nat → Int) => [⟨g23, 3, tab ((((W + 1) * (H + 1))).toNat) (iv .i64 s1) ++ []⟩, ⟨g1, 24, [.int .i64 W, .int .i64 H, .slice A n c]⟩]) 0 0 s1 ⟨by omega, rfl, fill_to (sumG_row (by omega) rfl hI) (by simp)⟩ ⟨rfl, rfl, rfl, rfl, rfl, rfl, rfl, rfl, rfl, trivial⟩ (List.Sublist.refl _) ?_
      rintro x row s1 ⟨hx, hrow, hI⟩
      have hrb := row255 (W := W) (y := y) (x := x) hg (by omega)
      refine gc_seq ?_
      refine gc_region ?_
      refine ne (eo_lss rfl rfl rfl) rfl ?_
      refine go_nil ?_
      refine gq_next ?_
      refine gc_seq ?_
      refine gc_cond rfl (fun hc2 => ?_) (fun hc2 => ?_)
      ·
        replace hc2 := of_decide_eq_true hc2
        have hi := idx_bd (W := W) (H := H) (x := (x : Int)) (y := (y : Int)) (by omega) (by omega) (by omega) (by omega)
        have hpx := hp ((y : Int) * W + (x : Int)).toNat (by omega)
        have hq : s1 ((y : Int) * (W + 1) + (x : Int) + 1).toNat = sumS (fx n f) W (y : Int).toNat ((x : Int) + 1).toNat := by
          rw [hI _ (by omega), if_pos (by omega), Int.add_assoc]
          exact sumG_z (by omega) (by omega) (by omega) (by omega)
        have hqb := sumS_z (g := (fx n f)) (W := W) (hi := 255) (y := (y : Int)) (x := (x : Int) + 1) (by omega) hg (by omega) (by omega) (by omega) (by omega)
        have hsh := fx_in (f := f) (n := n) (i := ((y : Int) * W + (x : Int)).toNat) (by omega)
        refine gc_skip ?_
        refine gq_next ?_
        refine gc_seq ?_
        refine gc_block ?_
        refine gc_seq ?_
        refine gc_region ?_
        refine ne (eo_mv rfl rfl) rfl ?_
        refine ne (eo_as rfl rfl) rfl ?_
        refine go_nil ?_
        refine gq_next ?_
        refine gc_seq ?_
        refine gc_region ?_
        refine ne (eo_mv rfl rfl) rfl ?_
        refine ne (eo_field rfl f24_2 rfl) rfl ?_
        refine ne (eo_load 1 rfl s22 rfl rfl rfl rfl) rfl ?_
        refine ne (eo_mv rfl rfl) rfl ?_
        refine ne (eo_field rfl f24_0 rfl) rfl ?_
        refine ne (eo_load 1 rfl s3 rfl rfl rfl rfl) rfl ?_
        refine ne (eo_mul rfl rfl rfl (by omega) (by omega)) rfl ?_
        refine ne (eo_mv rfl rfl) rfl ?_
        refine ne (eo_add rfl rfl rfl (by omega) (by omega)) rfl ?_
        refine ne (eo_indexR rfl sl22 rfl rfl hr (by simp) (by omega) (by omega)) rfl ?_
        refine ne (eo_load_old rfl s5 rfl (Rd.tabi hr (by omega)) (by simp)) rfl ?_
        refine ne (eo_convi rfl rfl ⟨_, Try.underlying5⟩ Try.underlying3 (by omega) (by omega)) rfl ?_
        refine ne (eo_add rfl rfl rfl (by omega) (by omega)) rfl ?_
        refine ne (eo_as rfl rfl) rfl ?_
        refine go_nil ?_
        refine gq_next ?_
        refine gc_region ?_
        refine ne (eo_mv rfl rfl) rfl ?_
        refine ne (eo_mv rfl rfl) rfl ?_
        refine ne (eo_add rfl rfl rfl (by omega) (by omega)) rfl ?_
        refine ne (eo_mv rfl rfl) rfl ?_
        refine ne (eo_mul rfl rfl rfl (by omega) (by omega)) rfl ?_
        refine ne (eo_mv rfl rfl) rfl ?_
        refine ne (eo_add rfl rfl rfl (by omega) (by omega)) rfl ?_
        refine ne (eo_add rfl rfl rfl (by omega) (by omega)) rfl ?_
        refine ne (eo_mv rfl rfl) rfl ?_
        refine ne (eo_mv rfl rfl) rfl ?_
        refine ne (eo_mv rfl rfl) rfl ?_
        refine ne (eo_mul rfl rfl rfl (by omega) (by omega)) rfl ?_
        refine ne (eo_mv rfl rfl) rfl ?_
        refine ne (eo_add rfl rfl rfl (by omega) (by omega)) rfl ?_
        refine ne (eo_add rfl rfl rfl (by omega) (by omega)) rfl ?_
        refine ne (eo_index0 rfl sl41 rfl rfl (by omega) (by omega)) rfl ?_
        refine ne (eo_geti 0 rfl s3 rfl rfl (by omega)) rfl ?_
        refine ne (eo_mv rfl rfl) rfl ?_
        refine ne (eo_add rfl rfl rfl (by omega) (by omega)) rfl ?_
        refine ne (eo_index0 rfl sl41 rfl rfl (by omega) (by omega)) rfl ?_
        refine nu (xo_seti 0 rfl s3 rfl rfl rfl (by omega)) ?_
        rintro _ _ ⟨rfl, rfl⟩
        refine go_nil ?_
        refine gq_block_end ?_
        refine gq_next ?_
        refine gc_region ?_
        refine ne (eo_add rfl rfl rfl (by omega) (by omega)) rfl ?_
        refine ne (eo_mv rfl rfl) rfl ?_
        refine go_nil ?_
        exact round3 (x + 1) (row + (f (((((y : Int) * W) + (x : Int))).toNat))) (upd s1 (((((((y : Int) + 1) * (W + 1)) + (x : Int)) + 1)).toNat) ((s1 ((((((y : Int) * (W + 1)) + (x : Int)) + 1)).toNat)) + (row + (f (((((y : Int) * W) + (x : Int))).toNat))))) ⟨by omega, by rw [rowS_succ, ← hrow, hsh], fill_to (fill_up hI (by omega) (sum_at hq (by omega) (by omega) (by rw [rowS_succ, ← hrow, hsh]))) (by push_cast; omega)⟩ (by omega) ⟨rfl, rfl, rfl, rfl, rfl, rfl, rfl, rfl, rfl, trivial⟩ (List.Sublist.refl _)
      ·
        replace hc2 := of_decide_eq_false hc2
        refine gc_exit ?_
        refine gq_then_exit ?_
        refine gq_then_exit ?_
        refine gq_block_hit ?_
        refine gq_block_end ?_
        refine gq_next ?_
        refine gc_region ?_
        refine ne (eo_add rfl rfl rfl (by omega) (by omega)) rfl ?_
        refine ne (eo_mv rfl rfl) rfl ?_
        refine go_nil ?_
        exact round2 (y + 1) s1 ⟨by omega, fill_to hI (by push_cast; rw [add1_mul (a := (y : Int) + 1)]; omega)⟩ (by omega) ⟨rfl, rfl, rfl, rfl, rfl, trivial⟩ (List.Sublist.refl _)
    ·
      replace hc1 := of_decide_eq_false hc1
      refine gc_exit ?_
      refine gq_then_exit ?_
      refine gq_then_exit ?_
      refine gq_block_hit ?_
      refine gq_next ?_
      refine gc_seq ?_
      refine gc_region ?_
      refine ne (eo_mv rfl rfl) rfl ?_
      refine ne (eo_as rfl rfl) rfl ?_
      refine ne (eo_as rfl rfl) rfl ?_
      refine go_nil ?_
      refine gq_next ?_
      refine gc_ret ?_
      refine gq_results (res2 rfl rfl rfl) ?_
      exact fun W1 hO => rxs_own 0 hO rfl (intR_ok hv) (fill_end hI (by rw [show (y : Int) = H by omega, Int.mul_comm (H + 1)]; omega)) (by omega)

/-- barscan/threshold.Global -/
theorem glob_x (W H : Int) (A : Option Addr) (n c : Nat) (f : Nat → Int) (t : Int) (w : World) (hr : Rd w A (tab n (iv .u8 f))) (hp : PixOk n f) :
    Calls Try.prog 15 #[.agg #[.int .i64 W, .int .i64 H, .slice A n c], .int .i64 t] w (fun e w' => ∃ v Hn, e = .returned v ∧ RX (gloR ⟨W, H, n, f⟩ t) v Hn ∧ Ow [] w w' Hn) := by
  refine calls_enter (N := ⟨50, []⟩) [] ([]) Try.func15 rfl rfl rfl (Ow.start _) ?_
  refine gc_seq ?_
  refine gc_region ?_
  refine nx (xo_boxA rfl rfl) rfl ?_
  rintro _ _ ⟨g2, rfl, rfl⟩
  refine nx (xo_alloc rfl z35) rfl ?_
  rintro _ _ ⟨g4, rfl, rfl⟩
  refine ne (eo_as rfl rfl) rfl ?_
  refine go_nil ?_
  refine gq_next ?_
  refine gc_seq ?_
  refine gc_seq ?_
  refine gc_region ?_
  refine ne (eo_loadA 1 rfl a24 rfl rfl rfl rfl) rfl ?_
  refine ne (eo_call rfl en28 rfl (fun W1 hO => checkim_c _ _ _ _ _ W1  )) rfl ?_
  refine ne (eo_as rfl rfl) rfl ?_
  refine go_nil ?_
  refine gq_next ?_
  refine gc_seq ?_
  refine gc_region ?_
  refine ne (eo_mv rfl rfl) rfl ?_
  refine ne (eo_neq rfl rfl rfl) rfl ?_
  refine go_nil ?_
  refine gq_next ?_
  refine gc_cond rfl (fun hc0 => ?_) (fun hc0 => ?_)
  ·
    replace hc0 := of_decide_eq_true hc0
    have hv := chk_f hc0
    refine gc_seq ?_
    refine gc_region ?_
    refine ne (eo_build rfl rfl (b35_)) rfl ?_
    refine ne (eo_mv rfl rfl) rfl ?_
    refine nu (xo_storeA 0 rfl a35 rfl rfl (ones_cons (by first | rfl | exact AS.one) (ones_cons (by first | rfl | exact AS.one) (ones_cons (by first | rfl | exact AS.one) ones_nil))) rfl rfl rfl rfl) ?_
    rintro _ _ ⟨rfl, rfl⟩
    refine ne (eo_as rfl rfl) rfl ?_
    refine go_nil ?_
    refine gq_next ?_
    refine gc_ret ?_
    refine gq_then_ret ?_
    refine gq_results (resCT 0 rfl a35 rfl rfl rfl rfl rfl) ?_
    exact fun W1 hO => rx_nil hO (by rw [chk_no hv]; exact gloR_no hv)
  ·
    replace hc0 := of_decide_eq_false hc0
    have hv := chk_t hc0
    obtain ⟨v1, v2, v3, v4, v5, v6⟩ := vldB_iff.1 hv
    have v7 := vld_pos hv
    refine gc_skip ?_
    refine gq_next ?_
    refine gc_seq ?_
    refine gc_seq ?_
    refine gc_region ?_
    refine ne (eo_mv rfl rfl) rfl ?_
    refine ne (eo_lss rfl rfl rfl) rfl ?_
    refine ne (eo_mv rfl rfl) rfl ?_
    refine ng rfl rfl (fun h => eo_mv rfl rfl) rfl ?_
    refine ng rfl rfl (fun h => eo_gtr rfl (ev_if h rfl) rfl) rfl ?_
    refine ne (eo_or rfl rfl (fun hb => ev_if hb rfl)) rfl ?_
    refine go_nil ?_
    refine gq_next ?_
    refine gc_cond rfl (fun hc1 => ?_) (fun hc1 => ?_)
    ·
      have hd1 := (or_t hc1).imp (fun h => of_decide_eq_true h) (fun h => of_decide_eq_true h)
      refine gc_seq ?_
      refine gc_region ?_
      refine ne (eo_build rfl rfl (b35_)) rfl ?_
      refine nu (xo_storeA 0 rfl a35 rfl rfl (ones_cons (by first | rfl | exact AS.one) (ones_cons (by first | rfl | exact AS.one) (ones_cons (by first | rfl | exact AS.one) ones_nil))) rfl rfl rfl rfl) ?_
      rintro _ _ ⟨rfl, rfl⟩
      refine ne (eo_as rfl rfl) rfl ?_
      refine go_nil ?_
      refine gq_next ?_
      refine gc_ret ?_
      refine gq_then_ret ?_
      refine gq_results (resCT 0 rfl a35 rfl rfl rfl rfl rfl) ?_
      exact fun W1 hO => rx_nil hO (gloR_range hv (by omega))
    ·
      have hd1 := (or_f hc1).imp (fun h => of_decide_eq_false h) (fun h => of_decide_eq_false h)
      refine gc_skip ?_
      refine gq_next ?_
      refine gc_seq ?_
      refine gc_draw_new (i := 9) (d := 7) [] [0, 1, 2, 3, 4, 5, 6] [7, 8] [10] (by kernel_rfl) (by kernel_rfl) rfl z35 rfl ?_
      refine gp_nil ?_
      refine de rfl (eo_field rfl f24_0 rfl) rfl ?_
      refine de rfl (eo_load 1 rfl s3 rfl rfl rfl rfl) rfl ?_
      refine de rfl (eo_field rfl f24_1 rfl) rfl ?_
      refine de rfl (eo_load 1 rfl s3 rfl rfl rfl rfl) rfl ?_
      refine de rfl (eo_field rfl f24_2 rfl) rfl ?_
      refine de rfl (eo_load 1 rfl s22 rfl rfl rfl rfl) rfl ?_
      refine de rfl (eo_len rfl Try.underlying22 rfl) rfl ?_
      refine ge_nil ?_
      refine ⟨rfl, ?_⟩
      refine da rfl (xo_makeb rfl Try.underlying33 e4 rfl rfl (by omega) (by omega) (by omega)) rfl ?_
      rintro _ _ ⟨g30, rfl, rfl⟩
      refine ⟨by first | exact (List.Sublist.cons _ (List.Sublist.refl _)) | exact (List.sublist_append_left _ _), ?_⟩
      refine da rfl (xo_of_eo (eo_build rfl rfl (b35_012 _ _ _ _ _))) rfl ?_
      rintro _ _ ⟨rfl, rfl⟩
      refine ⟨by first | exact (List.Sublist.cons _ (List.Sublist.refl _)) | exact (List.sublist_append_left _ _), ?_⟩
      refine ga_nil ?_
      intro g7
      refine iu rfl (xo_storeA 0 rfl a35 rfl rfl (ones_cons (by first | rfl | exact AS.one) (ones_cons (by first | rfl | exact AS.one) (ones_cons (by first | rfl | exact AS.one) ones_nil))) rfl rfl rfl rfl) ?_
      rintro _ _ ⟨rfl, rfl⟩
      refine gi_nil ?_
      refine gq_nq ?_
      refine gq_next ?_
      refine gc_seq ?_
      refine gc_seq ?_
      refine gc_region ?_
      refine ne (eo_field rfl f24_2 rfl) rfl ?_
      refine ne (eo_load 3 rfl s22 rfl rfl rfl rfl) rfl ?_
      refine ne (eo_len rfl Try.underlying22 rfl) rfl ?_
      refine ne (eo_mv rfl rfl) rfl ?_
      refine go_nil ?_
      refine gq_next ?_
      refine gc_block ?_
      refine loop2 (fun (i : Nat) (f1 : Nat → Bool) => i ≤ n ∧ ∀ j, j < n → f1 j = if j < i then gloF f t j else false) (fun (i : Nat) (f1 : Nat → Bool) => n - i) (fun (i : Nat) (f1 : Nat → Bool) => [(1, .int .i64 t), (4, .pointer (some ⟨g4, 0, none⟩)), (7, .pointer (some ⟨g7, 0, none⟩)), (33, .slice A n c), (34, .int .i64 ((n : Nat) : Int)), (35, .int .i64 (i : Int))]) (fun (i : Nat) (f1 : Nat → Bool) => [⟨g7, 35, [.int .i64 W, .int .i64 H, .slice (some ⟨g30, 0, none⟩) n n]⟩, ⟨g30, 4, tab n (bv f1) ++ []⟩, ⟨g4, 35, [.int .i64 0, .int .i64 0, .slice none 0 0]⟩, ⟨g2, 24, [.int .i64 W, .int .i64 H, .slice A n c]⟩]) 0 (fun _ => false) ⟨by omega, fun j _ => by simp⟩ ⟨rfl, rfl, rfl, rfl, rfl, rfl, trivial⟩ (List.Sublist.refl _) ?_
      rintro i f1 ⟨hi, hI⟩
      refine gc_seq ?_
      refine gc_region ?_
      refine ne (eo_lss rfl rfl rfl) rfl ?_
      refine go_nil ?_
      refine gq_next ?_
      refine gc_seq ?_
      refine gc_cond rfl (fun hc2 => ?_) (fun hc2 => ?_)
      ·
        replace hc2 := of_decide_eq_true hc2
        have hpx := hp (i : Int).toNat (by omega)
        refine gc_skip ?_
        refine gq_next ?_
        refine gc_seq ?_
        refine gc_block ?_
        refine gc_seq ?_
        refine gc_region ?_
        refine ne (eo_mv rfl rfl) rfl ?_
        refine ne (eo_indexR rfl sl22 rfl rfl hr (by simp) (by omega) (by omega)) rfl ?_
        refine ne (eo_load_old rfl s5 rfl (Rd.tabi hr (by omega)) (by simp)) rfl ?_
        refine ne (eo_as rfl rfl) rfl ?_
        refine ne (eo_as rfl rfl) rfl ?_
        refine go_nil ?_
        refine gq_next ?_
        refine gc_region ?_
        refine ne (eo_field rfl f35_2 rfl) rfl ?_
        refine ne (eo_load 0 rfl s33 rfl rfl rfl rfl) rfl ?_
        refine ne (eo_mv rfl rfl) rfl ?_
        refine ne (eo_mv rfl rfl) rfl ?_
        refine ne (eo_convi rfl rfl ⟨_, Try.underlying5⟩ Try.underlying3 (by omega) (by omega)) rfl ?_
        refine ne (eo_mv rfl rfl) rfl ?_
        refine ne (eo_lss rfl rfl rfl) rfl ?_
        refine ne (eo_index0 rfl sl33 rfl rfl (by omega) (by omega)) rfl ?_
        refine nu (xo_setb 1 rfl s4 rfl rfl rfl (by omega)) ?_
        rintro _ _ ⟨rfl, rfl⟩
        refine go_nil ?_
        refine gq_block_end ?_
        refine gq_next ?_
        refine gc_region ?_
        refine ne (eo_add rfl rfl rfl (by omega) (by omega)) rfl ?_
        refine ne (eo_mv rfl rfl) rfl ?_
        refine go_nil ?_
        exact round2 (i + 1) (upd f1 (i) (decide ((f (i)) < t))) ⟨by omega, fill_step hI rfl⟩ (by omega) ⟨rfl, rfl, rfl, rfl, rfl, rfl, trivial⟩ (List.Sublist.refl _)
      ·
        replace hc2 := of_decide_eq_false hc2
        refine gc_exit ?_
        refine gq_then_exit ?_
        refine gq_then_exit ?_
        refine gq_block_hit ?_
        refine gq_next ?_
        refine gc_seq ?_
        refine gc_region ?_
        refine ne (eo_loadA 0 rfl a35 rfl rfl rfl rfl) rfl ?_
        refine nu (xo_storeA 2 rfl a35 rfl rfl (ones_cons (by first | rfl | exact AS.one) (ones_cons (by first | rfl | exact AS.one) (ones_cons (by first | rfl | exact AS.one) ones_nil))) rfl rfl rfl rfl) ?_
        rintro _ _ ⟨rfl, rfl⟩
        refine ne (eo_as rfl rfl) rfl ?_
        refine go_nil ?_
        refine gq_next ?_
        refine gc_ret ?_
        refine gq_results (resCT 2 rfl a35 rfl rfl rfl rfl rfl) ?_
        exact fun W1 hO => rx_own 1 hO rfl (gloR_ok hv (by omega)) (fun j hj => by rw [hI j hj, if_pos (by omega)]) (by omega)

/-- barscan/barscanref36.Global -/
theorem rglob_x (W H : Int) (A : Option Addr) (n c : Nat) (f : Nat → Int) (t : Int) (w : World) (hr : Rd w A (tab n (iv .u8 f))) (hp : PixOk n f) :
    Calls Try.prog 16 #[.agg #[.int .i64 W, .int .i64 H, .slice A n c], .int .i64 t] w (fun e w' => ∃ v Hn, e = .returned v ∧ RX (gloR ⟨W, H, n, f⟩ t) v Hn ∧ Ow [] w w' Hn) := by
  refine calls_enter (N := ⟨45, []⟩) [] ([]) Try.func16 rfl rfl rfl (Ow.start _) ?_
  refine gc_seq ?_
  refine gc_region ?_
  refine nx (xo_boxA rfl rfl) rfl ?_
  rintro _ _ ⟨g2, rfl, rfl⟩
  refine nx (xo_alloc rfl z35) rfl ?_
  rintro _ _ ⟨g4, rfl, rfl⟩
  refine ne (eo_as rfl rfl) rfl ?_
  refine go_nil ?_
  refine gq_next ?_
  refine gc_seq ?_
  refine gc_seq ?_
  refine gc_region ?_
  refine ne (eo_loadA 1 rfl a24 rfl rfl rfl rfl) rfl ?_
  refine ne (eo_call rfl en25 rfl (fun W1 hO => sound36_c _ _ _ _ _ _ W1 (hr.old0 hO) )) rfl ?_
  refine ne (eo_not rfl rfl) rfl ?_
  refine go_nil ?_
  refine gq_next ?_
  refine gc_cond rfl (fun hc0 => ?_) (fun hc0 => ?_)
  ·
    have hd0 := (not_t hc0)
    have hv := not_t hc0
    have hv := not_t hc0
    refine gc_seq ?_
    refine gc_region ?_
    refine ne (eo_build rfl rfl (b35_)) rfl ?_
    refine nu (xo_storeA 0 rfl a35 rfl rfl (ones_cons (by first | rfl | exact AS.one) (ones_cons (by first | rfl | exact AS.one) (ones_cons (by first | rfl | exact AS.one) ones_nil))) rfl rfl rfl rfl) ?_
    rintro _ _ ⟨rfl, rfl⟩
    refine ne (eo_as rfl rfl) rfl ?_
    refine go_nil ?_
    refine gq_next ?_
    refine gc_ret ?_
    refine gq_then_ret ?_
    refine gq_results (resCT 0 rfl a35 rfl rfl rfl rfl rfl) ?_
    exact fun W1 hO => rx_nil hO (gloR_no hv)
  ·
    have hd0 := (not_f hc0)
    have hv := not_f hc0
    obtain ⟨v1, v2, v3, v4, v5, v6⟩ := vldB_iff.1 hv
    have v7 := vld_pos hv
    have hv := not_f hc0
    have v7 := vld_pos hv
    refine gc_skip ?_
    refine gq_next ?_
    refine gc_seq ?_
    refine gc_seq ?_
    refine gc_region ?_
    refine ne (eo_mv rfl rfl) rfl ?_
    refine ne (eo_lss rfl rfl rfl) rfl ?_
    refine ne (eo_mv rfl rfl) rfl ?_
    refine ng rfl rfl (fun h => eo_mv rfl rfl) rfl ?_
    refine ng rfl rfl (fun h => eo_gtr rfl (ev_if h rfl) rfl) rfl ?_
    refine ne (eo_or rfl rfl (fun hb => ev_if hb rfl)) rfl ?_
    refine go_nil ?_
    refine gq_next ?_
    refine gc_cond rfl (fun hc1 => ?_) (fun hc1 => ?_)
    ·
      have hd1 := (or_t hc1).imp (fun h => of_decide_eq_true h) (fun h => of_decide_eq_true h)
      refine gc_seq ?_
      refine gc_region ?_
      refine ne (eo_build rfl rfl (b35_)) rfl ?_
      refine nu (xo_storeA 0 rfl a35 rfl rfl (ones_cons (by first | rfl | exact AS.one) (ones_cons (by first | rfl | exact AS.one) (ones_cons (by first | rfl | exact AS.one) ones_nil))) rfl rfl rfl rfl) ?_
      rintro _ _ ⟨rfl, rfl⟩
      refine ne (eo_as rfl rfl) rfl ?_
      refine go_nil ?_
      refine gq_next ?_
      refine gc_ret ?_
      refine gq_then_ret ?_
      refine gq_results (resCT 0 rfl a35 rfl rfl rfl rfl rfl) ?_
      exact fun W1 hO => rx_nil hO (gloR_range hv (by omega))
    ·
      have hd1 := (or_f hc1).imp (fun h => of_decide_eq_false h) (fun h => of_decide_eq_false h)
      refine gc_skip ?_
      refine gq_next ?_
      refine gc_seq ?_
      refine gc_region ?_
      refine ne (eo_field rfl f24_0 rfl) rfl ?_
      refine ne (eo_load 1 rfl s3 rfl rfl rfl rfl) rfl ?_
      refine ne (eo_field rfl f24_1 rfl) rfl ?_
      refine ne (eo_load 1 rfl s3 rfl rfl rfl rfl) rfl ?_
      refine ne (eo_build rfl rfl (b35_01 _ _)) rfl ?_
      refine nx (xo_alloc rfl z35) rfl ?_
      rintro _ _ ⟨g6, rfl, rfl⟩
      refine nu (xo_storeA 0 rfl a35 rfl rfl (ones_cons (by first | rfl | exact AS.one) (ones_cons (by first | rfl | exact AS.one) (ones_cons (by first | rfl | exact AS.one) ones_nil))) rfl rfl rfl rfl) ?_
      rintro _ _ ⟨rfl, rfl⟩
      refine go_nil ?_
      refine gq_next ?_
      refine gc_seq ?_
      refine gc_seq ?_
      refine gc_region ?_
      refine ne (eo_as rfl rfl) rfl ?_
      refine go_nil ?_
      refine gq_next ?_
      refine gc_block ?_
      refine loop2 (fun (k : Nat) (s : AS) => k ≤ n ∧ s.Ok 1 k (tab k (bv (gloF f t)))) (fun (k : Nat) (s : AS) => n - k) (fun (k : Nat) (s : AS) => [(1, .int .i64 t), (2, .pointer (some ⟨g2, 0, none⟩)), (4, .pointer (some ⟨g4, 0, none⟩)), (6, .pointer (some ⟨g6, 0, none⟩)), (7, .int .i64 (k : Int))]) (fun (k : Nat) (s : AS) => ⟨g6, 35, [.int .i64 W, .int .i64 H, s.val k]⟩ :: ⟨g4, 35, [.int .i64 0, .int .i64 0, .slice none 0 0]⟩ :: ⟨g2, 24, [.int .i64 W, .int .i64 H, .slice A n c]⟩ :: s.blks 4 (tab k (bv (gloF f t)))) 0 .nil ⟨by omega, AS.Ok0⟩ ⟨rfl, rfl, rfl, rfl, rfl, trivial⟩ (List.Sublist.refl _) ?_
      rintro k s ⟨hk, hs⟩
      refine gc_seq ?_
      refine gc_seq ?_
      refine gc_region ?_
      refine ne (eo_mv rfl rfl) rfl ?_
      refine ne (eo_field rfl f24_2 rfl) rfl ?_
      refine ne (eo_load 2 rfl s22 rfl rfl rfl rfl) rfl ?_
      refine ne (eo_len rfl Try.underlying22 rfl) rfl ?_
      refine ne (eo_lss rfl rfl rfl) rfl ?_
      refine go_nil ?_
      refine gq_next ?_
      refine gc_cond rfl (fun hc2 => ?_) (fun hc2 => ?_)
      ·
        replace hc2 := of_decide_eq_true hc2
        have hpx := hp (k : Int).toNat (by omega)
        refine gc_skip ?_
        refine gq_next ?_
        refine gc_seq ?_
        refine gc_block ?_
        refine gc_draw [] [0, 1, 2, 3, 4, 5, 6, 7, 8, 9] [10] [11, 12, 13] (by kernel_rfl) (by kernel_rfl) ?_
        refine gp_nil ?_
        refine de rfl (eo_field rfl f35_2 rfl) rfl ?_
        refine de rfl (eo_load 0 rfl s33 rfl rfl rfl rfl) rfl ?_
        refine de rfl (eo_field rfl f24_2 rfl) rfl ?_
        refine de rfl (eo_load 2 rfl s22 rfl rfl rfl rfl) rfl ?_
        refine de rfl (eo_mv rfl rfl) rfl ?_
        refine de rfl (eo_indexR rfl sl22 rfl rfl hr (by simp) (by omega) (by omega)) rfl ?_
        refine de rfl (eo_load_old rfl s5 rfl (Rd.tabi hr (by omega)) (by simp)) rfl ?_
        refine de rfl (eo_convi rfl rfl ⟨_, Try.underlying5⟩ Try.underlying3 (by omega) (by omega)) rfl ?_
        refine de rfl (eo_mv rfl rfl) rfl ?_
        refine de rfl (eo_lss rfl rfl rfl) rfl ?_
        refine ge_nil ?_
        refine da rfl (xo_lit1 rfl Try.underlying33 e4 rfl (by first | rfl | exact AS.one)) rfl ?_
        rintro _ _ ⟨g41, rfl, rfl⟩
        refine ⟨by first | exact (List.Sublist.cons _ (List.Sublist.refl _)) | exact (List.sublist_append_left _ _), ?_⟩
        refine ga_nil ?_
        refine ix rfl (xo_app1b 4 rfl rfl Try.underlying33 e4 rfl hs rfl rfl rfl (by omega)) rfl ?_
        rintro _ _ ⟨s42, hs42, rfl, rfl⟩
        refine ie rfl (eo_field rfl f35_2 rfl) rfl ?_
        refine iu rfl (xo_store 1 rfl s33 rfl rfl (by first | rfl | exact AS.one) rfl rfl (by simp)) ?_
        rintro _ _ ⟨rfl, rfl⟩
        refine gi_nil ?_
        refine gq_nq ?_
        refine gq_block_end ?_
        refine gq_next ?_
        refine gc_region ?_
        refine ne (eo_mv rfl rfl) rfl ?_
        refine ne (eo_add rfl rfl rfl (by omega) (by omega)) rfl ?_
        refine ne (eo_as rfl rfl) rfl ?_
        refine go_nil ?_
        exact round2 (k + 1) s42 ⟨by omega, hs42⟩ (by omega) ⟨rfl, rfl, rfl, rfl, rfl, trivial⟩ (List.Sublist.cons _ (List.Sublist.refl _))
      ·
        replace hc2 := of_decide_eq_false hc2
        refine gc_exit ?_
        refine gq_then_exit ?_
        refine gq_then_exit ?_
        refine gq_block_hit ?_
        refine gq_next ?_
        refine gc_seq ?_
        refine gc_region ?_
        refine ne (eo_loadA 0 rfl a35 rfl rfl rfl rfl) rfl ?_
        refine nu (xo_storeA 1 rfl a35 rfl rfl (ones_cons (by first | rfl | exact AS.one) (ones_cons (by first | rfl | exact AS.one) (ones_cons (by first | rfl | exact AS.one) ones_nil))) rfl rfl rfl rfl) ?_
        rintro _ _ ⟨rfl, rfl⟩
        refine ne (eo_as rfl rfl) rfl ?_
        refine go_nil ?_
        refine gq_next ?_
        refine gc_ret ?_
        refine gq_results (resCT 1 rfl a35 rfl rfl rfl rfl rfl) ?_
        obtain rfl : n = k := by omega
        exact fun W1 hO => rx_as 3 hO rfl hs (gloR_ok hv (by omega))

/-- barscan/threshold.Auto -/
theorem auto_x (W H : Int) (A : Option Addr) (n c : Nat) (f : Nat → Int) (w : World) (hr : Rd w A (tab n (iv .u8 f))) (hp : PixOk n f) (hn : n ≤ 2000) :
    Calls Try.prog 17 #[.agg #[.int .i64 W, .int .i64 H, .slice A n c]] w (fun e w' => ∃ v Hn, e = .returned v ∧ RX (autR ⟨W, H, n, f⟩) v Hn ∧ Ow [] w w' Hn) := by
  refine calls_enter (N := ⟨20, []⟩) [] ([]) Try.func17 rfl rfl rfl (Ow.start _) ?_
  refine gc_seq ?_
  refine gc_region ?_
  refine nx (xo_boxA rfl rfl) rfl ?_
  rintro _ _ ⟨g1, rfl, rfl⟩
  refine nx (xo_alloc rfl z35) rfl ?_
  rintro _ _ ⟨g2, rfl, rfl⟩
  refine ne (eo_as rfl rfl) rfl ?_
  refine go_nil ?_
  refine gq_next ?_
  refine gc_seq ?_
  refine gc_region ?_
  refine ne (eo_loadA 1 rfl a24 rfl rfl rfl rfl) rfl ?_
  refine ne (eo_call rfl en13 rfl (fun W1 hO => otsu_c _ _ _ _ _ _ W1 (hr.old0 hO) (by assumption) (by omega))) rfl ?_
  refine ne (eo_mv rfl rfl) rfl ?_
  refine ne (eo_extract rfl rfl rfl) rfl ?_
  refine ne (eo_extract rfl rfl rfl) rfl ?_
  refine ne (eo_as rfl rfl) rfl ?_
  refine ne (eo_as rfl rfl) rfl ?_
  refine go_nil ?_
  refine gq_next ?_
  refine gc_seq ?_
  refine gc_seq ?_
  refine gc_region ?_
  refine ne (eo_mv rfl rfl) rfl ?_
  refine ne (eo_neq rfl rfl rfl) rfl ?_
  refine go_nil ?_
  refine gq_next ?_
  refine gc_cond rfl (fun hc0 => ?_) (fun hc0 => ?_)
  ·
    replace hc0 := of_decide_eq_true hc0
    refine gc_seq ?_
    refine gc_region ?_
    refine ne (eo_build rfl rfl (b35_)) rfl ?_
    refine ne (eo_mv rfl rfl) rfl ?_
    refine nu (xo_storeA 0 rfl a35 rfl rfl (ones_cons (by first | rfl | exact AS.one) (ones_cons (by first | rfl | exact AS.one) (ones_cons (by first | rfl | exact AS.one) ones_nil))) rfl rfl rfl rfl) ?_
    rintro _ _ ⟨rfl, rfl⟩
    refine ne (eo_as rfl rfl) rfl ?_
    refine go_nil ?_
    refine gq_next ?_
    refine gc_ret ?_
    refine gq_then_ret ?_
    refine gq_results (resCT 0 rfl a35 rfl rfl rfl rfl rfl) ?_
    exact fun W1 hO => rx_nil hO (by rw [(otsR_err hc0).2]; exact autR_no (otsR_err hc0).1)
  ·
    replace hc0 := of_decide_eq_false hc0
    refine gc_skip ?_
    refine gq_next ?_
    refine gc_seq ?_
    refine gc_region ?_
    refine ne (eo_loadA 1 rfl a24 rfl rfl rfl rfl) rfl ?_
    refine ne (eo_mv rfl rfl) rfl ?_
    refine nx (xo_freshT rfl en15 rfl (fun W1 hO => glob_x _ _ _ _ _ _ _ W1 (hr.old0 hO) (by assumption))) rfl ?_
    rintro _ _ ⟨S17, ⟨A17, k17, rfl, hk17, hS17⟩, rfl⟩
    refine ne (eo_extract rfl rfl rfl) rfl ?_
    refine ne (eo_extract rfl rfl rfl) rfl ?_
    refine nu (xo_storeA 0 rfl a35 rfl rfl (ones_cons (by first | rfl | exact AS.one) (ones_cons (by first | rfl | exact AS.one) (ones_cons (by first | rfl | exact AS.one) ones_nil))) rfl rfl rfl rfl) ?_
    rintro _ _ ⟨rfl, rfl⟩
    refine ne (eo_as rfl rfl) rfl ?_
    refine go_nil ?_
    refine gq_next ?_
    refine gc_ret ?_
    refine gq_results (resCT 0 rfl a35 rfl rfl rfl rfl rfl) ?_
    exact fun W1 hO => rx_pass (hO.tl 2 rfl (List.Sublist.refl _)) hk17 hS17 rfl

/-- barscan/barscanref36.Auto -/
theorem rauto_x (W H : Int) (A : Option Addr) (n c : Nat) (f : Nat → Int) (w : World) (hr : Rd w A (tab n (iv .u8 f))) (hp : PixOk n f) (hn : n ≤ 2000) :
    Calls Try.prog 18 #[.agg #[.int .i64 W, .int .i64 H, .slice A n c]] w (fun e w' => ∃ v Hn, e = .returned v ∧ RX (autR ⟨W, H, n, f⟩) v Hn ∧ Ow [] w w' Hn) := by
  refine calls_enter (N := ⟨20, []⟩) [] ([]) Try.func18 rfl rfl rfl (Ow.start _) ?_
  refine gc_seq ?_
  refine gc_region ?_
  refine nx (xo_boxA rfl rfl) rfl ?_
  rintro _ _ ⟨g1, rfl, rfl⟩
  refine nx (xo_alloc rfl z35) rfl ?_
  rintro _ _ ⟨g2, rfl, rfl⟩
  refine ne (eo_as rfl rfl) rfl ?_
  refine go_nil ?_
  refine gq_next ?_
  refine gc_seq ?_
  refine gc_region ?_
  refine ne (eo_loadA 1 rfl a24 rfl rfl rfl rfl) rfl ?_
  refine ne (eo_call rfl en14 rfl (fun W1 hO => rotsu_c _ _ _ _ _ _ W1 (hr.old0 hO) (by assumption) (by omega))) rfl ?_
  refine ne (eo_mv rfl rfl) rfl ?_
  refine ne (eo_extract rfl rfl rfl) rfl ?_
  refine ne (eo_extract rfl rfl rfl) rfl ?_
  refine ne (eo_as rfl rfl) rfl ?_
  refine ne (eo_as rfl rfl) rfl ?_
  refine go_nil ?_
  refine gq_next ?_
  refine gc_seq ?_
  refine gc_seq ?_
  refine gc_region ?_
  refine ne (eo_mv rfl rfl) rfl ?_
  refine ne (eo_neq rfl rfl rfl) rfl ?_
  refine go_nil ?_
  refine gq_next ?_
  refine gc_cond rfl (fun hc0 => ?_) (fun hc0 => ?_)
  ·
    replace hc0 := of_decide_eq_true hc0
    refine gc_seq ?_
    refine gc_region ?_
    refine ne (eo_build rfl rfl (b35_)) rfl ?_
    refine ne (eo_mv rfl rfl) rfl ?_
    refine nu (xo_storeA 0 rfl a35 rfl rfl (ones_cons (by first | rfl | exact AS.one) (ones_cons (by first | rfl | exact AS.one) (ones_cons (by first | rfl | exact AS.one) ones_nil))) rfl rfl rfl rfl) ?_
    rintro _ _ ⟨rfl, rfl⟩
    refine ne (eo_as rfl rfl) rfl ?_
    refine go_nil ?_
    refine gq_next ?_
    refine gc_ret ?_
    refine gq_then_ret ?_
    refine gq_results (resCT 0 rfl a35 rfl rfl rfl rfl rfl) ?_
    exact fun W1 hO => rx_nil hO (by rw [(otsR_err hc0).2]; exact autR_no (otsR_err hc0).1)
  ·
    replace hc0 := of_decide_eq_false hc0
    refine gc_skip ?_
    refine gq_next ?_
    refine gc_seq ?_
    refine gc_region ?_
    refine ne (eo_loadA 1 rfl a24 rfl rfl rfl rfl) rfl ?_
    refine ne (eo_mv rfl rfl) rfl ?_
    refine nx (xo_freshT rfl en16 rfl (fun W1 hO => rglob_x _ _ _ _ _ _ _ W1 (hr.old0 hO) (by assumption))) rfl ?_
    rintro _ _ ⟨S17, ⟨A17, k17, rfl, hk17, hS17⟩, rfl⟩
    refine ne (eo_extract rfl rfl rfl) rfl ?_
    refine ne (eo_extract rfl rfl rfl) rfl ?_
    refine nu (xo_storeA 0 rfl a35 rfl rfl (ones_cons (by first | rfl | exact AS.one) (ones_cons (by first | rfl | exact AS.one) (ones_cons (by first | rfl | exact AS.one) ones_nil))) rfl rfl rfl rfl) ?_
    rintro _ _ ⟨rfl, rfl⟩
    refine ne (eo_as rfl rfl) rfl ?_
    refine go_nil ?_
    refine gq_next ?_
    refine gc_ret ?_
    refine gq_results (resCT 0 rfl a35 rfl rfl rfl rfl rfl) ?_
    exact fun W1 hO => rx_pass (hO.tl 2 rfl (List.Sublist.refl _)) hk17 hS17 rfl

end Go.Proofs.Ytcdhbikginpogaa
