/-
  The walks of the functions of package printing and of the document's answer (part B): what each call returns, at every argument.
-/
import Derived.Test.YtibooikbbcilcaaWA
namespace Go.Proofs.Ytibooikbbcilcaa
open Go.RowKit Go.Eng

open Go.Bs
theorem e3 : TyE Try.prog 3 (.int .i64 0) 8 := ⟨rfl, by kernel_rfl⟩
theorem sl41 : TySl Try.prog 41 3 1 := ⟨Try.underlying41, by kernel_rfl⟩
theorem z24 : TyZ Try.prog 24 [.int .i64 0, .int .i64 0, .slice none 0 0] := .inl (by kernel_rfl)
theorem a24 : TyA Try.prog 24 3 := ⟨⟨_, Try.underlying24, rfl⟩, by kernel_rfl⟩
theorem en30 : Ent Try.prog 30 := ent_of Try.func30 (by kernel_rfl) rfl
theorem b24_  (W : World) : (Instr.build 24 #[]).run Try.prog W = .ok (.agg #[.int .i64 0, .int .i64 0, .slice none 0 0]) W := by kernel_rfl
theorem en31 : Ent Try.prog 31 := ent_of Try.func31 (by kernel_rfl) rfl
theorem e5 : TyE Try.prog 5 (.int .u8 0) 1 := ⟨rfl, by kernel_rfl⟩
theorem b24_012 (x0 : Int) (x1 : Int) (x2A : Option Addr) (x2n x2c : Nat) (W : World) : (Instr.build 24 #[(0, .int .i64 x0), (1, .int .i64 x1), (2, .slice x2A x2n x2c)]).run Try.prog W = .ok (.agg #[.int .i64 x0, .int .i64 x1, .slice x2A x2n x2c]) W := by kernel_rfl
theorem en32 : Ent Try.prog 32 := ent_of Try.func32 (by kernel_rfl) rfl
theorem b24_01 (x0 : Int) (x1 : Int) (W : World) : (Instr.build 24 #[(0, .int .i64 x0), (1, .int .i64 x1)]).run Try.prog W = .ok (.agg #[.int .i64 x0, .int .i64 x1, .slice none 0 0]) W := by kernel_rfl
theorem en33 : Ent Try.prog 33 := ent_of Try.func33 (by kernel_rfl) rfl

/-- barscan/printing.shortfalls -/
theorem short_c (W H : Int) (A : Option Addr) (n c : Nat) (f : Nat → Int) (w : World) (hr : Rd w A (tab n (iv .u8 f))) (hv : vldB W H n = true) (hp : PixOk n f) :
    Calls Try.prog 31 #[.agg #[.int .i64 W, .int .i64 H, .slice A n c]] w (fun e w' => ∃ v Hn, e = .returned v ∧ RS 3 ((W + 1) * (H + 1)).toNat (iv .i64 (sumG (sh n f) W)) v Hn ∧ Ow [] w w' Hn) := by
  obtain ⟨v1, v2, v3, v4, v5, v6⟩ := vldB_iff.1 hv
  have v7 := vld_pos hv
  have v8 := mul_up1 v1 v2 v3 v4
  have hg := sh_bd hp
  refine calls_enter (N := ⟨64, []⟩) [] ([]) Try.func31 rfl rfl rfl (Ow.start _) ?_
  refine gc_seq ?_
  refine gc_region ?_
  refine nx (xo_boxA rfl rfl) rfl ?_
  rintro _ _ ⟨g1, rfl, rfl⟩
  refine ne (eo_as rfl rfl) rfl ?_
  refine go_nil ?_
  refine gq_next ?_
  refine gc_seq ?_
  refine gc_region ?_
  refine ne (eo_field rfl f24_0 rfl) rfl ?_
  refine ne (eo_load 0 rfl s3 rfl rfl rfl rfl) rfl ?_
  refine ne (eo_add rfl rfl rfl (by omega) (by omega)) rfl ?_
  refine ne (eo_as rfl rfl) rfl ?_
  refine go_nil ?_
  refine gq_next ?_
  refine gc_seq ?_
  refine gc_region ?_
  refine ne (eo_mv rfl rfl) rfl ?_
  refine ne (eo_field rfl f24_1 rfl) rfl ?_
  refine ne (eo_load 0 rfl s3 rfl rfl rfl rfl) rfl ?_
  refine ne (eo_add rfl rfl rfl (by omega) (by omega)) rfl ?_
  refine ne (eo_mul rfl rfl rfl (by omega) (by omega)) rfl ?_
  refine nx (xo_makei rfl Try.underlying41 e3 rfl rfl (by omega) (by omega) (by omega)) rfl ?_
  rintro _ _ ⟨g16, rfl, rfl⟩
  refine ne (eo_as rfl rfl) rfl ?_
  refine go_nil ?_
  refine gq_next ?_
  refine gc_seq ?_
  refine gc_seq ?_
  refine gc_region ?_
  refine ne (eo_field rfl f24_1 rfl) rfl ?_
  refine ne (eo_load 1 rfl s3 rfl rfl rfl rfl) rfl ?_
  refine ne (eo_mv rfl rfl) rfl ?_
  refine go_nil ?_
  refine gq_next ?_
  refine gc_block ?_
  refine loop2 (fun (y : Nat) (s1 : Nat → Int) => (y : Int) ≤ H ∧ ∀ q, q < ((W + 1) * (H + 1)).toNat → s1 q = if (q : Int) < ((y : Int) + 1) * (W + 1) then sumG (sh n f) W q else 0) (fun (y : Nat) (s1 : Nat → Int) => (H - y).toNat) (fun (y : Nat) (s1 : Nat → Int) => [(1, .pointer (some ⟨g1, 0, none⟩)), (3, .int .i64 (W + 1)), (4, .slice (some ⟨g16, 0, none⟩) ((((W + 1) * (H + 1))).toNat) ((((W + 1) * (H + 1))).toNat)), (18, .int .i64 H), (19, .int .i64 (y : Int))]) (fun (y : Nat) (s1 : Nat → Int) => [⟨g16, 3, tab ((((W + 1) * (H + 1))).toNat) (iv .i64 s1) ++ []⟩, ⟨g1, 24, [.int .i64 W, .int .i64 H, .slice A n c]⟩]) 0 (fun _ => 0) ⟨by omega, sumG_new (by omega) (by simp)⟩ ⟨rfl, rfl, rfl, rfl, rfl, trivial⟩ (List.Sublist.refl _) ?_
  rintro y s1 ⟨hy, hI⟩
  refine gc_seq ?_
  refine gc_region ?_
  refine ne (eo_lss rfl rfl rfl) rfl ?_
  refine go_nil ?_
  refine gq_next ?_
  refine gc_seq ?_
  refine gc_cond rfl (fun hc0 => ?_) (fun hc0 => ?_)
  ·
    replace hc0 := of_decide_eq_true hc0
    have hb := idx_bd (W := W + 1) (H := H + 1) (x := 0) (y := (y : Int) + 1) (by omega) (by omega) (by omega) (by omega)
    have hb0 := idx_bd (W := W) (H := H) (x := 0) (y := (y : Int)) (by omega) (by omega) (by omega) (by omega)
    have ha : ((y : Int) + 1) * (W + 1) = y * (W + 1) + (W + 1) := add1_mul
    have hb1 : 0 ≤ (y : Int) * (W + 1) := Int.mul_nonneg (by omega) (by omega)
    refine gc_skip ?_
    refine gq_next ?_
    refine gc_seq ?_
    refine gc_block ?_
    refine gc_seq ?_
    refine gc_region ?_
    refine ne (eo_mv rfl rfl) rfl ?_
    refine ne (eo_as rfl rfl) rfl ?_
    refine go_nil ?_
    refine gq_next ?_
    refine gc_seq ?_
    refine gc_region ?_
    refine ne (eo_as rfl rfl) rfl ?_
    refine go_nil ?_
    refine gq_next ?_
    refine gc_seq ?_
    refine gc_region ?_
    refine ne (eo_field rfl f24_0 rfl) rfl ?_
    refine ne (eo_load 1 rfl s3 rfl rfl rfl rfl) rfl ?_
    refine ne (eo_mv rfl rfl) rfl ?_
    refine go_nil ?_
    refine gq_next ?_
    refine gc_block ?_
    refine loop3 (fun (x : Nat) (row : Int) (s1 : Nat → Int) => (x : Int) ≤ W ∧ row = rowS (sh n f) W y x ∧ ∀ q, q < ((W + 1) * (H + 1)).toNat → s1 q = if (q : Int) < ((y : Int) + 1) * (W + 1) + 1 + x then sumG (sh n f) W q else 0) (fun (x : Nat) (row : Int) (s1 : Nat → Int) => (W - x).toNat) (fun (x : Nat) (row : Int) (s1 : Nat → Int) => [(1, .pointer (some ⟨g1, 0, none⟩)), (3, .int .i64 (W + 1)), (4, .slice (some ⟨g16, 0, none⟩) ((((W + 1) * (H + 1))).toNat) ((((W + 1) * (H + 1))).toNat)), (5, .int .i64 (y : Int)), (6, .int .i64 row), (18, .int .i64 H), (19, .int .i64 (y : Int)), (23, .int .i64 W), (24, .int .i64 (x : Int))]) (fun (x : Nat) (row : Int) (s1 : Nat → Int) => [⟨g16, 3, tab ((((W + 1) * (H + 1))).toNat) (iv .i64 s1) ++ []⟩, ⟨g1, 24, [.int .i64 W, .int .i64 H, .slice A n c]⟩]) 0 0 s1 ⟨by omega, rfl, fill_to (sumG_row (by omega) rfl hI) (by simp)⟩ ⟨rfl, rfl, rfl, rfl, rfl, rfl, rfl, rfl, rfl, trivial⟩ (List.Sublist.refl _) ?_
    rintro x row s1 ⟨hx, hrow, hI⟩
    have hrb := row255 (W := W) (y := y) (x := x) hg (by omega)
    refine gc_seq ?_
    refine gc_region ?_
    refine ne (eo_lss rfl rfl rfl) rfl ?_
    refine go_nil ?_
    refine gq_next ?_
    refine gc_seq ?_
    refine gc_cond rfl (fun hc1 => ?_) (fun hc1 => ?_)
    ·
      replace hc1 := of_decide_eq_true hc1
      have hi := idx_bd (W := W) (H := H) (x := (x : Int)) (y := (y : Int)) (by omega) (by omega) (by omega) (by omega)
      have hpx := hp ((y : Int) * W + (x : Int)).toNat (by omega)
      have hq : s1 ((y : Int) * (W + 1) + (x : Int) + 1).toNat = sumS (sh n f) W (y : Int).toNat ((x : Int) + 1).toNat := by
        rw [hI _ (by omega), if_pos (by omega), Int.add_assoc]
        exact sumG_z (by omega) (by omega) (by omega) (by omega)
      have hqb := sumS_z (g := (sh n f)) (W := W) (hi := 255) (y := (y : Int)) (x := (x : Int) + 1) (by omega) hg (by omega) (by omega) (by omega) (by omega)
      have hsh := sh_in (f := f) (n := n) (i := ((y : Int) * W + (x : Int)).toNat) (by omega)
      refine gc_skip ?_
      refine gq_next ?_
      refine gc_seq ?_
      refine gc_block ?_
      refine gc_seq ?_
      refine gc_region ?_
      refine ne (eo_mv rfl rfl) rfl ?_
      refine ne (eo_as rfl rfl) rfl ?_
      refine go_nil ?_
      refine gq_next ?_
      refine gc_seq ?_
      refine gc_region ?_
      refine ne (eo_mv rfl rfl) rfl ?_
      refine ne (eo_field rfl f24_2 rfl) rfl ?_
      refine ne (eo_load 1 rfl s22 rfl rfl rfl rfl) rfl ?_
      refine ne (eo_mv rfl rfl) rfl ?_
      refine ne (eo_field rfl f24_0 rfl) rfl ?_
      refine ne (eo_load 1 rfl s3 rfl rfl rfl rfl) rfl ?_
      refine ne (eo_mul rfl rfl rfl (by omega) (by omega)) rfl ?_
      refine ne (eo_mv rfl rfl) rfl ?_
      refine ne (eo_add rfl rfl rfl (by omega) (by omega)) rfl ?_
      refine ne (eo_indexR rfl sl22 rfl rfl hr (by simp) (by omega) (by omega)) rfl ?_
      refine ne (eo_load_old rfl s5 rfl (Rd.tabi hr (by omega)) (by simp)) rfl ?_
      refine ne (eo_convi rfl rfl ⟨_, Try.underlying5⟩ Try.underlying3 (by omega) (by omega)) rfl ?_
      refine ne (eo_sub rfl rfl rfl (by omega) (by omega)) rfl ?_
      refine ne (eo_add rfl rfl rfl (by omega) (by omega)) rfl ?_
      refine ne (eo_as rfl rfl) rfl ?_
      refine go_nil ?_
      refine gq_next ?_
      refine gc_region ?_
      refine ne (eo_mv rfl rfl) rfl ?_
      refine ne (eo_mv rfl rfl) rfl ?_
      refine ne (eo_add rfl rfl rfl (by omega) (by omega)) rfl ?_
      refine ne (eo_mv rfl rfl) rfl ?_
      refine ne (eo_mul rfl rfl rfl (by omega) (by omega)) rfl ?_
      refine ne (eo_mv rfl rfl) rfl ?_
      refine ne (eo_add rfl rfl rfl (by omega) (by omega)) rfl ?_
      refine ne (eo_add rfl rfl rfl (by omega) (by omega)) rfl ?_
      refine ne (eo_mv rfl rfl) rfl ?_
      refine ne (eo_mv rfl rfl) rfl ?_
      refine ne (eo_mv rfl rfl) rfl ?_
      refine ne (eo_mul rfl rfl rfl (by omega) (by omega)) rfl ?_
      refine ne (eo_mv rfl rfl) rfl ?_
      refine ne (eo_add rfl rfl rfl (by omega) (by omega)) rfl ?_
      refine ne (eo_add rfl rfl rfl (by omega) (by omega)) rfl ?_
      refine ne (eo_index0 rfl sl41 rfl rfl (by omega) (by omega)) rfl ?_
      refine ne (eo_geti 0 rfl s3 rfl rfl (by omega)) rfl ?_
      refine ne (eo_mv rfl rfl) rfl ?_
      refine ne (eo_add rfl rfl rfl (by omega) (by omega)) rfl ?_
      refine ne (eo_index0 rfl sl41 rfl rfl (by omega) (by omega)) rfl ?_
      refine nu (xo_seti 0 rfl s3 rfl rfl rfl (by omega)) ?_
      rintro _ _ ⟨rfl, rfl⟩
      refine go_nil ?_
      refine gq_block_end ?_
      refine gq_next ?_
      refine gc_region ?_
      refine ne (eo_add rfl rfl rfl (by omega) (by omega)) rfl ?_
      refine ne (eo_mv rfl rfl) rfl ?_
      refine go_nil ?_
      exact round3 (x + 1) (row + (255 - (f (((((y : Int) * W) + (x : Int))).toNat)))) (upd s1 (((((((y : Int) + 1) * (W + 1)) + (x : Int)) + 1)).toNat) ((s1 ((((((y : Int) * (W + 1)) + (x : Int)) + 1)).toNat)) + (row + (255 - (f (((((y : Int) * W) + (x : Int))).toNat)))))) ⟨by omega, by rw [rowS_succ, ← hrow, hsh], fill_to (fill_up hI (by omega) (sum_at hq (by omega) (by omega) (by rw [rowS_succ, ← hrow, hsh]))) (by push_cast; omega)⟩ (by omega) ⟨rfl, rfl, rfl, rfl, rfl, rfl, rfl, rfl, rfl, trivial⟩ (List.Sublist.refl _)
    ·
      replace hc1 := of_decide_eq_false hc1
      refine gc_exit ?_
      refine gq_then_exit ?_
      refine gq_then_exit ?_
      refine gq_block_hit ?_
      refine gq_block_end ?_
      refine gq_next ?_
      refine gc_region ?_
      refine ne (eo_add rfl rfl rfl (by omega) (by omega)) rfl ?_
      refine ne (eo_mv rfl rfl) rfl ?_
      refine go_nil ?_
      exact round2 (y + 1) s1 ⟨by omega, fill_to hI (by push_cast; rw [add1_mul (a := (y : Int) + 1)]; omega)⟩ (by omega) ⟨rfl, rfl, rfl, rfl, rfl, trivial⟩ (List.Sublist.refl _)
  ·
    replace hc0 := of_decide_eq_false hc0
    refine gc_exit ?_
    refine gq_then_exit ?_
    refine gq_then_exit ?_
    refine gq_block_hit ?_
    refine gq_next ?_
    refine gc_seq ?_
    refine gc_region ?_
    refine ne (eo_mv rfl rfl) rfl ?_
    refine ne (eo_as rfl rfl) rfl ?_
    refine go_nil ?_
    refine gq_next ?_
    refine gc_ret ?_
    refine gq_results (res1 rfl rfl) ?_
    rw [show tab ((W + 1) * (H + 1)).toNat (iv .i64 s1) = _ from tabi_ext (fill_end hI (by rw [show (y : Int) = H by omega, Int.mul_comm (H + 1)]; omega))]
    exact fun W1 hO => ⟨_, _, rfl, ⟨_, _, _, rfl, rfl, by omega⟩, hO.pick 0 rfl⟩

/-- barscan/printing.Blur -/
theorem blur_x (W H : Int) (A : Option Addr) (n c : Nat) (f : Nat → Int) (r : Int) (w : World) (hr : Rd w A (tab n (iv .u8 f))) (hp : PixOk n f) :
    Calls Try.prog 11 #[.agg #[.int .i64 W, .int .i64 H, .slice A n c], .int .i64 r] w (fun e w' => ∃ v Hn, e = .returned v ∧ RXi (blurR ⟨W, H, n, f⟩ r) v Hn ∧ Ow [] w w' Hn) := by
  refine calls_enter (N := ⟨143, []⟩) [] ([]) Try.func11 rfl rfl rfl (Ow.start _) ?_
  refine gc_seq ?_
  refine gc_region ?_
  refine nx (xo_boxA rfl rfl) rfl ?_
  rintro _ _ ⟨g2, rfl, rfl⟩
  refine nx (xo_alloc rfl z24) rfl ?_
  rintro _ _ ⟨g4, rfl, rfl⟩
  refine ne (eo_as rfl rfl) rfl ?_
  refine go_nil ?_
  refine gq_next ?_
  refine gc_seq ?_
  refine gc_seq ?_
  refine gc_region ?_
  refine ne (eo_loadA 1 rfl a24 rfl rfl rfl rfl) rfl ?_
  refine ne (eo_call rfl en30 rfl (fun W1 hO => checkim_c _ _ _ _ _ W1  )) rfl ?_
  refine ne (eo_neq rfl rfl rfl) rfl ?_
  refine go_nil ?_
  refine gq_next ?_
  refine gc_cond rfl (fun hc0 => ?_) (fun hc0 => ?_)
  ·
    replace hc0 := of_decide_eq_true hc0
    have hv := chk_f hc0
    refine gc_seq ?_
    refine gc_region ?_
    refine ne (eo_build rfl rfl (b24_)) rfl ?_
    refine nu (xo_storeA 0 rfl a24 rfl rfl (ones_cons (by first | rfl | exact AS.one) (ones_cons (by first | rfl | exact AS.one) (ones_cons (by first | rfl | exact AS.one) ones_nil))) rfl rfl rfl rfl) ?_
    rintro _ _ ⟨rfl, rfl⟩
    refine ne (eo_as rfl rfl) rfl ?_
    refine go_nil ?_
    refine gq_next ?_
    refine gc_ret ?_
    refine gq_then_ret ?_
    refine gq_results (resCT 0 rfl a24 rfl rfl rfl rfl rfl) ?_
    exact fun W1 hO => rxi_nil hO (blurR_no hv)
  ·
    replace hc0 := of_decide_eq_false hc0
    have hv := chk_t hc0
    obtain ⟨v1, v2, v3, v4, v5, v6⟩ := vldB_iff.1 hv
    have v7 := vld_pos hv
    have v8 := mul_up1 v1 v2 v3 v4
    have hg := sh_bd hp
    refine gc_skip ?_
    refine gq_next ?_
    refine gc_seq ?_
    refine gc_seq ?_
    refine gc_region ?_
    refine ne (eo_mv rfl rfl) rfl ?_
    refine ne (eo_lss rfl rfl rfl) rfl ?_
    refine ne (eo_mv rfl rfl) rfl ?_
    refine ng rfl rfl (fun h => eo_mv rfl rfl) rfl ?_
    refine ng rfl rfl (fun h => eo_gtr rfl (ev_if h rfl) rfl) rfl ?_
    refine ne (eo_or rfl rfl (fun hb => ev_if hb rfl)) rfl ?_
    refine go_nil ?_
    refine gq_next ?_
    refine gc_cond rfl (fun hc1 => ?_) (fun hc1 => ?_)
    ·
      have hd1 := (or_t hc1).imp (fun h => of_decide_eq_true h) (fun h => of_decide_eq_true h)
      refine gc_seq ?_
      refine gc_region ?_
      refine ne (eo_build rfl rfl (b24_)) rfl ?_
      refine nu (xo_storeA 0 rfl a24 rfl rfl (ones_cons (by first | rfl | exact AS.one) (ones_cons (by first | rfl | exact AS.one) (ones_cons (by first | rfl | exact AS.one) ones_nil))) rfl rfl rfl rfl) ?_
      rintro _ _ ⟨rfl, rfl⟩
      refine ne (eo_as rfl rfl) rfl ?_
      refine go_nil ?_
      refine gq_next ?_
      refine gc_ret ?_
      refine gq_then_ret ?_
      refine gq_results (resCT 0 rfl a24 rfl rfl rfl rfl rfl) ?_
      exact fun W1 hO => rxi_nil hO (blurR_range hv (by omega))
    ·
      have hd1 := (or_f hc1).imp (fun h => of_decide_eq_false h) (fun h => of_decide_eq_false h)
      have hsq := sq_up (r := r) (by omega) (by omega)
      unfold sq at hsq
      refine gc_skip ?_
      refine gq_next ?_
      refine gc_seq ?_
      refine gc_region ?_
      refine ne (eo_loadA 1 rfl a24 rfl rfl rfl rfl) rfl ?_
      refine nx (xo_fresh rfl en31 rfl (fun W1 hO => short_c _ _ _ _ _ _ W1 (hr.old0 hO) (by assumption) (by assumption))) rfl ?_
      rintro _ _ ⟨_, ⟨gs30, cs30, ss30, rfl, rfl, hcs30⟩, rfl⟩
      refine ne (eo_as rfl rfl) rfl ?_
      refine go_nil ?_
      refine gq_next ?_
      refine gc_seq ?_
      refine gc_region ?_
      refine ne (eo_field rfl f24_0 rfl) rfl ?_
      refine ne (eo_load 2 rfl s3 rfl rfl rfl rfl) rfl ?_
      refine ne (eo_add rfl rfl rfl (by omega) (by omega)) rfl ?_
      refine ne (eo_as rfl rfl) rfl ?_
      refine go_nil ?_
      refine gq_next ?_
      refine gc_seq ?_
      refine gc_region ?_
      refine ne (eo_mv rfl rfl) rfl ?_
      refine ne (eo_mul rfl rfl rfl (by omega) (by omega)) rfl ?_
      refine ne (eo_add rfl rfl rfl (by omega) (by omega)) rfl ?_
      refine ne (eo_mv rfl rfl) rfl ?_
      refine ne (eo_mul rfl rfl rfl (by omega) (by omega)) rfl ?_
      refine ne (eo_add rfl rfl rfl (by omega) (by omega)) rfl ?_
      refine ne (eo_mul rfl rfl rfl (by omega) (by omega)) rfl ?_
      refine ne (eo_as rfl rfl) rfl ?_
      refine go_nil ?_
      refine gq_next ?_
      refine gc_seq ?_
      refine gc_draw_new (i := 11) (d := 9) [] [0, 1, 2, 3, 4, 5, 6, 7, 8] [9, 10] [12] (by kernel_rfl) (by kernel_rfl) rfl z24 rfl ?_
      refine gp_nil ?_
      refine de rfl (eo_field rfl f24_0 rfl) rfl ?_
      refine de rfl (eo_load 2 rfl s3 rfl rfl rfl rfl) rfl ?_
      refine de rfl (eo_field rfl f24_1 rfl) rfl ?_
      refine de rfl (eo_load 2 rfl s3 rfl rfl rfl rfl) rfl ?_
      refine de rfl (eo_field rfl f24_0 rfl) rfl ?_
      refine de rfl (eo_load 2 rfl s3 rfl rfl rfl rfl) rfl ?_
      refine de rfl (eo_field rfl f24_1 rfl) rfl ?_
      refine de rfl (eo_load 2 rfl s3 rfl rfl rfl rfl) rfl ?_
      refine de rfl (eo_mul rfl rfl rfl (by omega) (by omega)) rfl ?_
      refine ge_nil ?_
      refine ⟨rfl, ?_⟩
      refine da rfl (xo_makei rfl Try.underlying22 e5 rfl rfl (by omega) (by omega) (by omega)) rfl ?_
      rintro _ _ ⟨g50, rfl, rfl⟩
      refine ⟨by first | exact (List.Sublist.cons _ (List.Sublist.refl _)) | exact (List.sublist_append_left _ _), ?_⟩
      refine da rfl (xo_of_eo (eo_build rfl rfl (b24_012 _ _ _ _ _))) rfl ?_
      rintro _ _ ⟨rfl, rfl⟩
      refine ⟨by first | exact (List.Sublist.cons _ (List.Sublist.refl _)) | exact (List.sublist_append_left _ _), ?_⟩
      refine ga_nil ?_
      intro g9
      refine iu rfl (xo_storeA 0 rfl a24 rfl rfl (ones_cons (by first | rfl | exact AS.one) (ones_cons (by first | rfl | exact AS.one) (ones_cons (by first | rfl | exact AS.one) ones_nil))) rfl rfl rfl rfl) ?_
      rintro _ _ ⟨rfl, rfl⟩
      refine gi_nil ?_
      refine gq_nq ?_
      refine gq_next ?_
      refine gc_seq ?_
      refine gc_seq ?_
      refine gc_region ?_
      refine ne (eo_field rfl f24_1 rfl) rfl ?_
      refine ne (eo_load 4 rfl s3 rfl rfl rfl rfl) rfl ?_
      refine ne (eo_mv rfl rfl) rfl ?_
      refine go_nil ?_
      refine gq_next ?_
      refine gc_block ?_
      refine loop2 (fun (y : Nat) (f1 : Nat → Int) => (y : Int) ≤ H ∧ ∀ j, j < (W * H).toNat → f1 j = if (j : Int) < y * W then blurF ⟨W, H, n, f⟩ r j else 0) (fun (y : Nat) (f1 : Nat → Int) => (H - y).toNat) (fun (y : Nat) (f1 : Nat → Int) => [(1, .int .i64 r), (2, .pointer (some ⟨g2, 0, none⟩)), (4, .pointer (some ⟨g4, 0, none⟩)), (6, .slice (some ⟨gs30, 0, none⟩) (((W + 1) * (H + 1)).toNat) cs30), (7, .int .i64 (W + 1)), (8, .int .i64 (((2 * r) + 1) * ((2 * r) + 1))), (9, .pointer (some ⟨g9, 0, none⟩)), (53, .int .i64 H), (54, .int .i64 (y : Int))]) (fun (y : Nat) (f1 : Nat → Int) => [⟨g9, 24, [.int .i64 W, .int .i64 H, .slice (some ⟨g50, 0, none⟩) (((W * H)).toNat) (((W * H)).toNat)]⟩, ⟨g50, 5, tab (((W * H)).toNat) (iv .u8 f1) ++ []⟩, ⟨gs30, 3, tab (((W + 1) * (H + 1)).toNat) (iv .i64 (sumG (sh n f) W)) ++ ss30⟩, ⟨g4, 24, [.int .i64 0, .int .i64 0, .slice none 0 0]⟩, ⟨g2, 24, [.int .i64 W, .int .i64 H, .slice A n c]⟩]) 0 (fun _ => 0) ⟨by omega, fill_new (by simp)⟩ ⟨rfl, rfl, rfl, rfl, rfl, rfl, rfl, rfl, rfl, trivial⟩ (List.Sublist.refl _) ?_
      rintro y f1 ⟨hy, hI⟩
      refine gc_seq ?_
      refine gc_region ?_
      refine ne (eo_lss rfl rfl rfl) rfl ?_
      refine go_nil ?_
      refine gq_next ?_
      refine gc_seq ?_
      refine gc_cond rfl (fun hc2 => ?_) (fun hc2 => ?_)
      ·
        replace hc2 := of_decide_eq_true hc2
        have hb0 := idx_bd (W := W) (H := H) (x := 0) (y := (y : Int)) (by omega) (by omega) (by omega) (by omega)
        refine gc_skip ?_
        refine gq_next ?_
        refine gc_seq ?_
        refine gc_block ?_
        refine gc_seq ?_
        refine gc_region ?_
        refine ne (eo_mv rfl rfl) rfl ?_
        refine ne (eo_as rfl rfl) rfl ?_
        refine go_nil ?_
        refine gq_next ?_
        refine gc_seq ?_
        refine gc_draw [] [0, 1, 2, 3, 4, 5, 6, 7, 8, 9, 10, 11, 12] [] [] (by kernel_rfl) (by kernel_rfl) ?_
        refine gp_nil ?_
        refine de rfl (eo_mv rfl rfl) rfl ?_
        refine de rfl (eo_mv rfl rfl) rfl ?_
        refine de rfl (eo_sub rfl rfl rfl (by omega) (by omega)) rfl ?_
        refine de rfl (eo_max rfl rfl rfl) rfl ?_
        refine de rfl (eo_mv rfl rfl) rfl ?_
        refine de rfl (eo_mv rfl rfl) rfl ?_
        refine de rfl (eo_add rfl rfl rfl (by omega) (by omega)) rfl ?_
        refine de rfl (eo_add rfl rfl rfl (by omega) (by omega)) rfl ?_
        refine de rfl (eo_field rfl f24_1 rfl) rfl ?_
        refine de rfl (eo_load 4 rfl s3 rfl rfl rfl rfl) rfl ?_
        refine de rfl (eo_min rfl rfl rfl) rfl ?_
        refine de rfl (eo_as rfl rfl) rfl ?_
        refine de rfl (eo_as rfl rfl) rfl ?_
        refine ge_nil ?_
        refine ga_nil ?_
        refine gi_nil ?_
        refine gq_nq ?_
        refine gq_next ?_
        refine gc_seq ?_
        refine gc_region ?_
        refine ne (eo_field rfl f24_0 rfl) rfl ?_
        refine ne (eo_load 4 rfl s3 rfl rfl rfl rfl) rfl ?_
        refine ne (eo_mv rfl rfl) rfl ?_
        refine go_nil ?_
        refine gq_next ?_
        refine gc_block ?_
        refine loop2 (fun (x : Nat) (f1 : Nat → Int) => (x : Int) ≤ W ∧ ∀ j, j < (W * H).toNat → f1 j = if (j : Int) < y * W + x then blurF ⟨W, H, n, f⟩ r j else 0) (fun (x : Nat) (f1 : Nat → Int) => (W - x).toNat) (fun (x : Nat) (f1 : Nat → Int) => [(1, .int .i64 r), (2, .pointer (some ⟨g2, 0, none⟩)), (4, .pointer (some ⟨g4, 0, none⟩)), (6, .slice (some ⟨gs30, 0, none⟩) (((W + 1) * (H + 1)).toNat) cs30), (7, .int .i64 (W + 1)), (8, .int .i64 (((2 * r) + 1) * ((2 * r) + 1))), (9, .pointer (some ⟨g9, 0, none⟩)), (10, .int .i64 (y : Int)), (11, .int .i64 (max ((y : Int) - r) 0)), (12, .int .i64 (min (((y : Int) + r) + 1) H)), (53, .int .i64 H), (54, .int .i64 (y : Int)), (69, .int .i64 W), (70, .int .i64 (x : Int))]) (fun (x : Nat) (f1 : Nat → Int) => [⟨g9, 24, [.int .i64 W, .int .i64 H, .slice (some ⟨g50, 0, none⟩) (((W * H)).toNat) (((W * H)).toNat)]⟩, ⟨g50, 5, tab (((W * H)).toNat) (iv .u8 f1) ++ []⟩, ⟨gs30, 3, tab (((W + 1) * (H + 1)).toNat) (iv .i64 (sumG (sh n f) W)) ++ ss30⟩, ⟨g4, 24, [.int .i64 0, .int .i64 0, .slice none 0 0]⟩, ⟨g2, 24, [.int .i64 W, .int .i64 H, .slice A n c]⟩]) 0 f1 ⟨by omega, fill_to hI (by simp)⟩ ⟨rfl, rfl, rfl, rfl, rfl, rfl, rfl, rfl, rfl, rfl, rfl, rfl, rfl, rfl, trivial⟩ (List.Sublist.refl _) ?_
        rintro x f1 ⟨hx, hI⟩
        refine gc_seq ?_
        refine gc_region ?_
        refine ne (eo_lss rfl rfl rfl) rfl ?_
        refine go_nil ?_
        refine gq_next ?_
        refine gc_seq ?_
        refine gc_cond rfl (fun hc3 => ?_) (fun hc3 => ?_)
        ·
          replace hc3 := of_decide_eq_true hc3
          have e1 := sumG_z (g := (sh n f)) (W := W) (y := (min ((y : Int) + r + 1) H)) (x := (min ((x : Int) + r + 1) W)) (by omega) (by omega) (by omega) (by omega)
          have b1 := sumS_z (g := (sh n f)) (W := W) (hi := 255) (y := (min ((y : Int) + r + 1) H)) (x := (min ((x : Int) + r + 1) W)) (by omega) hg (by omega) (by omega) (by omega) (by omega)
          have i1 := idx_bd (W := W + 1) (H := H + 1) (x := (min ((x : Int) + r + 1) W)) (y := (min ((y : Int) + r + 1) H)) (by omega) (by omega) (by omega) (by omega)
          have e2 := sumG_z (g := (sh n f)) (W := W) (y := (max ((y : Int) - r) 0)) (x := (min ((x : Int) + r + 1) W)) (by omega) (by omega) (by omega) (by omega)
          have b2 := sumS_z (g := (sh n f)) (W := W) (hi := 255) (y := (max ((y : Int) - r) 0)) (x := (min ((x : Int) + r + 1) W)) (by omega) hg (by omega) (by omega) (by omega) (by omega)
          have i2 := idx_bd (W := W + 1) (H := H + 1) (x := (min ((x : Int) + r + 1) W)) (y := (max ((y : Int) - r) 0)) (by omega) (by omega) (by omega) (by omega)
          have e3 := sumG_z (g := (sh n f)) (W := W) (y := (min ((y : Int) + r + 1) H)) (x := (max ((x : Int) - r) 0)) (by omega) (by omega) (by omega) (by omega)
          have b3 := sumS_z (g := (sh n f)) (W := W) (hi := 255) (y := (min ((y : Int) + r + 1) H)) (x := (max ((x : Int) - r) 0)) (by omega) hg (by omega) (by omega) (by omega) (by omega)
          have i3 := idx_bd (W := W + 1) (H := H + 1) (x := (max ((x : Int) - r) 0)) (y := (min ((y : Int) + r + 1) H)) (by omega) (by omega) (by omega) (by omega)
          have e4 := sumG_z (g := (sh n f)) (W := W) (y := (max ((y : Int) - r) 0)) (x := (max ((x : Int) - r) 0)) (by omega) (by omega) (by omega) (by omega)
          have b4 := sumS_z (g := (sh n f)) (W := W) (hi := 255) (y := (max ((y : Int) - r) 0)) (x := (max ((x : Int) - r) 0)) (by omega) hg (by omega) (by omega) (by omega) (by omega)
          have i4 := idx_bd (W := W + 1) (H := H + 1) (x := (max ((x : Int) - r) 0)) (y := (max ((y : Int) - r) 0)) (by omega) (by omega) (by omega) (by omega)
          have hbx := blur_box (H := H) e1 e2 e3 e4
          have hub : 0 ≤ boxAt (sh n f) W H x y r r ∧ boxAt (sh n f) W H x y r r ≤ 255 * ((2 * r + 1) * (2 * r + 1)) := box_up hg (by omega) (by omega) (by omega) (by omega) (by omega) (by omega)
          refine gc_skip ?_
          refine gq_next ?_
          refine gc_seq ?_
          refine gc_block ?_
          refine gc_seq ?_
          refine gc_region ?_
          refine ne (eo_mv rfl rfl) rfl ?_
          refine ne (eo_as rfl rfl) rfl ?_
          refine go_nil ?_
          refine gq_next ?_
          refine gc_seq ?_
          refine gc_draw [] [0, 1, 2, 3, 4, 5, 6, 7, 8, 9, 10, 11, 12] [] [] (by kernel_rfl) (by kernel_rfl) ?_
          refine gp_nil ?_
          refine de rfl (eo_mv rfl rfl) rfl ?_
          refine de rfl (eo_mv rfl rfl) rfl ?_
          refine de rfl (eo_sub rfl rfl rfl (by omega) (by omega)) rfl ?_
          refine de rfl (eo_max rfl rfl rfl) rfl ?_
          refine de rfl (eo_mv rfl rfl) rfl ?_
          refine de rfl (eo_mv rfl rfl) rfl ?_
          refine de rfl (eo_add rfl rfl rfl (by omega) (by omega)) rfl ?_
          refine de rfl (eo_add rfl rfl rfl (by omega) (by omega)) rfl ?_
          refine de rfl (eo_field rfl f24_0 rfl) rfl ?_
          refine de rfl (eo_load 4 rfl s3 rfl rfl rfl rfl) rfl ?_
          refine de rfl (eo_min rfl rfl rfl) rfl ?_
          refine de rfl (eo_as rfl rfl) rfl ?_
          refine de rfl (eo_as rfl rfl) rfl ?_
          refine ge_nil ?_
          refine ga_nil ?_
          refine gi_nil ?_
          refine gq_nq ?_
          refine gq_next ?_
          refine gc_seq ?_
          refine gc_draw [] [0, 1, 2, 3, 4, 5, 6, 7, 8, 9, 10, 11, 12, 13, 14, 15, 16, 17, 18, 19, 20, 21, 22, 23, 24, 25, 26, 27, 28, 29, 30, 31, 32, 33, 34, 35] [] [] (by kernel_rfl) (by kernel_rfl) ?_
          refine gp_nil ?_
          refine de rfl (eo_mv rfl rfl) rfl ?_
          refine de rfl (eo_mv rfl rfl) rfl ?_
          refine de rfl (eo_mv rfl rfl) rfl ?_
          refine de rfl (eo_mul rfl rfl rfl (by omega) (by omega)) rfl ?_
          refine de rfl (eo_mv rfl rfl) rfl ?_
          refine de rfl (eo_add rfl rfl rfl (by omega) (by omega)) rfl ?_
          refine de rfl (eo_index0 rfl sl41 rfl rfl (by omega) (by omega)) rfl ?_
          refine de rfl (eo_geti 2 rfl s3 rfl rfl (by omega)) rfl ?_
          refine de rfl (eo_mv rfl rfl) rfl ?_
          refine de rfl (eo_mv rfl rfl) rfl ?_
          refine de rfl (eo_mv rfl rfl) rfl ?_
          refine de rfl (eo_mul rfl rfl rfl (by omega) (by omega)) rfl ?_
          refine de rfl (eo_mv rfl rfl) rfl ?_
          refine de rfl (eo_add rfl rfl rfl (by omega) (by omega)) rfl ?_
          refine de rfl (eo_index0 rfl sl41 rfl rfl (by omega) (by omega)) rfl ?_
          refine de rfl (eo_geti 2 rfl s3 rfl rfl (by omega)) rfl ?_
          refine de rfl (eo_sub rfl rfl rfl (by omega) (by omega)) rfl ?_
          refine de rfl (eo_mv rfl rfl) rfl ?_
          refine de rfl (eo_mv rfl rfl) rfl ?_
          refine de rfl (eo_mv rfl rfl) rfl ?_
          refine de rfl (eo_mul rfl rfl rfl (by omega) (by omega)) rfl ?_
          refine de rfl (eo_mv rfl rfl) rfl ?_
          refine de rfl (eo_add rfl rfl rfl (by omega) (by omega)) rfl ?_
          refine de rfl (eo_index0 rfl sl41 rfl rfl (by omega) (by omega)) rfl ?_
          refine de rfl (eo_geti 2 rfl s3 rfl rfl (by omega)) rfl ?_
          refine de rfl (eo_sub rfl rfl rfl (by omega) (by omega)) rfl ?_
          refine de rfl (eo_mv rfl rfl) rfl ?_
          refine de rfl (eo_mv rfl rfl) rfl ?_
          refine de rfl (eo_mv rfl rfl) rfl ?_
          refine de rfl (eo_mul rfl rfl rfl (by omega) (by omega)) rfl ?_
          refine de rfl (eo_mv rfl rfl) rfl ?_
          refine de rfl (eo_add rfl rfl rfl (by omega) (by omega)) rfl ?_
          refine de rfl (eo_index0 rfl sl41 rfl rfl (by omega) (by omega)) rfl ?_
          refine de rfl (eo_geti 2 rfl s3 rfl rfl (by omega)) rfl ?_
          refine de rfl (eo_add rfl rfl rfl (by omega) (by omega)) rfl ?_
          refine de rfl (eo_as rfl rfl) rfl ?_
          refine ge_nil ?_
          refine ga_nil ?_
          refine gi_nil ?_
          refine gq_nq ?_
          refine gq_next ?_
          refine gc_seq ?_
          refine gc_region ?_
          refine ne (eo_mv rfl rfl) rfl ?_
          refine ne (eo_mul rfl rfl rfl (by omega) (by omega)) rfl ?_
          refine ne (eo_mv rfl rfl) rfl ?_
          refine ne (eo_sub rfl rfl rfl (by omega) (by omega)) rfl ?_
          refine ne (eo_as rfl rfl) rfl ?_
          refine go_nil ?_
          refine gq_next ?_
          refine gc_draw [] [0, 1, 2, 3, 4, 5, 6, 7, 8, 9, 10, 11, 12, 13, 14, 15, 16] [] [17] (by kernel_rfl) (by kernel_rfl) ?_
          refine gp_nil ?_
          refine de rfl (eo_field rfl f24_2 rfl) rfl ?_
          refine de rfl (eo_load 0 rfl s22 rfl rfl rfl rfl) rfl ?_
          refine de rfl (eo_mv rfl rfl) rfl ?_
          refine de rfl (eo_field rfl f24_0 rfl) rfl ?_
          refine de rfl (eo_load 4 rfl s3 rfl rfl rfl rfl) rfl ?_
          refine de rfl (eo_mul rfl rfl rfl (by omega) (by omega)) rfl ?_
          refine de rfl (eo_mv rfl rfl) rfl ?_
          refine de rfl (eo_add rfl rfl rfl (by omega) (by omega)) rfl ?_
          refine de rfl (eo_mv rfl rfl) rfl ?_
          refine de rfl (eo_mul rfl rfl rfl (by omega) (by omega)) rfl ?_
          refine de rfl (eo_mv rfl rfl) rfl ?_
          refine de rfl (eo_add rfl rfl rfl (by omega) (by omega)) rfl ?_
          refine de rfl (eo_mv rfl rfl) rfl ?_
          refine de rfl (eo_mul rfl rfl rfl (by omega) (by omega)) rfl ?_
          refine de rfl (eo_quo rfl rfl rfl (by omega) (by omega) (by omega)) rfl ?_
          refine de rfl (eo_conv rfl rfl ⟨_, Try.underlying3⟩ Try.underlying5) rfl ?_
          refine de rfl (eo_index0 rfl sl22 rfl rfl (by omega) (by omega)) rfl ?_
          refine ge_nil ?_
          refine ga_nil ?_
          refine iu rfl (xo_seti 1 rfl s5 rfl rfl rfl (by omega)) ?_
          rintro _ _ ⟨rfl, rfl⟩
          refine gi_nil ?_
          refine gq_nq ?_
          refine gq_block_end ?_
          refine gq_next ?_
          refine gc_region ?_
          refine ne (eo_add rfl rfl rfl (by omega) (by omega)) rfl ?_
          refine ne (eo_mv rfl rfl) rfl ?_
          refine go_nil ?_
          exact round2 (x + 1) (upd f1 (((((y : Int) * W) + (x : Int))).toNat) (IntKind.u8.wrap (((2 * ((255 * (((2 * r) + 1) * ((2 * r) + 1))) - (((((sumG (sh n f) W) (((((min (((y : Int) + r) + 1) H) * (W + 1)) + (min (((x : Int) + r) + 1) W))).toNat)) - ((sumG (sh n f) W) (((((max ((y : Int) - r) 0) * (W + 1)) + (min (((x : Int) + r) + 1) W))).toNat))) - ((sumG (sh n f) W) (((((min (((y : Int) + r) + 1) H) * (W + 1)) + (max ((x : Int) - r) 0))).toNat))) + ((sumG (sh n f) W) (((((max ((y : Int) - r) 0) * (W + 1)) + (max ((x : Int) - r) 0))).toNat))))) + (((2 * r) + 1) * ((2 * r) + 1))) / (2 * (((2 * r) + 1) * ((2 * r) + 1)))))) ⟨by omega, fill_to (fill_up hI (by omega) (blur_at (by omega) (by omega) hbx)) (by push_cast; omega)⟩ (by omega) ⟨rfl, rfl, rfl, rfl, rfl, rfl, rfl, rfl, rfl, rfl, rfl, rfl, rfl, rfl, trivial⟩ (List.Sublist.refl _)
        ·
          replace hc3 := of_decide_eq_false hc3
          refine gc_exit ?_
          refine gq_then_exit ?_
          refine gq_then_exit ?_
          refine gq_block_hit ?_
          refine gq_block_end ?_
          refine gq_next ?_
          refine gc_region ?_
          refine ne (eo_add rfl rfl rfl (by omega) (by omega)) rfl ?_
          refine ne (eo_mv rfl rfl) rfl ?_
          refine go_nil ?_
          exact round2 (y + 1) f1 ⟨by omega, fill_to hI (by push_cast; rw [add1_mul]; omega)⟩ (by omega) ⟨rfl, rfl, rfl, rfl, rfl, rfl, rfl, rfl, rfl, trivial⟩ (List.Sublist.refl _)
      ·
        replace hc2 := of_decide_eq_false hc2
        refine gc_exit ?_
        refine gq_then_exit ?_
        refine gq_then_exit ?_
        refine gq_block_hit ?_
        refine gq_next ?_
        refine gc_seq ?_
        refine gc_region ?_
        refine ne (eo_loadA 0 rfl a24 rfl rfl rfl rfl) rfl ?_
        refine nu (xo_storeA 3 rfl a24 rfl rfl (ones_cons (by first | rfl | exact AS.one) (ones_cons (by first | rfl | exact AS.one) (ones_cons (by first | rfl | exact AS.one) ones_nil))) rfl rfl rfl rfl) ?_
        rintro _ _ ⟨rfl, rfl⟩
        refine ne (eo_as rfl rfl) rfl ?_
        refine go_nil ?_
        refine gq_next ?_
        refine gc_ret ?_
        refine gq_results (resCT 3 rfl a24 rfl rfl rfl rfl rfl) ?_
        exact fun W1 hO => rxi_own 1 hO rfl (blurR_ok' hv (by omega)) (fill_end hI (by rw [show (y : Int) = H by omega, Int.mul_comm H]; omega)) (by omega)

/-- barscan/barscanref43.mean -/
theorem mean_c (W H : Int) (A : Option Addr) (n c : Nat) (f : Nat → Int) (x : Int) (y : Int) (r : Int) (w : World) (hr : Rd w A (tab n (iv .u8 f))) (hv : vldB W H n = true) (hp : PixOk n f) (hx : 0 ≤ x) (hx1 : x < W) (hy : 0 ≤ y) (hy1 : y < H) (r1 : 0 ≤ r) (r2 : r ≤ 64) :
    Calls Try.prog 33 #[.agg #[.int .i64 W, .int .i64 H, .slice A n c], .int .i64 x, .int .i64 y, .int .i64 r] w (fun e w' => e = .returned (.int .u8 (meanI r (boxAt (sh n f) W H x y r r))) ∧ Ext w w') := by
  obtain ⟨v1, v2, v3, v4, v5, v6⟩ := vldB_iff.1 hv
  have v7 := vld_pos hv
  have hg := sh_bd hp
  have hsq := sq_up r1 r2
  unfold sq at hsq
  have hsa : 255 * (2 * r + 1) * (2 * r + 1) = 255 * ((2 * r + 1) * (2 * r + 1)) := Int.mul_assoc _ _ _
  have hsb : 2 * (2 * r + 1) * (2 * r + 1) = 2 * ((2 * r + 1) * (2 * r + 1)) := Int.mul_assoc _ _ _
  refine calls_enter (N := ⟨76, []⟩) [] ([]) Try.func33 rfl rfl rfl (Ow.start _) ?_
  refine gc_seq ?_
  refine gc_region ?_
  refine nx (xo_boxA rfl rfl) rfl ?_
  rintro _ _ ⟨g4, rfl, rfl⟩
  refine ne (eo_as rfl rfl) rfl ?_
  refine go_nil ?_
  refine gq_next ?_
  refine gc_seq ?_
  refine gc_region ?_
  refine ne (eo_mv rfl rfl) rfl ?_
  refine ne (eo_mul rfl rfl rfl (by omega) (by omega)) rfl ?_
  refine ne (eo_add rfl rfl rfl (by omega) (by omega)) rfl ?_
  refine ne (eo_as rfl rfl) rfl ?_
  refine go_nil ?_
  refine gq_next ?_
  refine gc_seq ?_
  refine gc_region ?_
  refine ne (eo_mv rfl rfl) rfl ?_
  refine ne (eo_mul rfl rfl rfl (by omega) (by omega)) rfl ?_
  refine ne (eo_mv rfl rfl) rfl ?_
  refine ne (eo_mul rfl rfl rfl (by omega) (by omega)) rfl ?_
  refine ne (eo_as rfl rfl) rfl ?_
  refine go_nil ?_
  refine gq_next ?_
  refine gc_seq ?_
  refine gc_seq ?_
  refine gc_region ?_
  refine ne (eo_mv rfl rfl) rfl ?_
  refine ne (eo_mv rfl rfl) rfl ?_
  refine ne (eo_sub rfl rfl rfl (by omega) (by omega)) rfl ?_
  refine ne (eo_max rfl rfl rfl) rfl ?_
  refine ne (eo_as rfl rfl) rfl ?_
  refine go_nil ?_
  refine gq_next ?_
  refine gc_block ?_
  refine loop2 (fun (j : Int) (s : Int) => (max 0 (y - r)) ≤ j ∧ j ≤ (max (max 0 (y - r)) (min (H - 1) (y + r) + 1)) ∧ s = 255 * (2 * r + 1) * (2 * r + 1) - boxS (sh n f) W (max 0 (y - r)).toNat j.toNat (max 0 (x - r)).toNat (max (max 0 (x - r)) (min (W - 1) (x + r) + 1)).toNat) (fun (j : Int) (s : Int) => ((max (max 0 (y - r)) (min (H - 1) (y + r) + 1)) - j).toNat) (fun (j : Int) (s : Int) => [(1, .int .i64 x), (2, .int .i64 y), (3, .int .i64 r), (4, .pointer (some ⟨g4, 0, none⟩)), (9, .int .i64 ((2 * r) + 1)), (10, .int .i64 s), (11, .int .i64 j)]) (fun (j : Int) (s : Int) => [⟨g4, 24, [.int .i64 W, .int .i64 H, .slice A n c]⟩]) (max 0 (y - r)) ((255 * ((2 * r) + 1)) * ((2 * r) + 1)) ⟨by omega, by omega, by rw [boxS_nil]; omega⟩ ⟨rfl, rfl, rfl, rfl, rfl, rfl, rfl, trivial⟩ (List.Sublist.refl _) ?_
  rintro j s ⟨hj0, hj1, hs⟩
  have hjb := box_up (W := W) (A := 2 * r + 1) (B := 2 * r + 1) hg (t := (max 0 (y - r))) (b := j) (l := (max 0 (x - r))) (r := (max (max 0 (x - r)) (min (W - 1) (x + r) + 1))) (by omega) (by omega) (by omega) (by omega) (by omega) (by omega)
  refine gc_seq ?_
  refine gc_seq ?_
  refine gc_region ?_
  refine ne (eo_mv rfl rfl) rfl ?_
  refine ne (eo_field rfl f24_1 rfl) rfl ?_
  refine ne (eo_load 0 rfl s3 rfl rfl rfl rfl) rfl ?_
  refine ne (eo_sub rfl rfl rfl (by omega) (by omega)) rfl ?_
  refine ne (eo_mv rfl rfl) rfl ?_
  refine ne (eo_mv rfl rfl) rfl ?_
  refine ne (eo_add rfl rfl rfl (by omega) (by omega)) rfl ?_
  refine ne (eo_min rfl rfl rfl) rfl ?_
  refine ne (eo_leq rfl rfl rfl) rfl ?_
  refine go_nil ?_
  refine gq_next ?_
  refine gc_cond rfl (fun hc0 => ?_) (fun hc0 => ?_)
  ·
    replace hc0 := of_decide_eq_true hc0
    refine gc_skip ?_
    refine gq_next ?_
    refine gc_seq ?_
    refine gc_block ?_
    refine gc_seq ?_
    refine gc_region ?_
    refine ne (eo_mv rfl rfl) rfl ?_
    refine ne (eo_mv rfl rfl) rfl ?_
    refine ne (eo_sub rfl rfl rfl (by omega) (by omega)) rfl ?_
    refine ne (eo_max rfl rfl rfl) rfl ?_
    refine ne (eo_as rfl rfl) rfl ?_
    refine go_nil ?_
    refine gq_next ?_
    refine gc_block ?_
    refine loop2 (fun (i : Int) (s : Int) => (max 0 (x - r)) ≤ i ∧ i ≤ (max (max 0 (x - r)) (min (W - 1) (x + r) + 1)) ∧ s = 255 * (2 * r + 1) * (2 * r + 1) - (boxS (sh n f) W (max 0 (y - r)).toNat j.toNat (max 0 (x - r)).toNat (max (max 0 (x - r)) (min (W - 1) (x + r) + 1)).toNat + (rowS (sh n f) W j.toNat i.toNat - rowS (sh n f) W j.toNat (max 0 (x - r)).toNat))) (fun (i : Int) (s : Int) => ((max (max 0 (x - r)) (min (W - 1) (x + r) + 1)) - i).toNat) (fun (i : Int) (s : Int) => [(1, .int .i64 x), (2, .int .i64 y), (3, .int .i64 r), (4, .pointer (some ⟨g4, 0, none⟩)), (9, .int .i64 ((2 * r) + 1)), (10, .int .i64 s), (11, .int .i64 j), (12, .int .i64 i)]) (fun (i : Int) (s : Int) => [⟨g4, 24, [.int .i64 W, .int .i64 H, .slice A n c]⟩]) (max 0 (x - r)) s ⟨by omega, by omega, by rw [hs]; omega⟩ ⟨rfl, rfl, rfl, rfl, rfl, rfl, rfl, rfl, trivial⟩ (List.Sublist.refl _) ?_
    rintro i s ⟨hi0, hi1, hs⟩
    have hr1 := row255 (W := W) (y := j.toNat) (x := i.toNat) hg (by omega)
    have hr2 := row255 (W := W) (y := j.toNat) (x := (max 0 (x - r)).toNat) hg (by omega)
    refine gc_seq ?_
    refine gc_seq ?_
    refine gc_region ?_
    refine ne (eo_mv rfl rfl) rfl ?_
    refine ne (eo_field rfl f24_0 rfl) rfl ?_
    refine ne (eo_load 0 rfl s3 rfl rfl rfl rfl) rfl ?_
    refine ne (eo_sub rfl rfl rfl (by omega) (by omega)) rfl ?_
    refine ne (eo_mv rfl rfl) rfl ?_
    refine ne (eo_mv rfl rfl) rfl ?_
    refine ne (eo_add rfl rfl rfl (by omega) (by omega)) rfl ?_
    refine ne (eo_min rfl rfl rfl) rfl ?_
    refine ne (eo_leq rfl rfl rfl) rfl ?_
    refine go_nil ?_
    refine gq_next ?_
    refine gc_cond rfl (fun hc1 => ?_) (fun hc1 => ?_)
    ·
      replace hc1 := of_decide_eq_true hc1
      have hb0 := idx_bd (W := W) (H := H) (x := i) (y := j) (by omega) (by omega) (by omega) (by omega)
      have hpx := hp (j * W + i).toNat (by omega)
      have hsh := sh_in (f := f) (n := n) (i := (j * W + i).toNat) (by omega)
      refine gc_skip ?_
      refine gq_next ?_
      refine gc_seq ?_
      refine gc_block ?_
      refine gc_region ?_
      refine ne (eo_mv rfl rfl) rfl ?_
      refine ne (eo_sub rfl rfl rfl (by omega) (by omega)) rfl ?_
      refine ne (eo_field rfl f24_2 rfl) rfl ?_
      refine ne (eo_load 0 rfl s22 rfl rfl rfl rfl) rfl ?_
      refine ne (eo_mv rfl rfl) rfl ?_
      refine ne (eo_field rfl f24_0 rfl) rfl ?_
      refine ne (eo_load 0 rfl s3 rfl rfl rfl rfl) rfl ?_
      refine ne (eo_mul rfl rfl rfl (by omega) (by omega)) rfl ?_
      refine ne (eo_mv rfl rfl) rfl ?_
      refine ne (eo_add rfl rfl rfl (by omega) (by omega)) rfl ?_
      refine ne (eo_indexR rfl sl22 rfl rfl hr (by simp) (by omega) (by omega)) rfl ?_
      refine ne (eo_load_old rfl s5 rfl (Rd.tabi hr (by omega)) (by simp)) rfl ?_
      refine ne (eo_convi rfl rfl ⟨_, Try.underlying5⟩ Try.underlying3 (by omega) (by omega)) rfl ?_
      refine ne (eo_add rfl rfl rfl (by omega) (by omega)) rfl ?_
      refine ne (eo_as rfl rfl) rfl ?_
      refine go_nil ?_
      refine gq_block_end ?_
      refine gq_next ?_
      refine gc_region ?_
      refine ne (eo_mv rfl rfl) rfl ?_
      refine ne (eo_add rfl rfl rfl (by omega) (by omega)) rfl ?_
      refine ne (eo_as rfl rfl) rfl ?_
      refine go_nil ?_
      exact round2 (i + 1) ((s - 255) + (f ((((j * W) + i)).toNat))) ⟨by omega, by omega, by rw [cnt_step (l := 0) (by omega) (by omega), hsh, hs]; omega⟩ (by omega) ⟨rfl, rfl, rfl, rfl, rfl, rfl, rfl, rfl, trivial⟩ (List.Sublist.refl _)
    ·
      replace hc1 := of_decide_eq_false hc1
      refine gc_exit ?_
      refine gq_then_exit ?_
      refine gq_then_exit ?_
      refine gq_block_hit ?_
      refine gq_block_end ?_
      refine gq_next ?_
      refine gc_region ?_
      refine ne (eo_mv rfl rfl) rfl ?_
      refine ne (eo_add rfl rfl rfl (by omega) (by omega)) rfl ?_
      refine ne (eo_as rfl rfl) rfl ?_
      refine go_nil ?_
      exact round2 (j + 1) s ⟨by omega, by omega, by rw [cnt_row (by omega), hs, show i = (max (max 0 (x - r)) (min (W - 1) (x + r) + 1)) by omega]⟩ (by omega) ⟨rfl, rfl, rfl, rfl, rfl, rfl, rfl, trivial⟩ (List.Sublist.refl _)
  ·
    replace hc0 := of_decide_eq_false hc0
    have hje : j = (max (max 0 (y - r)) (min (H - 1) (y + r) + 1)) := by omega
    have hcw := cntW_box (g := sh n f) (W := W) (H := H) (x := x) (y := y) (r := r) hx hx1 hy hy1 r1
    unfold cntW at hcw
    rw [← hje] at hcw
    refine gc_exit ?_
    refine gq_then_exit ?_
    refine gq_then_exit ?_
    refine gq_block_hit ?_
    refine gq_next ?_
    refine gc_seq ?_
    refine gc_region ?_
    refine ne (eo_mv rfl rfl) rfl ?_
    refine ne (eo_mul rfl rfl rfl (by omega) (by omega)) rfl ?_
    refine ne (eo_mv rfl rfl) rfl ?_
    refine ne (eo_mv rfl rfl) rfl ?_
    refine ne (eo_mul rfl rfl rfl (by omega) (by omega)) rfl ?_
    refine ne (eo_add rfl rfl rfl (by omega) (by omega)) rfl ?_
    refine ne (eo_mv rfl rfl) rfl ?_
    refine ne (eo_mul rfl rfl rfl (by omega) (by omega)) rfl ?_
    refine ne (eo_mv rfl rfl) rfl ?_
    refine ne (eo_mul rfl rfl rfl (by omega) (by omega)) rfl ?_
    refine ne (eo_quo rfl rfl rfl (by omega) (by omega) (by omega)) rfl ?_
    refine ne (eo_conv rfl rfl ⟨_, Try.underlying3⟩ Try.underlying5) rfl ?_
    refine ne (eo_as rfl rfl) rfl ?_
    refine go_nil ?_
    refine gq_next ?_
    refine gc_ret ?_
    refine gq_results (res1 rfl rfl) ?_
    exact fun W1 hO => ⟨ret_int (by unfold meanI sq; rw [hs, hcw, hsa, hsb]), hO.toExt⟩

/-- barscan/barscanref43.Blur -/
theorem rblur_x (W H : Int) (A : Option Addr) (n c : Nat) (f : Nat → Int) (r : Int) (w : World) (hr : Rd w A (tab n (iv .u8 f))) (hp : PixOk n f) :
    Calls Try.prog 12 #[.agg #[.int .i64 W, .int .i64 H, .slice A n c], .int .i64 r] w (fun e w' => ∃ v Hn, e = .returned v ∧ RXi (blurR ⟨W, H, n, f⟩ r) v Hn ∧ Ow [] w w' Hn) := by
  refine calls_enter (N := ⟨48, []⟩) [] ([]) Try.func12 rfl rfl rfl (Ow.start _) ?_
  refine gc_seq ?_
  refine gc_region ?_
  refine nx (xo_boxA rfl rfl) rfl ?_
  rintro _ _ ⟨g2, rfl, rfl⟩
  refine nx (xo_alloc rfl z24) rfl ?_
  rintro _ _ ⟨g4, rfl, rfl⟩
  refine ne (eo_as rfl rfl) rfl ?_
  refine go_nil ?_
  refine gq_next ?_
  refine gc_seq ?_
  refine gc_seq ?_
  refine gc_region ?_
  refine ne (eo_loadA 1 rfl a24 rfl rfl rfl rfl) rfl ?_
  refine ne (eo_call rfl en32 rfl (fun W1 hO => validim_c _ _ _ _ _ W1  )) rfl ?_
  refine ne (eo_not rfl rfl) rfl ?_
  refine go_nil ?_
  refine gq_next ?_
  refine gc_cond rfl (fun hc0 => ?_) (fun hc0 => ?_)
  ·
    have hd0 := (not_t hc0)
    have hv := not_t hc0
    refine gc_seq ?_
    refine gc_region ?_
    refine ne (eo_build rfl rfl (b24_)) rfl ?_
    refine nu (xo_storeA 0 rfl a24 rfl rfl (ones_cons (by first | rfl | exact AS.one) (ones_cons (by first | rfl | exact AS.one) (ones_cons (by first | rfl | exact AS.one) ones_nil))) rfl rfl rfl rfl) ?_
    rintro _ _ ⟨rfl, rfl⟩
    refine ne (eo_as rfl rfl) rfl ?_
    refine go_nil ?_
    refine gq_next ?_
    refine gc_ret ?_
    refine gq_then_ret ?_
    refine gq_results (resCT 0 rfl a24 rfl rfl rfl rfl rfl) ?_
    exact fun W1 hO => rxi_nil hO (blurR_no hv)
  ·
    have hd0 := (not_f hc0)
    have hv := not_f hc0
    obtain ⟨v1, v2, v3, v4, v5, v6⟩ := vldB_iff.1 hv
    have v7 := vld_pos hv
    refine gc_skip ?_
    refine gq_next ?_
    refine gc_seq ?_
    refine gc_seq ?_
    refine gc_region ?_
    refine ne (eo_mv rfl rfl) rfl ?_
    refine ne (eo_lss rfl rfl rfl) rfl ?_
    refine ne (eo_mv rfl rfl) rfl ?_
    refine ng rfl rfl (fun h => eo_mv rfl rfl) rfl ?_
    refine ng rfl rfl (fun h => eo_gtr rfl (ev_if h rfl) rfl) rfl ?_
    refine ne (eo_or rfl rfl (fun hb => ev_if hb rfl)) rfl ?_
    refine go_nil ?_
    refine gq_next ?_
    refine gc_cond rfl (fun hc1 => ?_) (fun hc1 => ?_)
    ·
      have hd1 := (or_t hc1).imp (fun h => of_decide_eq_true h) (fun h => of_decide_eq_true h)
      refine gc_seq ?_
      refine gc_region ?_
      refine ne (eo_build rfl rfl (b24_)) rfl ?_
      refine nu (xo_storeA 0 rfl a24 rfl rfl (ones_cons (by first | rfl | exact AS.one) (ones_cons (by first | rfl | exact AS.one) (ones_cons (by first | rfl | exact AS.one) ones_nil))) rfl rfl rfl rfl) ?_
      rintro _ _ ⟨rfl, rfl⟩
      refine ne (eo_as rfl rfl) rfl ?_
      refine go_nil ?_
      refine gq_next ?_
      refine gc_ret ?_
      refine gq_then_ret ?_
      refine gq_results (resCT 0 rfl a24 rfl rfl rfl rfl rfl) ?_
      exact fun W1 hO => rxi_nil hO (blurR_range hv (by omega))
    ·
      have hd1 := (or_f hc1).imp (fun h => of_decide_eq_false h) (fun h => of_decide_eq_false h)
      refine gc_skip ?_
      refine gq_next ?_
      refine gc_seq ?_
      refine gc_region ?_
      refine ne (eo_field rfl f24_0 rfl) rfl ?_
      refine ne (eo_load 1 rfl s3 rfl rfl rfl rfl) rfl ?_
      refine ne (eo_field rfl f24_1 rfl) rfl ?_
      refine ne (eo_load 1 rfl s3 rfl rfl rfl rfl) rfl ?_
      refine ne (eo_build rfl rfl (b24_01 _ _)) rfl ?_
      refine nx (xo_alloc rfl z24) rfl ?_
      rintro _ _ ⟨g6, rfl, rfl⟩
      refine nu (xo_storeA 0 rfl a24 rfl rfl (ones_cons (by first | rfl | exact AS.one) (ones_cons (by first | rfl | exact AS.one) (ones_cons (by first | rfl | exact AS.one) ones_nil))) rfl rfl rfl rfl) ?_
      rintro _ _ ⟨rfl, rfl⟩
      refine go_nil ?_
      refine gq_next ?_
      refine gc_seq ?_
      refine gc_seq ?_
      refine gc_region ?_
      refine ne (eo_as rfl rfl) rfl ?_
      refine go_nil ?_
      refine gq_next ?_
      refine gc_block ?_
      refine loop2 (fun (k : Nat) (s : AS) => k ≤ n ∧ s.Ok 1 k (tab k (iv .u8 (blurF ⟨W, H, n, f⟩ r)))) (fun (k : Nat) (s : AS) => n - k) (fun (k : Nat) (s : AS) => [(1, .int .i64 r), (2, .pointer (some ⟨g2, 0, none⟩)), (4, .pointer (some ⟨g4, 0, none⟩)), (6, .pointer (some ⟨g6, 0, none⟩)), (7, .int .i64 (k : Int))]) (fun (k : Nat) (s : AS) => ⟨g6, 24, [.int .i64 W, .int .i64 H, s.val k]⟩ :: ⟨g4, 24, [.int .i64 0, .int .i64 0, .slice none 0 0]⟩ :: ⟨g2, 24, [.int .i64 W, .int .i64 H, .slice A n c]⟩ :: s.blks 5 (tab k (iv .u8 (blurF ⟨W, H, n, f⟩ r)))) 0 .nil ⟨by omega, AS.Ok0⟩ ⟨rfl, rfl, rfl, rfl, rfl, trivial⟩ (List.Sublist.refl _) ?_
      rintro k s ⟨hk, hs⟩
      refine gc_seq ?_
      refine gc_seq ?_
      refine gc_region ?_
      refine ne (eo_mv rfl rfl) rfl ?_
      refine ne (eo_field rfl f24_2 rfl) rfl ?_
      refine ne (eo_load 2 rfl s22 rfl rfl rfl rfl) rfl ?_
      refine ne (eo_len rfl Try.underlying22 rfl) rfl ?_
      refine ne (eo_lss rfl rfl rfl) rfl ?_
      refine go_nil ?_
      refine gq_next ?_
      refine gc_cond rfl (fun hc2 => ?_) (fun hc2 => ?_)
      ·
        replace hc2 := of_decide_eq_true hc2
        have hcb := cell_bd hv (show k < n by omega)
        refine gc_skip ?_
        refine gq_next ?_
        refine gc_seq ?_
        refine gc_block ?_
        refine gc_draw [] [0, 1, 2, 3, 4, 5, 6, 7, 8, 9, 10, 11, 12] [13] [14, 15, 16] (by kernel_rfl) (by kernel_rfl) ?_
        refine gp_nil ?_
        refine de rfl (eo_field rfl f24_2 rfl) rfl ?_
        refine de rfl (eo_load 0 rfl s22 rfl rfl rfl rfl) rfl ?_
        refine de rfl (eo_loadA 2 rfl a24 rfl rfl rfl rfl) rfl ?_
        refine de rfl (eo_mv rfl rfl) rfl ?_
        refine de rfl (eo_field rfl f24_0 rfl) rfl ?_
        refine de rfl (eo_load 2 rfl s3 rfl rfl rfl rfl) rfl ?_
        refine de rfl (eo_rem rfl rfl rfl (by omega) (by omega)) rfl ?_
        refine de rfl (eo_mv rfl rfl) rfl ?_
        refine de rfl (eo_field rfl f24_0 rfl) rfl ?_
        refine de rfl (eo_load 2 rfl s3 rfl rfl rfl rfl) rfl ?_
        refine de rfl (eo_quo rfl rfl rfl (by omega) (by omega) (by omega)) rfl ?_
        refine de rfl (eo_mv rfl rfl) rfl ?_
        refine de rfl (eo_call rfl en33 rfl (fun W1 hO => mean_c _ _ _ _ _ _ _ _ _ W1 (hr.old0 hO) (by assumption) (by assumption) (by omega) (by omega) (by omega) (by omega) (by omega) (by omega))) rfl ?_
        refine ge_nil ?_
        refine da rfl (xo_lit1 rfl Try.underlying22 e5 rfl (by first | rfl | exact AS.one)) rfl ?_
        rintro _ _ ⟨g44, rfl, rfl⟩
        refine ⟨by first | exact (List.Sublist.cons _ (List.Sublist.refl _)) | exact (List.sublist_append_left _ _), ?_⟩
        refine ga_nil ?_
        refine ix rfl (xo_app1i 4 rfl rfl Try.underlying22 e5 rfl hs rfl rfl rfl (by omega) (by decide)) rfl ?_
        rintro _ _ ⟨s45, hs45, rfl, rfl⟩
        refine ie rfl (eo_field rfl f24_2 rfl) rfl ?_
        refine iu rfl (xo_store 1 rfl s22 rfl rfl (by first | rfl | exact AS.one) rfl rfl (by simp)) ?_
        rintro _ _ ⟨rfl, rfl⟩
        refine gi_nil ?_
        refine gq_nq ?_
        refine gq_block_end ?_
        refine gq_next ?_
        refine gc_region ?_
        refine ne (eo_mv rfl rfl) rfl ?_
        refine ne (eo_add rfl rfl rfl (by omega) (by omega)) rfl ?_
        refine ne (eo_as rfl rfl) rfl ?_
        refine go_nil ?_
        exact round2 (k + 1) s45 ⟨by omega, hs45⟩ (by omega) ⟨rfl, rfl, rfl, rfl, rfl, trivial⟩ (List.Sublist.cons _ (List.Sublist.refl _))
      ·
        replace hc2 := of_decide_eq_false hc2
        refine gc_exit ?_
        refine gq_then_exit ?_
        refine gq_then_exit ?_
        refine gq_block_hit ?_
        refine gq_next ?_
        refine gc_seq ?_
        refine gc_region ?_
        refine ne (eo_loadA 0 rfl a24 rfl rfl rfl rfl) rfl ?_
        refine nu (xo_storeA 1 rfl a24 rfl rfl (ones_cons (by first | rfl | exact AS.one) (ones_cons (by first | rfl | exact AS.one) (ones_cons (by first | rfl | exact AS.one) ones_nil))) rfl rfl rfl rfl) ?_
        rintro _ _ ⟨rfl, rfl⟩
        refine ne (eo_as rfl rfl) rfl ?_
        refine go_nil ?_
        refine gq_next ?_
        refine gc_ret ?_
        refine gq_results (resCT 1 rfl a24 rfl rfl rfl rfl rfl) ?_
        have hkn : n = k := by omega
        subst hkn
        exact fun W1 hO => rxi_as 3 hO rfl hs (blurR_ok hv (by omega))

end Go.Proofs.Ytibooikbbcilcaa
