/-
  The walks of the functions of package raster and of the document's answer (part H): what each call returns, at every argument.
-/
import Derived.Test.YtefblgildcaldaaWF
import Derived.Test.YtefblgildcaldaaPc
namespace Go.Proofs.Ytefblgildcaldaa
open Go.RowKit Go.Eng

open Go.Bs
theorem b55_01 (x0 : Int) (x1 : Int) (W : World) : (Instr.build 55 #[(0, .int .i64 x0), (1, .int .i64 x1)]).run Try.prog W = .ok (.agg #[.int .i64 x0, .int .i64 x1, .slice none 0 0]) W := by kernel_rfl
theorem en56 : Ent Try.prog 56 := ent_of Try.func56 (by kernel_rfl) rfl
theorem en60 : Ent Try.prog 60 := ent_of Try.func60 (by kernel_rfl) rfl
theorem en61 : Ent Try.prog 61 := ent_of Try.func61 (by kernel_rfl) rfl

theorem turn_x (W H : Int) (A : Option Addr) (n c : Nat) (f : Nat → Bool) (t : Int) (w : World) (hr : Rd w A (tab n (bv f))) :
    Calls Try.prog 24 #[.agg #[.int .i64 W, .int .i64 H, .slice A n c], .int .i64 t] w (fun e w' => ∃ v Hn, e = .returned v ∧ RX (turnR ⟨W, H, n, f⟩ t) v Hn ∧ Ow [] w w' Hn) :=
  rx_of (vldB W H n) (fun hv => turn_ok t W H A n c f w hr hv) (fun hv => turn_no t W H A n c f w hr hv) (fun hv => turnR_ok hv) (fun hv => turnR_no hv)

theorem turnim_x (W H : Int) (A : Option Addr) (n c : Nat) (f : Nat → Int) (t : Int) (w : World) (hr : Rd w A (tab n (iv .u8 f))) :
    Calls Try.prog 40 #[.agg #[.int .i64 W, .int .i64 H, .slice A n c], .int .i64 t] w (fun e w' => ∃ v Hn, e = .returned v ∧ RXi (turnRi ⟨W, H, n, f⟩ t) v Hn ∧ Ow [] w w' Hn) :=
  rxi_of (vldB W H n) (fun hv => turnim_ok t W H A n c f w hr hv) (fun hv => turnim_no t W H A n c f w hr hv) (fun hv => turnRi_ok hv) (fun hv => turnRi_no hv)

/-- barscan/raster.Gray -/
theorem gray_x (W H : Int) (A : Option Addr) (n c : Nat) (f : Nat → Bool) (w : World) (hr : Rd w A (tab n (bv f)))  :
    Calls Try.prog 43 #[.agg #[.int .i64 W, .int .i64 H, .slice A n c]] w (fun e w' => ∃ v Hn, e = .returned v ∧ RXi (grayR ⟨W, H, n, f⟩) v Hn ∧ Ow [] w w' Hn) := by
  refine calls_enter (N := ⟨39, []⟩) [] ([]) Try.func43 rfl rfl rfl (Ow.start _) ?_
  refine gc_seq ?_
  refine gc_region ?_
  refine nx (xo_boxA rfl rfl) rfl ?_
  rintro _ _ ⟨g1, rfl, rfl⟩
  refine nx (xo_alloc rfl z55) rfl ?_
  rintro _ _ ⟨g2, rfl, rfl⟩
  refine ne (eo_as rfl rfl) rfl ?_
  refine go_nil ?_
  refine gq_next ?_
  refine gc_seq ?_
  refine gc_seq ?_
  refine gc_region ?_
  refine ne (eo_loadA 1 rfl a24 rfl rfl rfl rfl) rfl ?_
  refine ne (eo_call rfl en23 rfl (fun W1 hO => check_c _ _ _ _ _ W1  )) rfl ?_
  refine ne (eo_as rfl rfl) rfl ?_
  refine go_nil ?_
  refine gq_next ?_
  refine gc_seq ?_
  refine gc_region ?_
  refine ne (eo_mv rfl rfl) rfl ?_
  refine ne (eo_neq rfl rfl rfl) rfl ?_
  refine go_nil ?_
  refine gq_next ?_
  refine gc_cond rfl (fun hc0 => ?_) (fun hc0 => ?_)
  ·
    replace hc0 := of_decide_eq_true hc0
    have hv := chk_f hc0
    refine gc_seq ?_
    refine gc_region ?_
    refine ne (eo_build rfl rfl (b55_)) rfl ?_
    refine ne (eo_mv rfl rfl) rfl ?_
    refine nu (xo_storeA 0 rfl a55 rfl rfl (ones_cons (by first | rfl | exact AS.one) (ones_cons (by first | rfl | exact AS.one) (ones_cons (by first | rfl | exact AS.one) ones_nil))) rfl rfl rfl rfl) ?_
    rintro _ _ ⟨rfl, rfl⟩
    refine ne (eo_as rfl rfl) rfl ?_
    refine go_nil ?_
    refine gq_next ?_
    refine gc_ret ?_
    refine gq_then_ret ?_
    refine gq_results (resCT 0 rfl a55 rfl rfl rfl rfl rfl) ?_
    exact fun W1 hO => rxi_nil hO (by rw [chk_no hv]; exact grayR_no hv)
  ·
    replace hc0 := of_decide_eq_false hc0
    have hv := chk_t hc0
    obtain ⟨v1, v2, v3, v4, v5, v6⟩ := vldB_iff.1 hv
    have v7 := vld_pos hv
    refine gc_skip ?_
    refine gq_next ?_
    refine gc_seq ?_
    refine gc_draw_new (i := 9) (d := 5) [] [0, 1, 2, 3, 4, 5, 6] [7, 8] [10] (by kernel_rfl) (by kernel_rfl) rfl z55 rfl ?_
    refine gp_nil ?_
    refine de rfl (eo_field rfl f24_0 rfl) rfl ?_
    refine de rfl (eo_load 1 rfl s3 rfl rfl rfl rfl) rfl ?_
    refine de rfl (eo_field rfl f24_1 rfl) rfl ?_
    refine de rfl (eo_load 1 rfl s3 rfl rfl rfl rfl) rfl ?_
    refine de rfl (eo_field rfl f24_2 rfl) rfl ?_
    refine de rfl (eo_load 1 rfl s22 rfl rfl rfl rfl) rfl ?_
    refine de rfl (eo_len rfl Try.underlying22 rfl) rfl ?_
    refine ge_nil ?_
    refine ⟨rfl, ?_⟩
    refine da rfl (xo_makei rfl Try.underlying53 e5 rfl rfl (by omega) (by omega) (by omega)) rfl ?_
    rintro _ _ ⟨g21, rfl, rfl⟩
    refine ⟨by first | exact (List.Sublist.cons _ (List.Sublist.refl _)) | exact (List.sublist_append_left _ _), ?_⟩
    refine da rfl (xo_of_eo (eo_build rfl rfl (b55_012 _ _ _ _ _))) rfl ?_
    rintro _ _ ⟨rfl, rfl⟩
    refine ⟨by first | exact (List.Sublist.cons _ (List.Sublist.refl _)) | exact (List.sublist_append_left _ _), ?_⟩
    refine ga_nil ?_
    intro g5
    refine iu rfl (xo_storeA 0 rfl a55 rfl rfl (ones_cons (by first | rfl | exact AS.one) (ones_cons (by first | rfl | exact AS.one) (ones_cons (by first | rfl | exact AS.one) ones_nil))) rfl rfl rfl rfl) ?_
    rintro _ _ ⟨rfl, rfl⟩
    refine gi_nil ?_
    refine gq_nq ?_
    refine gq_next ?_
    refine gc_seq ?_
    refine gc_seq ?_
    refine gc_region ?_
    refine ne (eo_field rfl f24_2 rfl) rfl ?_
    refine ne (eo_load 3 rfl s22 rfl rfl rfl rfl) rfl ?_
    refine ne (eo_len rfl Try.underlying22 rfl) rfl ?_
    refine ne (eo_mv rfl rfl) rfl ?_
    refine go_nil ?_
    refine gq_next ?_
    refine gc_block ?_
    refine loop2 (fun (i : Nat) (f1 : Nat → Int) => i ≤ n ∧ ∀ j, j < n → f1 j = if j < i then grayF f j else 0) (fun (i : Nat) (f1 : Nat → Int) => n - i) (fun (i : Nat) (f1 : Nat → Int) => [(2, .pointer (some ⟨g2, 0, none⟩)), (5, .pointer (some ⟨g5, 0, none⟩)), (24, .slice A n c), (25, .int .i64 ((n : Nat) : Int)), (26, .int .i64 (i : Int))]) (fun (i : Nat) (f1 : Nat → Int) => [⟨g5, 55, [.int .i64 W, .int .i64 H, .slice (some ⟨g21, 0, none⟩) n n]⟩, ⟨g21, 5, tab n (iv .u8 f1) ++ []⟩, ⟨g2, 55, [.int .i64 0, .int .i64 0, .slice none 0 0]⟩, ⟨g1, 24, [.int .i64 W, .int .i64 H, .slice A n c]⟩]) 0 (fun _ => 0) ⟨by omega, fun j _ => by simp⟩ ⟨rfl, rfl, rfl, rfl, rfl, trivial⟩ (List.Sublist.refl _) ?_
    rintro i f1 ⟨hi, hI⟩
    refine gc_seq ?_
    refine gc_region ?_
    refine ne (eo_lss rfl rfl rfl) rfl ?_
    refine go_nil ?_
    refine gq_next ?_
    refine gc_seq ?_
    refine gc_cond rfl (fun hc1 => ?_) (fun hc1 => ?_)
    ·
      replace hc1 := of_decide_eq_true hc1
      refine gc_skip ?_
      refine gq_next ?_
      refine gc_seq ?_
      refine gc_block ?_
      refine gc_seq ?_
      refine gc_region ?_
      refine ne (eo_mv rfl rfl) rfl ?_
      refine ne (eo_indexR rfl sl22 rfl rfl hr (by simp) (by omega) (by omega)) rfl ?_
      refine ne (eo_load_old rfl s4 rfl (Rd.tabb hr (by omega)) (by simp)) rfl ?_
      refine ne (eo_as rfl rfl) rfl ?_
      refine ne (eo_as rfl rfl) rfl ?_
      refine go_nil ?_
      refine gq_next ?_
      refine gc_seq ?_
      refine gc_region ?_
      refine ne (eo_mv rfl rfl) rfl ?_
      refine ne (eo_not rfl rfl) rfl ?_
      refine go_nil ?_
      refine gq_next ?_
      refine gc_cond rfl (fun hc2 => ?_) (fun hc2 => ?_)
      ·
        have hd2 := (not_t hc2)
        refine gc_region ?_
        refine ne (eo_field rfl f55_2 rfl) rfl ?_
        refine ne (eo_load 0 rfl s53 rfl rfl rfl rfl) rfl ?_
        refine ne (eo_mv rfl rfl) rfl ?_
        refine ne (eo_index0 rfl sl53 rfl rfl (by omega) (by omega)) rfl ?_
        refine nu (xo_seti 1 rfl s5 rfl rfl rfl (by omega)) ?_
        rintro _ _ ⟨rfl, rfl⟩
        refine go_nil ?_
        refine gq_block_end ?_
        refine gq_next ?_
        refine gc_region ?_
        refine ne (eo_add rfl rfl rfl (by omega) (by omega)) rfl ?_
        refine ne (eo_mv rfl rfl) rfl ?_
        refine go_nil ?_
        exact round2 (i + 1) (upd f1 (i) 255) ⟨by omega, by first | exact fill_keep hI (by simp [grayF] at hc2 ⊢; exact hc2) | exact fill_step hI (by simp [grayF] at hc2 ⊢; exact hc2)⟩ (by omega) ⟨rfl, rfl, rfl, rfl, rfl, trivial⟩ (List.Sublist.refl _)
      ·
        have hd2 := (not_f hc2)
        refine gc_skip ?_
        refine gq_block_end ?_
        refine gq_next ?_
        refine gc_region ?_
        refine ne (eo_add rfl rfl rfl (by omega) (by omega)) rfl ?_
        refine ne (eo_mv rfl rfl) rfl ?_
        refine go_nil ?_
        exact round2 (i + 1) f1 ⟨by omega, by first | exact fill_keep hI (by simp [grayF] at hc2 ⊢; exact hc2) | exact fill_step hI (by simp [grayF] at hc2 ⊢; exact hc2)⟩ (by omega) ⟨rfl, rfl, rfl, rfl, rfl, trivial⟩ (List.Sublist.refl _)
    ·
      replace hc1 := of_decide_eq_false hc1
      refine gc_exit ?_
      refine gq_then_exit ?_
      refine gq_then_exit ?_
      refine gq_block_hit ?_
      refine gq_next ?_
      refine gc_seq ?_
      refine gc_region ?_
      refine ne (eo_loadA 0 rfl a55 rfl rfl rfl rfl) rfl ?_
      refine nu (xo_storeA 2 rfl a55 rfl rfl (ones_cons (by first | rfl | exact AS.one) (ones_cons (by first | rfl | exact AS.one) (ones_cons (by first | rfl | exact AS.one) ones_nil))) rfl rfl rfl rfl) ?_
      rintro _ _ ⟨rfl, rfl⟩
      refine ne (eo_as rfl rfl) rfl ?_
      refine go_nil ?_
      refine gq_next ?_
      refine gc_ret ?_
      refine gq_results (resCT 2 rfl a55 rfl rfl rfl rfl rfl) ?_
      exact fun W1 hO => rxi_own 1 hO rfl (grayR_ok hv) (fun j hj => by rw [hI j hj, if_pos (by omega)]) (by omega)

/-- barscan/barscanref31.Gray -/
theorem rgray_x (W H : Int) (A : Option Addr) (n c : Nat) (f : Nat → Bool) (w : World) (hr : Rd w A (tab n (bv f)))  :
    Calls Try.prog 44 #[.agg #[.int .i64 W, .int .i64 H, .slice A n c]] w (fun e w' => ∃ v Hn, e = .returned v ∧ RXi (grayR ⟨W, H, n, f⟩) v Hn ∧ Ow [] w w' Hn) := by
  refine calls_enter (N := ⟨35, []⟩) [] ([]) Try.func44 rfl rfl rfl (Ow.start _) ?_
  refine gc_seq ?_
  refine gc_region ?_
  refine nx (xo_boxA rfl rfl) rfl ?_
  rintro _ _ ⟨g1, rfl, rfl⟩
  refine nx (xo_alloc rfl z55) rfl ?_
  rintro _ _ ⟨g2, rfl, rfl⟩
  refine ne (eo_as rfl rfl) rfl ?_
  refine go_nil ?_
  refine gq_next ?_
  refine gc_seq ?_
  refine gc_seq ?_
  refine gc_region ?_
  refine ne (eo_loadA 1 rfl a24 rfl rfl rfl rfl) rfl ?_
  refine ne (eo_call rfl en36 rfl (fun W1 hO => valid_c _ _ _ _ _ W1  )) rfl ?_
  refine ne (eo_not rfl rfl) rfl ?_
  refine go_nil ?_
  refine gq_next ?_
  refine gc_cond rfl (fun hc0 => ?_) (fun hc0 => ?_)
  ·
    have hd0 := (not_t hc0)
    have hv := not_t hc0
    refine gc_seq ?_
    refine gc_region ?_
    refine ne (eo_build rfl rfl (b55_)) rfl ?_
    refine nu (xo_storeA 0 rfl a55 rfl rfl (ones_cons (by first | rfl | exact AS.one) (ones_cons (by first | rfl | exact AS.one) (ones_cons (by first | rfl | exact AS.one) ones_nil))) rfl rfl rfl rfl) ?_
    rintro _ _ ⟨rfl, rfl⟩
    refine ne (eo_as rfl rfl) rfl ?_
    refine go_nil ?_
    refine gq_next ?_
    refine gc_ret ?_
    refine gq_then_ret ?_
    refine gq_results (resCT 0 rfl a55 rfl rfl rfl rfl rfl) ?_
    exact fun W1 hO => rxi_nil hO (grayR_no hv)
  ·
    have hd0 := (not_f hc0)
    have hv := not_f hc0
    obtain ⟨v1, v2, v3, v4, v5, v6⟩ := vldB_iff.1 hv
    have v7 := vld_pos hv
    refine gc_skip ?_
    refine gq_next ?_
    refine gc_seq ?_
    refine gc_region ?_
    refine ne (eo_field rfl f24_0 rfl) rfl ?_
    refine ne (eo_load 1 rfl s3 rfl rfl rfl rfl) rfl ?_
    refine ne (eo_field rfl f24_1 rfl) rfl ?_
    refine ne (eo_load 1 rfl s3 rfl rfl rfl rfl) rfl ?_
    refine ne (eo_build rfl rfl (b55_01 _ _)) rfl ?_
    refine nx (xo_alloc rfl z55) rfl ?_
    rintro _ _ ⟨g4, rfl, rfl⟩
    refine nu (xo_storeA 0 rfl a55 rfl rfl (ones_cons (by first | rfl | exact AS.one) (ones_cons (by first | rfl | exact AS.one) (ones_cons (by first | rfl | exact AS.one) ones_nil))) rfl rfl rfl rfl) ?_
    rintro _ _ ⟨rfl, rfl⟩
    refine go_nil ?_
    refine gq_next ?_
    refine gc_seq ?_
    refine gc_seq ?_
    refine gc_region ?_
    refine ne (eo_as rfl rfl) rfl ?_
    refine go_nil ?_
    refine gq_next ?_
    refine gc_block ?_
    refine loop2 (fun (k : Nat) (s : AS) => k ≤ n ∧ s.Ok 1 k (tab k (iv .u8 (grayF f)))) (fun (k : Nat) (s : AS) => n - k) (fun (k : Nat) (s : AS) => [(1, .pointer (some ⟨g1, 0, none⟩)), (2, .pointer (some ⟨g2, 0, none⟩)), (4, .pointer (some ⟨g4, 0, none⟩)), (5, .int .i64 (k : Int))]) (fun (k : Nat) (s : AS) => ⟨g4, 55, [.int .i64 W, .int .i64 H, s.val k]⟩ :: ⟨g2, 55, [.int .i64 0, .int .i64 0, .slice none 0 0]⟩ :: ⟨g1, 24, [.int .i64 W, .int .i64 H, .slice A n c]⟩ :: s.blks 5 (tab k (iv .u8 (grayF f)))) 0 .nil ⟨by omega, AS.Ok0⟩ ⟨rfl, rfl, rfl, rfl, trivial⟩ (List.Sublist.refl _) ?_
    rintro k s ⟨hk, hs⟩
    refine gc_seq ?_
    refine gc_seq ?_
    refine gc_region ?_
    refine ne (eo_mv rfl rfl) rfl ?_
    refine ne (eo_field rfl f24_2 rfl) rfl ?_
    refine ne (eo_load 2 rfl s22 rfl rfl rfl rfl) rfl ?_
    refine ne (eo_len rfl Try.underlying22 rfl) rfl ?_
    refine ne (eo_lss rfl rfl rfl) rfl ?_
    refine go_nil ?_
    refine gq_next ?_
    refine gc_cond rfl (fun hc1 => ?_) (fun hc1 => ?_)
    ·
      replace hc1 := of_decide_eq_true hc1
      refine gc_skip ?_
      refine gq_next ?_
      refine gc_seq ?_
      refine gc_block ?_
      refine gc_seq ?_
      refine gc_region ?_
      refine ne (eo_as rfl rfl) rfl ?_
      refine go_nil ?_
      refine gq_next ?_
      refine gc_seq ?_
      refine gc_seq ?_
      refine gc_region ?_
      refine ne (eo_field rfl f24_2 rfl) rfl ?_
      refine ne (eo_load 2 rfl s22 rfl rfl rfl rfl) rfl ?_
      refine ne (eo_mv rfl rfl) rfl ?_
      refine ne (eo_indexR rfl sl22 rfl rfl hr (by simp) (by omega) (by omega)) rfl ?_
      refine ne (eo_load_old rfl s4 rfl (Rd.tabb hr (by omega)) (by simp)) rfl ?_
      refine go_nil ?_
      refine gq_next ?_
      refine gc_cond rfl (fun hc2 => ?_) (fun hc2 => ?_)
      ·
        refine gc_region ?_
        refine ne (eo_as rfl rfl) rfl ?_
        refine go_nil ?_
        refine gq_next ?_
        refine gc_region ?_
        refine ne (eo_field rfl f55_2 rfl) rfl ?_
        refine ne (eo_load 0 rfl s53 rfl rfl rfl rfl) rfl ?_
        refine ne (eo_mv rfl rfl) rfl ?_
        refine nx (xo_lit1 rfl Try.underlying53 e5 rfl (by first | rfl | exact AS.one)) rfl ?_
        rintro _ _ ⟨g31, rfl, rfl⟩
        refine nx (xo_app1i 4 rfl rfl Try.underlying53 e5 rfl hs rfl rfl (by first | exact (gray_dark (by assumption)).symm | exact (gray_light (by assumption)).symm) (by omega) (by decide)) rfl ?_
        rintro _ _ ⟨s32, hs32, rfl, rfl⟩
        refine ne (eo_field rfl f55_2 rfl) rfl ?_
        refine nu (xo_store 1 rfl s53 rfl rfl (by first | rfl | exact AS.one) rfl rfl (by simp)) ?_
        rintro _ _ ⟨rfl, rfl⟩
        refine go_nil ?_
        refine gq_block_end ?_
        refine gq_next ?_
        refine gc_region ?_
        refine ne (eo_mv rfl rfl) rfl ?_
        refine ne (eo_add rfl rfl rfl (by omega) (by omega)) rfl ?_
        refine ne (eo_as rfl rfl) rfl ?_
        refine go_nil ?_
        exact round2 (k + 1) s32 ⟨by omega, hs32⟩ (by omega) ⟨rfl, rfl, rfl, rfl, trivial⟩ (List.Sublist.cons _ (List.Sublist.refl _))
      ·
        refine gc_skip ?_
        refine gq_next ?_
        refine gc_region ?_
        refine ne (eo_field rfl f55_2 rfl) rfl ?_
        refine ne (eo_load 0 rfl s53 rfl rfl rfl rfl) rfl ?_
        refine ne (eo_mv rfl rfl) rfl ?_
        refine nx (xo_lit1 rfl Try.underlying53 e5 rfl (by first | rfl | exact AS.one)) rfl ?_
        rintro _ _ ⟨g31, rfl, rfl⟩
        refine nx (xo_app1i 4 rfl rfl Try.underlying53 e5 rfl hs rfl rfl (by first | exact (gray_dark (by assumption)).symm | exact (gray_light (by assumption)).symm) (by omega) (by decide)) rfl ?_
        rintro _ _ ⟨s32, hs32, rfl, rfl⟩
        refine ne (eo_field rfl f55_2 rfl) rfl ?_
        refine nu (xo_store 1 rfl s53 rfl rfl (by first | rfl | exact AS.one) rfl rfl (by simp)) ?_
        rintro _ _ ⟨rfl, rfl⟩
        refine go_nil ?_
        refine gq_block_end ?_
        refine gq_next ?_
        refine gc_region ?_
        refine ne (eo_mv rfl rfl) rfl ?_
        refine ne (eo_add rfl rfl rfl (by omega) (by omega)) rfl ?_
        refine ne (eo_as rfl rfl) rfl ?_
        refine go_nil ?_
        exact round2 (k + 1) s32 ⟨by omega, hs32⟩ (by omega) ⟨rfl, rfl, rfl, rfl, trivial⟩ (List.Sublist.cons _ (List.Sublist.refl _))
    ·
      replace hc1 := of_decide_eq_false hc1
      refine gc_exit ?_
      refine gq_then_exit ?_
      refine gq_then_exit ?_
      refine gq_block_hit ?_
      refine gq_next ?_
      refine gc_seq ?_
      refine gc_region ?_
      refine ne (eo_loadA 0 rfl a55 rfl rfl rfl rfl) rfl ?_
      refine nu (xo_storeA 1 rfl a55 rfl rfl (ones_cons (by first | rfl | exact AS.one) (ones_cons (by first | rfl | exact AS.one) (ones_cons (by first | rfl | exact AS.one) ones_nil))) rfl rfl rfl rfl) ?_
      rintro _ _ ⟨rfl, rfl⟩
      refine ne (eo_as rfl rfl) rfl ?_
      refine go_nil ?_
      refine gq_next ?_
      refine gc_ret ?_
      refine gq_results (resCT 1 rfl a55 rfl rfl rfl rfl rfl) ?_
      have hkn : n = k := by omega
      subst hkn
      exact fun W1 hO => rxi_as 3 hO rfl hs (grayR_ok hv)

/-- slices.Reverse[[]bool,bool] -/
theorem reverse_c (g N off n c : Nat) (f : Nat → Bool) (sp : List Value) (w : World)  (hg : w.heap[g]? = some (.cells (tab N (bv f) ++ sp).toArray 4 (0, 0))) (hN : off + n ≤ N) (hn : n ≤ 1073741824) :
    Calls Try.prog 56 #[.slice (some ⟨g, off, none⟩) n c] w (fun e w' => e = .returned (.tuple #[]) ∧ Ow [g] w w' [⟨g, 4, tab N (bv (revF off n f)) ++ sp⟩]) := by
  refine calls_enter (N := ⟨28, []⟩) [g] ([⟨g, 4, tab N (bv f) ++ sp⟩]) Try.func56 rfl rfl rfl (own_one hg) ?_
  refine gc_seq ?_
  refine gc_region ?_
  refine ne (eo_mv rfl rfl) rfl ?_
  refine ne (eo_len rfl Try.underlying22 rfl) rfl ?_
  refine ne (eo_sub rfl rfl rfl (by omega) (by omega)) rfl ?_
  refine ne (eo_as rfl rfl) rfl ?_
  refine ne (eo_as rfl rfl) rfl ?_
  refine go_nil ?_
  refine gq_next ?_
  refine gc_block ?_
  refine loop3 (fun (i : Nat) (j : Int) (f1 : Nat → Bool) => (i : Int) + j = n - 1 ∧ (i : Int) ≤ j + 1 ∧ ∀ q, q < N → f1 q = revP off n f i q) (fun (i : Nat) (j : Int) (f1 : Nat → Bool) => (j + 1 - i).toNat) (fun (i : Nat) (j : Int) (f1 : Nat → Bool) => [(0, .slice (some ⟨g, off, none⟩) n c), (2, .int .i64 (i : Int)), (3, .int .i64 j)]) (fun (i : Nat) (j : Int) (f1 : Nat → Bool) => [⟨g, 4, tab N (bv f1) ++ sp⟩]) 0 (((n : Nat) : Int) - 1) f ⟨by omega, by omega, fun q _ => by unfold revP; rw [if_neg (by omega)]⟩ ⟨rfl, rfl, rfl, trivial⟩ (List.Sublist.refl _) ?_
  rintro i j f1 ⟨hj, hi, hI⟩
  refine gc_seq ?_
  refine gc_seq ?_
  refine gc_region ?_
  refine ne (eo_mv rfl rfl) rfl ?_
  refine ne (eo_mv rfl rfl) rfl ?_
  refine ne (eo_lss rfl rfl rfl) rfl ?_
  refine go_nil ?_
  refine gq_next ?_
  refine gc_cond rfl (fun hc0 => ?_) (fun hc0 => ?_)
  ·
    replace hc0 := of_decide_eq_true hc0
    refine gc_skip ?_
    refine gq_next ?_
    refine gc_seq ?_
    refine gc_block ?_
    refine gc_draw [2, 3] [0, 1, 4, 5, 6, 7, 8, 9, 10, 11, 12] [] [13, 14, 15] (by kernel_rfl) (by kernel_rfl) ?_
    refine dp rfl (po_mv rfl rfl) rfl ?_
    refine dp rfl (po_mv rfl rfl) rfl ?_
    refine gp_nil ?_
    refine de rfl (eo_mv rfl rfl) rfl ?_
    refine de rfl (eo_mv rfl rfl) rfl ?_
    refine de rfl (eo_mv rfl rfl) rfl ?_
    refine de rfl (eo_mv rfl rfl) rfl ?_
    refine de rfl (eo_index rfl sl22 rfl rfl (by omega) (by omega)) rfl ?_
    refine de rfl (eo_getb 0 rfl s4 rfl rfl (by omega)) rfl ?_
    refine de rfl (eo_mv rfl rfl) rfl ?_
    refine de rfl (eo_mv rfl rfl) rfl ?_
    refine de rfl (eo_index rfl sl22 rfl rfl (by omega) (by omega)) rfl ?_
    refine de rfl (eo_getb 0 rfl s4 rfl rfl (by omega)) rfl ?_
    refine de rfl (eo_index rfl sl22 rfl rfl (by omega) (by omega)) rfl ?_
    refine ge_nil ?_
    refine ga_nil ?_
    refine iu rfl (xo_setb 0 rfl s4 rfl rfl rfl (by omega)) ?_
    rintro _ _ ⟨rfl, rfl⟩
    refine ie rfl (eo_index rfl sl22 rfl rfl (by omega) (by omega)) rfl ?_
    refine iu rfl (xo_setb 0 rfl s4 rfl rfl rfl (by omega)) ?_
    rintro _ _ ⟨rfl, rfl⟩
    refine gi_nil ?_
    refine gq_nq ?_
    refine gq_block_end ?_
    refine gq_next ?_
    refine gc_region ?_
    refine ne (eo_mv rfl rfl) rfl ?_
    refine ne (eo_add rfl rfl rfl (by omega) (by omega)) rfl ?_
    refine ne (eo_mv rfl rfl) rfl ?_
    refine ne (eo_sub rfl rfl rfl (by omega) (by omega)) rfl ?_
    refine ne (eo_as rfl rfl) rfl ?_
    refine ne (eo_as rfl rfl) rfl ?_
    refine go_nil ?_
    exact round3 (i + 1) (j - 1) (upd (upd f1 (off + i) (f1 (off + (j).toNat))) (off + (j).toNat) (f1 (off + i))) ⟨by push_cast; omega, by push_cast; omega, rev_step hj (by omega) hN hI⟩ (by omega) ⟨rfl, rfl, rfl, trivial⟩ (List.Sublist.refl _)
  ·
    replace hc0 := of_decide_eq_false hc0
    refine gc_exit ?_
    refine gq_then_exit ?_
    refine gq_then_exit ?_
    refine gq_block_hit ?_
    refine gq_results_end (res0 rfl) ?_
    exact fun W1 hO => ⟨rfl, by rw [← tabb_ext (rev_done hj (by omega) hI)]; exact hO⟩

/-- barscan/raster.Mirror -/
theorem mirror_x (W H : Int) (A : Option Addr) (n c : Nat) (f : Nat → Bool) (w : World) (hr : Rd w A (tab n (bv f)))  :
    Calls Try.prog 25 #[.agg #[.int .i64 W, .int .i64 H, .slice A n c]] w (fun e w' => ∃ v Hn, e = .returned v ∧ RX (mirrorR ⟨W, H, n, f⟩) v Hn ∧ Ow [] w w' Hn) := by
  refine calls_enter (N := ⟨36, []⟩) [] ([]) Try.func25 rfl rfl rfl (Ow.start _) ?_
  refine gc_seq ?_
  refine gc_region ?_
  refine nx (xo_boxA rfl rfl) rfl ?_
  rintro _ _ ⟨g1, rfl, rfl⟩
  refine nx (xo_alloc rfl z24) rfl ?_
  rintro _ _ ⟨g2, rfl, rfl⟩
  refine ne (eo_as rfl rfl) rfl ?_
  refine go_nil ?_
  refine gq_next ?_
  refine gc_seq ?_
  refine gc_seq ?_
  refine gc_region ?_
  refine ne (eo_loadA 1 rfl a24 rfl rfl rfl rfl) rfl ?_
  refine ne (eo_call rfl en23 rfl (fun W1 hO => check_c _ _ _ _ _ W1  )) rfl ?_
  refine ne (eo_as rfl rfl) rfl ?_
  refine go_nil ?_
  refine gq_next ?_
  refine gc_seq ?_
  refine gc_region ?_
  refine ne (eo_mv rfl rfl) rfl ?_
  refine ne (eo_neq rfl rfl rfl) rfl ?_
  refine go_nil ?_
  refine gq_next ?_
  refine gc_cond rfl (fun hc0 => ?_) (fun hc0 => ?_)
  ·
    replace hc0 := of_decide_eq_true hc0
    have hv := chk_f hc0
    refine gc_seq ?_
    refine gc_region ?_
    refine ne (eo_build rfl rfl (b24_)) rfl ?_
    refine ne (eo_mv rfl rfl) rfl ?_
    refine nu (xo_storeA 0 rfl a24 rfl rfl (ones_cons (by first | rfl | exact AS.one) (ones_cons (by first | rfl | exact AS.one) (ones_cons (by first | rfl | exact AS.one) ones_nil))) rfl rfl rfl rfl) ?_
    rintro _ _ ⟨rfl, rfl⟩
    refine ne (eo_as rfl rfl) rfl ?_
    refine go_nil ?_
    refine gq_next ?_
    refine gc_ret ?_
    refine gq_then_ret ?_
    refine gq_results (resCT 0 rfl a24 rfl rfl rfl rfl rfl) ?_
    exact fun W1 hO => rx_nil hO (by rw [chk_no hv]; exact mirrorR_no hv)
  ·
    replace hc0 := of_decide_eq_false hc0
    have hv := chk_t hc0
    obtain ⟨v1, v2, v3, v4, v5, v6⟩ := vldB_iff.1 hv
    have v7 := vld_pos hv
    refine gc_skip ?_
    refine gq_next ?_
    refine gc_seq ?_
    refine gc_region ?_
    refine ne (eo_field rfl f24_2 rfl) rfl ?_
    refine ne (eo_load 1 rfl s22 rfl rfl rfl rfl) rfl ?_
    refine nx (xo_fresh rfl en53 rfl (fun W1 hO => clone_c _ _ _ _ W1 (hr.old0 hO) (by simp) tab_oneb (by omega))) rfl ?_
    rintro _ _ ⟨_, hRa, rfl⟩
    obtain ⟨gk14, ck14, sk14, rfl, rfl, hck14⟩ := RApp.at_ hRa (by omega)
    refine ne (eo_field rfl f24_2 rfl) rfl ?_
    refine nu (xo_store 2 rfl s22 rfl rfl (by first | rfl | exact AS.one) rfl rfl (by simp)) ?_
    rintro _ _ ⟨rfl, rfl⟩
    refine go_nil ?_
    refine gq_next ?_
    refine gc_seq ?_
    refine gc_seq ?_
    refine gc_region ?_
    refine ne (eo_field rfl f24_1 rfl) rfl ?_
    refine ne (eo_load 2 rfl s3 rfl rfl rfl rfl) rfl ?_
    refine ne (eo_mv rfl rfl) rfl ?_
    refine go_nil ?_
    refine gq_next ?_
    refine gc_block ?_
    refine loop2 (fun (y : Nat) (f1 : Nat → Bool) => (y : Int) ≤ H ∧ ∀ q, q < n → f1 q = if (q : Int) / W < y then mirrorF W f q else f q) (fun (y : Nat) (f1 : Nat → Bool) => (H - y).toNat) (fun (y : Nat) (f1 : Nat → Bool) => [(1, .pointer (some ⟨g1, 0, none⟩)), (2, .pointer (some ⟨g2, 0, none⟩)), (17, .int .i64 H), (18, .int .i64 (y : Int))]) (fun (y : Nat) (f1 : Nat → Bool) => [⟨gk14, 4, tab n (bv f1) ++ sk14⟩, ⟨g2, 24, [.int .i64 0, .int .i64 0, .slice none 0 0]⟩, ⟨g1, 24, [.int .i64 W, .int .i64 H, .slice (some ⟨gk14, 0, none⟩) n ck14]⟩]) 0 f ⟨by omega, fun q _ => by rw [if_neg (by have := Int.ediv_nonneg (show 0 ≤ (q : Int) by omega) (show 0 ≤ W by omega); omega)]⟩ ⟨rfl, rfl, rfl, rfl, trivial⟩ (List.Sublist.refl _) ?_
    rintro y f1 ⟨hy, hI⟩
    refine gc_seq ?_
    refine gc_region ?_
    refine ne (eo_lss rfl rfl rfl) rfl ?_
    refine go_nil ?_
    refine gq_next ?_
    refine gc_seq ?_
    refine gc_cond rfl (fun hc1 => ?_) (fun hc1 => ?_)
    ·
      replace hc1 := of_decide_eq_true hc1
      have hb := idx_bd (W := W) (H := H) (x := 0) (y := y) (by omega) (by omega) (by omega) (by omega)
      have ha : ((y : Int) + 1) * W = y * W + W := add1_mul
      refine gc_skip ?_
      refine gq_next ?_
      refine gc_seq ?_
      refine gc_block ?_
      refine gc_seq ?_
      refine gc_region ?_
      refine ne (eo_mv rfl rfl) rfl ?_
      refine ne (eo_as rfl rfl) rfl ?_
      refine go_nil ?_
      refine gq_next ?_
      refine gc_region ?_
      refine ne (eo_field rfl f24_2 rfl) rfl ?_
      refine ne (eo_load 2 rfl s22 rfl rfl rfl rfl) rfl ?_
      refine ne (eo_mv rfl rfl) rfl ?_
      refine ne (eo_field rfl f24_0 rfl) rfl ?_
      refine ne (eo_load 2 rfl s3 rfl rfl rfl rfl) rfl ?_
      refine ne (eo_mul rfl rfl rfl (by omega) (by omega)) rfl ?_
      refine ne (eo_mv rfl rfl) rfl ?_
      refine ne (eo_add rfl rfl rfl (by omega) (by omega)) rfl ?_
      refine ne (eo_field rfl f24_0 rfl) rfl ?_
      refine ne (eo_load 2 rfl s3 rfl rfl rfl rfl) rfl ?_
      refine ne (eo_mul rfl rfl rfl (by omega) (by omega)) rfl ?_
      refine ne (eo_sl0 rfl sl22 rfl rfl rfl (by omega) (by omega) (by omega) (by omega)) rfl ?_
      refine nx (xo_over 0 rfl en56 rfl rfl (fun W1 hO => reverse_c _ _ _ _ _ _ _ W1 (hO.at_ (i := 0) rfl) (by omega) (by omega))) rfl ?_
      rintro _ _ ⟨rfl, rfl⟩
      refine go_nil ?_
      refine gq_block_end ?_
      refine gq_next ?_
      refine gc_region ?_
      refine ne (eo_add rfl rfl rfl (by omega) (by omega)) rfl ?_
      refine ne (eo_mv rfl rfl) rfl ?_
      refine go_nil ?_
      exact round2 (y + 1) (revF ((((y : Int) * W)).toNat) (((((y : Int) + 1) * W)).toNat - (((y : Int) * W)).toNat) f1) ⟨by omega, mirror_row hv (by omega) hI⟩ (by omega) ⟨rfl, rfl, rfl, rfl, trivial⟩ (List.Sublist.refl _)
    ·
      replace hc1 := of_decide_eq_false hc1
      refine gc_exit ?_
      refine gq_then_exit ?_
      refine gq_then_exit ?_
      refine gq_block_hit ?_
      refine gq_next ?_
      refine gc_seq ?_
      refine gc_region ?_
      refine ne (eo_loadA 2 rfl a24 rfl rfl rfl rfl) rfl ?_
      refine nu (xo_storeA 1 rfl a24 rfl rfl (ones_cons (by first | rfl | exact AS.one) (ones_cons (by first | rfl | exact AS.one) (ones_cons (by first | rfl | exact AS.one) ones_nil))) rfl rfl rfl rfl) ?_
      rintro _ _ ⟨rfl, rfl⟩
      refine ne (eo_as rfl rfl) rfl ?_
      refine go_nil ?_
      refine gq_next ?_
      refine gc_ret ?_
      refine gq_results (resCT 1 rfl a24 rfl rfl rfl rfl rfl) ?_
      exact fun W1 hO => rx_own 0 hO rfl (mirrorR_ok hv) (fun q hq => by rw [hI q hq, if_pos (by have := cell_bd hv hq; omega)]) (by omega)

/-- barscan/barscanref31.Mirror -/
theorem rmirror_x (W H : Int) (A : Option Addr) (n c : Nat) (f : Nat → Bool) (w : World) (hr : Rd w A (tab n (bv f)))  :
    Calls Try.prog 42 #[.agg #[.int .i64 W, .int .i64 H, .slice A n c]] w (fun e w' => ∃ v Hn, e = .returned v ∧ RX (mirrorR ⟨W, H, n, f⟩) v Hn ∧ Ow [] w w' Hn) := by
  refine calls_enter (N := ⟨42, []⟩) [] ([]) Try.func42 rfl rfl rfl (Ow.start _) ?_
  refine gc_seq ?_
  refine gc_region ?_
  refine nx (xo_boxA rfl rfl) rfl ?_
  rintro _ _ ⟨g1, rfl, rfl⟩
  refine nx (xo_alloc rfl z24) rfl ?_
  rintro _ _ ⟨g2, rfl, rfl⟩
  refine ne (eo_as rfl rfl) rfl ?_
  refine go_nil ?_
  refine gq_next ?_
  refine gc_seq ?_
  refine gc_seq ?_
  refine gc_region ?_
  refine ne (eo_loadA 1 rfl a24 rfl rfl rfl rfl) rfl ?_
  refine ne (eo_call rfl en36 rfl (fun W1 hO => valid_c _ _ _ _ _ W1  )) rfl ?_
  refine ne (eo_not rfl rfl) rfl ?_
  refine go_nil ?_
  refine gq_next ?_
  refine gc_cond rfl (fun hc0 => ?_) (fun hc0 => ?_)
  ·
    have hd0 := (not_t hc0)
    have hv := not_t hc0
    refine gc_seq ?_
    refine gc_region ?_
    refine ne (eo_build rfl rfl (b24_)) rfl ?_
    refine nu (xo_storeA 0 rfl a24 rfl rfl (ones_cons (by first | rfl | exact AS.one) (ones_cons (by first | rfl | exact AS.one) (ones_cons (by first | rfl | exact AS.one) ones_nil))) rfl rfl rfl rfl) ?_
    rintro _ _ ⟨rfl, rfl⟩
    refine ne (eo_as rfl rfl) rfl ?_
    refine go_nil ?_
    refine gq_next ?_
    refine gc_ret ?_
    refine gq_then_ret ?_
    refine gq_results (resCT 0 rfl a24 rfl rfl rfl rfl rfl) ?_
    exact fun W1 hO => rx_nil hO (mirrorR_no hv)
  ·
    have hd0 := (not_f hc0)
    have hv := not_f hc0
    obtain ⟨v1, v2, v3, v4, v5, v6⟩ := vldB_iff.1 hv
    have v7 := vld_pos hv
    refine gc_skip ?_
    refine gq_next ?_
    refine gc_seq ?_
    refine gc_region ?_
    refine ne (eo_field rfl f24_0 rfl) rfl ?_
    refine ne (eo_load 1 rfl s3 rfl rfl rfl rfl) rfl ?_
    refine ne (eo_field rfl f24_1 rfl) rfl ?_
    refine ne (eo_load 1 rfl s3 rfl rfl rfl rfl) rfl ?_
    refine ne (eo_build rfl rfl (b24_01 _ _)) rfl ?_
    refine nx (xo_alloc rfl z24) rfl ?_
    rintro _ _ ⟨g4, rfl, rfl⟩
    refine nu (xo_storeA 0 rfl a24 rfl rfl (ones_cons (by first | rfl | exact AS.one) (ones_cons (by first | rfl | exact AS.one) (ones_cons (by first | rfl | exact AS.one) ones_nil))) rfl rfl rfl rfl) ?_
    rintro _ _ ⟨rfl, rfl⟩
    refine go_nil ?_
    refine gq_next ?_
    refine gc_seq ?_
    refine gc_seq ?_
    refine gc_region ?_
    refine ne (eo_as rfl rfl) rfl ?_
    refine go_nil ?_
    refine gq_next ?_
    refine gc_block ?_
    refine loop2 (fun (k : Nat) (s : AS) => k ≤ n ∧ s.Ok 1 k (tab k (bv (mirrorF W f)))) (fun (k : Nat) (s : AS) => n - k) (fun (k : Nat) (s : AS) => [(1, .pointer (some ⟨g1, 0, none⟩)), (2, .pointer (some ⟨g2, 0, none⟩)), (4, .pointer (some ⟨g4, 0, none⟩)), (5, .int .i64 (k : Int))]) (fun (k : Nat) (s : AS) => ⟨g4, 24, [.int .i64 W, .int .i64 H, s.val k]⟩ :: ⟨g2, 24, [.int .i64 0, .int .i64 0, .slice none 0 0]⟩ :: ⟨g1, 24, [.int .i64 W, .int .i64 H, .slice A n c]⟩ :: s.blks 4 (tab k (bv (mirrorF W f)))) 0 .nil ⟨by omega, AS.Ok0⟩ ⟨rfl, rfl, rfl, rfl, trivial⟩ (List.Sublist.refl _) ?_
    rintro k s ⟨hk, hs⟩
    refine gc_seq ?_
    refine gc_seq ?_
    refine gc_region ?_
    refine ne (eo_mv rfl rfl) rfl ?_
    refine ne (eo_field rfl f24_2 rfl) rfl ?_
    refine ne (eo_load 2 rfl s22 rfl rfl rfl rfl) rfl ?_
    refine ne (eo_len rfl Try.underlying22 rfl) rfl ?_
    refine ne (eo_lss rfl rfl rfl) rfl ?_
    refine go_nil ?_
    refine gq_next ?_
    refine gc_cond rfl (fun hc1 => ?_) (fun hc1 => ?_)
    ·
      replace hc1 := of_decide_eq_true hc1
      have hcb := cell_bd hv (show k < n by omega)
      refine gc_skip ?_
      refine gq_next ?_
      refine gc_seq ?_
      refine gc_block ?_
      refine gc_draw [] [0, 1, 2, 3, 4, 5, 6, 7, 8, 9, 10, 11, 12, 13, 14, 15] [16] [17, 18, 19] (by kernel_rfl) (by kernel_rfl) ?_
      refine gp_nil ?_
      refine de rfl (eo_field rfl f24_2 rfl) rfl ?_
      refine de rfl (eo_load 0 rfl s22 rfl rfl rfl rfl) rfl ?_
      refine de rfl (eo_loadA 2 rfl a24 rfl rfl rfl rfl) rfl ?_
      refine de rfl (eo_field rfl f24_0 rfl) rfl ?_
      refine de rfl (eo_load 2 rfl s3 rfl rfl rfl rfl) rfl ?_
      refine de rfl (eo_sub rfl rfl rfl (by omega) (by omega)) rfl ?_
      refine de rfl (eo_mv rfl rfl) rfl ?_
      refine de rfl (eo_field rfl f24_0 rfl) rfl ?_
      refine de rfl (eo_load 2 rfl s3 rfl rfl rfl rfl) rfl ?_
      refine de rfl (eo_rem rfl rfl rfl (by omega) (by omega)) rfl ?_
      refine de rfl (eo_sub rfl rfl rfl (by omega) (by omega)) rfl ?_
      refine de rfl (eo_mv rfl rfl) rfl ?_
      refine de rfl (eo_field rfl f24_0 rfl) rfl ?_
      refine de rfl (eo_load 2 rfl s3 rfl rfl rfl rfl) rfl ?_
      refine de rfl (eo_quo rfl rfl rfl (by omega) (by omega) (by omega)) rfl ?_
      refine de rfl (eo_call rfl en32 rfl (fun W1 hO => rat_c _ _ _ _ _ _ _ _ W1 (hr.old0 hO) )) rfl ?_
      refine ge_nil ?_
      refine da rfl (xo_lit1 rfl Try.underlying22 e4 rfl (by first | rfl | exact AS.one)) rfl ?_
      rintro _ _ ⟨g38, rfl, rfl⟩
      refine ⟨by first | exact (List.Sublist.cons _ (List.Sublist.refl _)) | exact (List.sublist_append_left _ _), ?_⟩
      refine ga_nil ?_
      refine ix rfl (xo_app1b 4 rfl rfl Try.underlying22 e4 rfl hs rfl rfl (mirror_at hv (by omega)) (by omega)) rfl ?_
      rintro _ _ ⟨s39, hs39, rfl, rfl⟩
      refine ie rfl (eo_field rfl f24_2 rfl) rfl ?_
      refine iu rfl (xo_store 1 rfl s22 rfl rfl (by first | rfl | exact AS.one) rfl rfl (by simp)) ?_
      rintro _ _ ⟨rfl, rfl⟩
      refine gi_nil ?_
      refine gq_nq ?_
      refine gq_block_end ?_
      refine gq_next ?_
      refine gc_region ?_
      refine ne (eo_mv rfl rfl) rfl ?_
      refine ne (eo_add rfl rfl rfl (by omega) (by omega)) rfl ?_
      refine ne (eo_as rfl rfl) rfl ?_
      refine go_nil ?_
      exact round2 (k + 1) s39 ⟨by omega, hs39⟩ (by omega) ⟨rfl, rfl, rfl, rfl, trivial⟩ (List.Sublist.cons _ (List.Sublist.refl _))
    ·
      replace hc1 := of_decide_eq_false hc1
      refine gc_exit ?_
      refine gq_then_exit ?_
      refine gq_then_exit ?_
      refine gq_block_hit ?_
      refine gq_next ?_
      refine gc_seq ?_
      refine gc_region ?_
      refine ne (eo_loadA 0 rfl a24 rfl rfl rfl rfl) rfl ?_
      refine nu (xo_storeA 1 rfl a24 rfl rfl (ones_cons (by first | rfl | exact AS.one) (ones_cons (by first | rfl | exact AS.one) (ones_cons (by first | rfl | exact AS.one) ones_nil))) rfl rfl rfl rfl) ?_
      rintro _ _ ⟨rfl, rfl⟩
      refine ne (eo_as rfl rfl) rfl ?_
      refine go_nil ?_
      refine gq_next ?_
      refine gc_ret ?_
      refine gq_results (resCT 1 rfl a24 rfl rfl rfl rfl rfl) ?_
      have hkn : n = k := by omega
      subst hkn
      exact fun W1 hO => rx_as 3 hO rfl hs (mirrorR_ok hv)

/-- barscan/raster.Enlarge -/
theorem enl_x (W H : Int) (A : Option Addr) (n c : Nat) (f : Nat → Bool) (k : Int) (w : World) (hr : Rd w A (tab n (bv f)))  :
    Calls Try.prog 37 #[.agg #[.int .i64 W, .int .i64 H, .slice A n c], .int .i64 k] w (fun e w' => ∃ v Hn, e = .returned v ∧ RX (enlR ⟨W, H, n, f⟩ k) v Hn ∧ Ow [] w w' Hn) := by
  refine calls_enter (N := ⟨104, []⟩) [] ([]) Try.func37 rfl rfl rfl (Ow.start _) ?_
  refine gc_seq ?_
  refine gc_region ?_
  refine nx (xo_boxA rfl rfl) rfl ?_
  rintro _ _ ⟨g2, rfl, rfl⟩
  refine nx (xo_alloc rfl z24) rfl ?_
  rintro _ _ ⟨g4, rfl, rfl⟩
  refine ne (eo_as rfl rfl) rfl ?_
  refine go_nil ?_
  refine gq_next ?_
  refine gc_seq ?_
  refine gc_seq ?_
  refine gc_region ?_
  refine ne (eo_loadA 1 rfl a24 rfl rfl rfl rfl) rfl ?_
  refine ne (eo_call rfl en23 rfl (fun W1 hO => check_c _ _ _ _ _ W1  )) rfl ?_
  refine ne (eo_as rfl rfl) rfl ?_
  refine go_nil ?_
  refine gq_next ?_
  refine gc_seq ?_
  refine gc_region ?_
  refine ne (eo_mv rfl rfl) rfl ?_
  refine ne (eo_neq rfl rfl rfl) rfl ?_
  refine go_nil ?_
  refine gq_next ?_
  refine gc_cond rfl (fun hc0 => ?_) (fun hc0 => ?_)
  ·
    replace hc0 := of_decide_eq_true hc0
    have hv := chk_f hc0
    refine gc_seq ?_
    refine gc_region ?_
    refine ne (eo_build rfl rfl (b24_)) rfl ?_
    refine ne (eo_mv rfl rfl) rfl ?_
    refine nu (xo_storeA 0 rfl a24 rfl rfl (ones_cons (by first | rfl | exact AS.one) (ones_cons (by first | rfl | exact AS.one) (ones_cons (by first | rfl | exact AS.one) ones_nil))) rfl rfl rfl rfl) ?_
    rintro _ _ ⟨rfl, rfl⟩
    refine ne (eo_as rfl rfl) rfl ?_
    refine go_nil ?_
    refine gq_next ?_
    refine gc_ret ?_
    refine gq_then_ret ?_
    refine gq_results (resCT 0 rfl a24 rfl rfl rfl rfl rfl) ?_
    exact fun W1 hO => rx_nil hO (by rw [chk_no hv]; exact enlR_no hv)
  ·
    replace hc0 := of_decide_eq_false hc0
    have hv := chk_t hc0
    obtain ⟨v1, v2, v3, v4, v5, v6⟩ := vldB_iff.1 hv
    have v7 := vld_pos hv
    refine gc_skip ?_
    refine gq_next ?_
    refine gc_seq ?_
    refine gc_seq ?_
    refine gc_region ?_
    refine ne (eo_mv rfl rfl) rfl ?_
    refine ne (eo_lss rfl rfl rfl) rfl ?_
    refine ne (eo_mv rfl rfl) rfl ?_
    refine ng rfl rfl (fun h => eo_mv rfl rfl) rfl ?_
    refine ng rfl rfl (fun h => eo_gtr rfl (ev_if h rfl) rfl) rfl ?_
    refine ne (eo_or rfl rfl (fun hb => ev_if hb rfl)) rfl ?_
    refine go_nil ?_
    refine gq_next ?_
    refine gc_cond rfl (fun hc1 => ?_) (fun hc1 => ?_)
    ·
      have hd1 := (or_t hc1).imp (fun h => of_decide_eq_true h) (fun h => of_decide_eq_true h)
      refine gc_seq ?_
      refine gc_region ?_
      refine ne (eo_build rfl rfl (b24_)) rfl ?_
      refine nu (xo_storeA 0 rfl a24 rfl rfl (ones_cons (by first | rfl | exact AS.one) (ones_cons (by first | rfl | exact AS.one) (ones_cons (by first | rfl | exact AS.one) ones_nil))) rfl rfl rfl rfl) ?_
      rintro _ _ ⟨rfl, rfl⟩
      refine ne (eo_as rfl rfl) rfl ?_
      refine go_nil ?_
      refine gq_next ?_
      refine gc_ret ?_
      refine gq_then_ret ?_
      refine gq_results (resCT 0 rfl a24 rfl rfl rfl rfl rfl) ?_
      exact fun W1 hO => rx_nil hO (enlR_range hv hd1)
    ·
      have hd1 := (or_f hc1).imp (fun h => of_decide_eq_false h) (fun h => of_decide_eq_false h)
      have hkW := mul_in (a := k) (b := W) (by omega) (by omega) (by omega) (by omega)
      have hkH := mul_in (a := k) (b := H) (by omega) (by omega) (by omega) (by omega)
      refine gc_skip ?_
      refine gq_next ?_
      refine gc_seq ?_
      refine gc_seq ?_
      refine gc_region ?_
      refine ne (eo_mv rfl rfl) rfl ?_
      refine ne (eo_field rfl f24_0 rfl) rfl ?_
      refine ne (eo_load 1 rfl s3 rfl rfl rfl rfl) rfl ?_
      refine ne (eo_mul rfl rfl rfl (by omega) (by omega)) rfl ?_
      refine ne (eo_mv rfl rfl) rfl ?_
      refine ne (eo_field rfl f24_1 rfl) rfl ?_
      refine ne (eo_load 1 rfl s3 rfl rfl rfl rfl) rfl ?_
      refine ne (eo_mul rfl rfl rfl (by omega) (by omega)) rfl ?_
      refine ne (eo_call rfl en45 rfl (fun W1 hO => possible_c _ _ W1  )) rfl ?_
      refine ne (eo_not rfl rfl) rfl ?_
      refine go_nil ?_
      refine gq_next ?_
      refine gc_cond rfl (fun hc2 => ?_) (fun hc2 => ?_)
      ·
        have hd2 := (not_t hc2)
        have hf2 := not_t hc2
        refine gc_seq ?_
        refine gc_region ?_
        refine ne (eo_build rfl rfl (b24_)) rfl ?_
        refine nu (xo_storeA 0 rfl a24 rfl rfl (ones_cons (by first | rfl | exact AS.one) (ones_cons (by first | rfl | exact AS.one) (ones_cons (by first | rfl | exact AS.one) ones_nil))) rfl rfl rfl rfl) ?_
        rintro _ _ ⟨rfl, rfl⟩
        refine ne (eo_as rfl rfl) rfl ?_
        refine go_nil ?_
        refine gq_next ?_
        refine gc_ret ?_
        refine gq_then_ret ?_
        refine gq_results (resCT 0 rfl a24 rfl rfl rfl rfl rfl) ?_
        exact fun W1 hO => rx_nil hO (enlR_long hv (by omega) hf2)
      ·
        have hd2 := (not_f hc2)
        have hf2 := not_f hc2
        have hfb := fits_bd hf2
        obtain ⟨f1, f2, f3, f4, f5⟩ := fitsB_iff.1 hf2
        refine gc_skip ?_
        refine gq_next ?_
        refine gc_seq ?_
        refine gc_region ?_
        refine ne (eo_mv rfl rfl) rfl ?_
        refine ne (eo_field rfl f24_0 rfl) rfl ?_
        refine ne (eo_load 1 rfl s3 rfl rfl rfl rfl) rfl ?_
        refine ne (eo_mul rfl rfl rfl (by omega) (by omega)) rfl ?_
        refine ne (eo_mv rfl rfl) rfl ?_
        refine ne (eo_field rfl f24_1 rfl) rfl ?_
        refine ne (eo_load 1 rfl s3 rfl rfl rfl rfl) rfl ?_
        refine ne (eo_mul rfl rfl rfl (by omega) (by omega)) rfl ?_
        refine nx (xo_fresh rfl en46 rfl (fun W1 _ => blank_c _ _ W1 (by assumption))) rfl ?_
        rintro _ _ ⟨_, ⟨gb43, cb43, sb43, rfl, rfl, hcb43⟩, rfl⟩
        refine nx (xo_alloc rfl z24) rfl ?_
        rintro _ _ ⟨g7, rfl, rfl⟩
        refine nu (xo_storeA 0 rfl a24 rfl rfl (ones_cons (by first | rfl | exact AS.one) (ones_cons (by first | rfl | exact AS.one) (ones_cons (by first | rfl | exact AS.one) ones_nil))) rfl rfl rfl rfl) ?_
        rintro _ _ ⟨rfl, rfl⟩
        refine go_nil ?_
        refine gq_next ?_
        refine gc_seq ?_
        refine gc_seq ?_
        refine gc_region ?_
        refine ne (eo_field rfl f24_1 rfl) rfl ?_
        refine ne (eo_load 0 rfl s3 rfl rfl rfl rfl) rfl ?_
        refine ne (eo_mv rfl rfl) rfl ?_
        refine go_nil ?_
        refine gq_next ?_
        refine gc_block ?_
        refine loop2 (fun (y : Nat) (f1 : Nat → Bool) => (y : Int) ≤ k * H ∧ ∀ j, j < (k * W * (k * H)).toNat → f1 j = if (j : Int) < y * (k * W) then enlF W k f j else false) (fun (y : Nat) (f1 : Nat → Bool) => (k * H - y).toNat) (fun (y : Nat) (f1 : Nat → Bool) => [(1, .int .i64 k), (2, .pointer (some ⟨g2, 0, none⟩)), (4, .pointer (some ⟨g4, 0, none⟩)), (7, .pointer (some ⟨g7, 0, none⟩)), (45, .int .i64 (k * H)), (46, .int .i64 (y : Int))]) (fun (y : Nat) (f1 : Nat → Bool) => [⟨g7, 24, [.int .i64 (k * W), .int .i64 (k * H), .slice (some ⟨gb43, 0, none⟩) (((k * W) * (k * H)).toNat) cb43]⟩, ⟨gb43, 4, tab (((k * W) * (k * H)).toNat) (bv f1) ++ sb43⟩, ⟨g4, 24, [.int .i64 0, .int .i64 0, .slice none 0 0]⟩, ⟨g2, 24, [.int .i64 W, .int .i64 H, .slice A n c]⟩]) 0 (fun _ => false) ⟨by omega, fill_new (by simp)⟩ ⟨rfl, rfl, rfl, rfl, rfl, rfl, trivial⟩ (List.Sublist.refl _) ?_
        rintro y f1 ⟨hy, hI⟩
        refine gc_seq ?_
        refine gc_region ?_
        refine ne (eo_lss rfl rfl rfl) rfl ?_
        refine go_nil ?_
        refine gq_next ?_
        refine gc_seq ?_
        refine gc_cond rfl (fun hc3 => ?_) (fun hc3 => ?_)
        ·
          replace hc3 := of_decide_eq_true hc3
          have hyb := idx_bd (W := k * W) (H := k * H) (x := 0) (y := y) (by omega) (by omega) (by omega) (by omega)
          have ha : ((y : Int) + 1) * (k * W) = y * (k * W) + k * W := add1_mul
          have hs : ((y : Int) - 1) * (k * W) = y * (k * W) - k * W := sub1_mul
          have hyk : 0 < (y : Int) % k → k * W ≤ y * (k * W) := fun h => by
            have h1 : 1 * (k * W) ≤ (y : Int) * (k * W) := Int.mul_le_mul_of_nonneg_right (by by_cases h0 : y = 0; (· subst h0; simp at h); omega) (by omega)
            omega
          refine gc_skip ?_
          refine gq_next ?_
          refine gc_seq ?_
          refine gc_block ?_
          refine gc_seq ?_
          refine gc_region ?_
          refine ne (eo_mv rfl rfl) rfl ?_
          refine ne (eo_as rfl rfl) rfl ?_
          refine go_nil ?_
          refine gq_next ?_
          refine gc_seq ?_
          refine gc_region ?_
          refine ne (eo_field rfl f24_2 rfl) rfl ?_
          refine ne (eo_load 0 rfl s22 rfl rfl rfl rfl) rfl ?_
          refine ne (eo_mv rfl rfl) rfl ?_
          refine ne (eo_field rfl f24_0 rfl) rfl ?_
          refine ne (eo_load 0 rfl s3 rfl rfl rfl rfl) rfl ?_
          refine ne (eo_mul rfl rfl rfl (by omega) (by omega)) rfl ?_
          refine ne (eo_mv rfl rfl) rfl ?_
          refine ne (eo_add rfl rfl rfl (by omega) (by omega)) rfl ?_
          refine ne (eo_field rfl f24_0 rfl) rfl ?_
          refine ne (eo_load 0 rfl s3 rfl rfl rfl rfl) rfl ?_
          refine ne (eo_mul rfl rfl rfl (by omega) (by omega)) rfl ?_
          refine ne (eo_sl0 rfl sl22 rfl rfl rfl (by omega) (by omega) (by omega) (by omega)) rfl ?_
          refine ne (eo_as rfl rfl) rfl ?_
          refine go_nil ?_
          refine gq_next ?_
          refine gc_seq ?_
          refine gc_seq ?_
          refine gc_region ?_
          refine ne (eo_mv rfl rfl) rfl ?_
          refine ne (eo_mv rfl rfl) rfl ?_
          refine ne (eo_rem rfl rfl rfl (by omega) (by omega)) rfl ?_
          refine ne (eo_gtr rfl rfl rfl) rfl ?_
          refine go_nil ?_
          refine gq_next ?_
          refine gc_cond rfl (fun hc4 => ?_) (fun hc4 => ?_)
          ·
            replace hc4 := of_decide_eq_true hc4
            refine gc_seq ?_
            refine gc_region ?_
            refine ne (eo_mv rfl rfl) rfl ?_
            refine ne (eo_field rfl f24_2 rfl) rfl ?_
            refine ne (eo_load 0 rfl s22 rfl rfl rfl rfl) rfl ?_
            refine ne (eo_mv rfl rfl) rfl ?_
            refine ne (eo_sub rfl rfl rfl (by omega) (by omega)) rfl ?_
            refine ne (eo_field rfl f24_0 rfl) rfl ?_
            refine ne (eo_load 0 rfl s3 rfl rfl rfl rfl) rfl ?_
            refine ne (eo_mul rfl rfl rfl (by have := hyk hc4; omega) (by have := hyk hc4; omega)) rfl ?_
            refine ne (eo_mv rfl rfl) rfl ?_
            refine ne (eo_field rfl f24_0 rfl) rfl ?_
            refine ne (eo_load 0 rfl s3 rfl rfl rfl rfl) rfl ?_
            refine ne (eo_mul rfl rfl rfl (by omega) (by omega)) rfl ?_
            refine ne (eo_sl0 rfl sl22 rfl rfl rfl (by have := hyk hc4; omega) (by have := hyk hc4; omega) (by have := hyk hc4; omega) (by have := hyk hc4; omega)) rfl ?_
            refine nx (xo_cpyb (q := (fun i => f1 (((((y : Int) - 1) * (k * W))).toNat + i))) 1 rfl sl22 rfl rfl rfl (by omega) (fun W1 hO => (tabs_cutb hO 1 rfl (by omega))) (by simp) (by omega)) rfl ?_
            rintro _ _ ⟨rfl, rfl⟩
            refine go_nil ?_
            refine gq_next ?_
            refine gc_exit ?_
            refine gq_then_exit ?_
            refine gq_block_hit ?_
            refine gq_next ?_
            refine gc_region ?_
            refine ne (eo_add rfl rfl rfl (by omega) (by omega)) rfl ?_
            refine ne (eo_mv rfl rfl) rfl ?_
            refine go_nil ?_
            exact round2 (y + 1) (spl f1 ((((y : Int) * (k * W))).toNat) ((((y : Int) * (k * W))).toNat - ((((y : Int) - 1) * (k * W))).toNat) (fun i => f1 (((((y : Int) - 1) * (k * W))).toNat + i))) ⟨by omega, by first
              | exact fill_to hI (by push_cast; rw [ha]; omega)
              | exact fill_spl hI (by omega) (by push_cast; rw [ha]; omega) (fun i hi hn => by rw [hI _ (by omega), if_pos (by omega)]; exact enl_copy (by omega) hc4 (by omega) (by omega) (by omega))⟩ (by omega) ⟨rfl, rfl, rfl, rfl, rfl, rfl, trivial⟩ (List.Sublist.refl _)
          ·
            replace hc4 := of_decide_eq_false hc4
            refine gc_skip ?_
            refine gq_next ?_
            refine gc_seq ?_
            refine gc_region ?_
            refine ne (eo_mv rfl rfl) rfl ?_
            refine ne (eo_len rfl Try.underlying22 rfl) rfl ?_
            refine ne (eo_mv rfl rfl) rfl ?_
            refine go_nil ?_
            refine gq_next ?_
            refine gc_block ?_
            refine loop2 (fun (x : Nat) (f1 : Nat → Bool) => (x : Int) ≤ k * W ∧ ∀ j, j < (k * W * (k * H)).toNat → f1 j = if (j : Int) < y * (k * W) + x then enlF W k f j else false) (fun (x : Nat) (f1 : Nat → Bool) => (k * W - x).toNat) (fun (x : Nat) (f1 : Nat → Bool) => [(1, .int .i64 k), (2, .pointer (some ⟨g2, 0, none⟩)), (4, .pointer (some ⟨g4, 0, none⟩)), (7, .pointer (some ⟨g7, 0, none⟩)), (8, .int .i64 (y : Int)), (9, .slice (some ⟨gb43, (((y : Int) * (k * W))).toNat, none⟩) (((((y : Int) + 1) * (k * W))).toNat - (((y : Int) * (k * W))).toNat) (cb43 - (((y : Int) * (k * W))).toNat)), (45, .int .i64 (k * H)), (46, .int .i64 (y : Int)), (80, .int .i64 (((((((y : Int) + 1) * (k * W))).toNat - (((y : Int) * (k * W))).toNat) : Nat) : Int)), (81, .int .i64 (x : Int))]) (fun (x : Nat) (f1 : Nat → Bool) => [⟨g7, 24, [.int .i64 (k * W), .int .i64 (k * H), .slice (some ⟨gb43, 0, none⟩) (((k * W) * (k * H)).toNat) cb43]⟩, ⟨gb43, 4, tab (((k * W) * (k * H)).toNat) (bv f1) ++ sb43⟩, ⟨g4, 24, [.int .i64 0, .int .i64 0, .slice none 0 0]⟩, ⟨g2, 24, [.int .i64 W, .int .i64 H, .slice A n c]⟩]) 0 f1 ⟨by omega, fill_to hI (by simp)⟩ ⟨rfl, rfl, rfl, rfl, rfl, rfl, rfl, rfl, rfl, rfl, trivial⟩ (List.Sublist.refl _) ?_
            rintro x f1 ⟨hx, hI⟩
            refine gc_seq ?_
            refine gc_region ?_
            refine ne (eo_lss rfl rfl rfl) rfl ?_
            refine go_nil ?_
            refine gq_next ?_
            refine gc_seq ?_
            refine gc_cond rfl (fun hc5 => ?_) (fun hc5 => ?_)
            ·
              replace hc5 := of_decide_eq_true hc5
              have hxb := enl_bd (W := W) (H := H) (k := k) (y := y) (x := x) (by omega) (by omega) (by omega) (by omega) (by omega)
              refine gc_skip ?_
              refine gq_next ?_
              refine gc_seq ?_
              refine gc_block ?_
              refine gc_seq ?_
              refine gc_region ?_
              refine ne (eo_mv rfl rfl) rfl ?_
              refine ne (eo_as rfl rfl) rfl ?_
              refine go_nil ?_
              refine gq_next ?_
              refine gc_draw [] [0, 1, 2, 3, 4, 5, 6, 7, 8, 9, 10, 11, 12, 13, 14, 15, 16] [] [17] (by kernel_rfl) (by kernel_rfl) ?_
              refine gp_nil ?_
              refine de rfl (eo_mv rfl rfl) rfl ?_
              refine de rfl (eo_mv rfl rfl) rfl ?_
              refine de rfl (eo_field rfl f24_2 rfl) rfl ?_
              refine de rfl (eo_load 3 rfl s22 rfl rfl rfl rfl) rfl ?_
              refine de rfl (eo_mv rfl rfl) rfl ?_
              refine de rfl (eo_mv rfl rfl) rfl ?_
              refine de rfl (eo_quo rfl rfl rfl (by omega) (by omega) (by omega)) rfl ?_
              refine de rfl (eo_field rfl f24_0 rfl) rfl ?_
              refine de rfl (eo_load 3 rfl s3 rfl rfl rfl rfl) rfl ?_
              refine de rfl (eo_mul rfl rfl rfl (by omega) (by omega)) rfl ?_
              refine de rfl (eo_mv rfl rfl) rfl ?_
              refine de rfl (eo_mv rfl rfl) rfl ?_
              refine de rfl (eo_quo rfl rfl rfl (by omega) (by omega) (by omega)) rfl ?_
              refine de rfl (eo_add rfl rfl rfl (by omega) (by omega)) rfl ?_
              refine de rfl (eo_indexR rfl sl22 rfl rfl hr (by simp) (by omega) (by omega)) rfl ?_
              refine de rfl (eo_load_old rfl s4 rfl (Rd.tabb hr (by omega)) (by simp)) rfl ?_
              refine de rfl (eo_index rfl sl22 rfl rfl (by omega) (by omega)) rfl ?_
              refine ge_nil ?_
              refine ga_nil ?_
              refine iu rfl (xo_setb 1 rfl s4 rfl rfl rfl (by omega)) ?_
              rintro _ _ ⟨rfl, rfl⟩
              refine gi_nil ?_
              refine gq_nq ?_
              refine gq_block_end ?_
              refine gq_next ?_
              refine gc_region ?_
              refine ne (eo_add rfl rfl rfl (by omega) (by omega)) rfl ?_
              refine ne (eo_mv rfl rfl) rfl ?_
              refine go_nil ?_
              exact round2 (x + 1) (upd f1 ((((y : Int) * (k * W))).toNat + x) (f ((((((y : Int) / k) * W) + ((x : Int) / k))).toNat))) ⟨by omega, fill_to (fill_up hI (by push_cast; omega) (enl_at (by omega) (by omega) (by push_cast; omega))) (by push_cast; omega)⟩ (by omega) ⟨rfl, rfl, rfl, rfl, rfl, rfl, rfl, rfl, rfl, rfl, trivial⟩ (List.Sublist.refl _)
            ·
              replace hc5 := of_decide_eq_false hc5
              refine gc_exit ?_
              refine gq_then_exit ?_
              refine gq_then_exit ?_
              refine gq_block_hit ?_
              refine gq_block_end ?_
              refine gq_next ?_
              refine gc_region ?_
              refine ne (eo_add rfl rfl rfl (by omega) (by omega)) rfl ?_
              refine ne (eo_mv rfl rfl) rfl ?_
              refine go_nil ?_
              exact round2 (y + 1) f1 ⟨by omega, by first
                | exact fill_to hI (by push_cast; rw [ha]; omega)
                | exact fill_spl hI (by omega) (by push_cast; rw [ha]; omega) (fun i hi hn => by rw [hI _ (by omega), if_pos (by omega)]; exact enl_copy (by omega) hc4 (by omega) (by omega) (by omega))⟩ (by omega) ⟨rfl, rfl, rfl, rfl, rfl, rfl, trivial⟩ (List.Sublist.refl _)
        ·
          replace hc3 := of_decide_eq_false hc3
          refine gc_exit ?_
          refine gq_then_exit ?_
          refine gq_then_exit ?_
          refine gq_block_hit ?_
          refine gq_next ?_
          refine gc_seq ?_
          refine gc_region ?_
          refine ne (eo_loadA 0 rfl a24 rfl rfl rfl rfl) rfl ?_
          refine nu (xo_storeA 2 rfl a24 rfl rfl (ones_cons (by first | rfl | exact AS.one) (ones_cons (by first | rfl | exact AS.one) (ones_cons (by first | rfl | exact AS.one) ones_nil))) rfl rfl rfl rfl) ?_
          rintro _ _ ⟨rfl, rfl⟩
          refine ne (eo_as rfl rfl) rfl ?_
          refine go_nil ?_
          refine gq_next ?_
          refine gc_ret ?_
          refine gq_results (resCT 2 rfl a24 rfl rfl rfl rfl rfl) ?_
          exact fun W1 hO => rx_own 1 hO rfl (enlR_ok hv (by omega) hf2) (fill_end hI (by rw [show (y : Int) = k * H by omega, Int.mul_comm (k * H)]; omega)) (by omega)

/-- barscan/barscanref31.Enlarge -/
theorem renl_x (W H : Int) (A : Option Addr) (n c : Nat) (f : Nat → Bool) (k : Int) (w : World) (hr : Rd w A (tab n (bv f)))  :
    Calls Try.prog 38 #[.agg #[.int .i64 W, .int .i64 H, .slice A n c], .int .i64 k] w (fun e w' => ∃ v Hn, e = .returned v ∧ RX (enlR ⟨W, H, n, f⟩ k) v Hn ∧ Ow [] w w' Hn) := by
  refine calls_enter (N := ⟨66, []⟩) [] ([]) Try.func38 rfl rfl rfl (Ow.start _) ?_
  refine gc_seq ?_
  refine gc_region ?_
  refine nx (xo_boxA rfl rfl) rfl ?_
  rintro _ _ ⟨g2, rfl, rfl⟩
  refine nx (xo_alloc rfl z24) rfl ?_
  rintro _ _ ⟨g4, rfl, rfl⟩
  refine ne (eo_as rfl rfl) rfl ?_
  refine go_nil ?_
  refine gq_next ?_
  refine gc_seq ?_
  refine gc_seq ?_
  refine gc_region ?_
  refine ne (eo_loadA 1 rfl a24 rfl rfl rfl rfl) rfl ?_
  refine ne (eo_call rfl en36 rfl (fun W1 hO => valid_c _ _ _ _ _ W1  )) rfl ?_
  refine ne (eo_not rfl rfl) rfl ?_
  refine go_nil ?_
  refine gq_next ?_
  refine gc_cond rfl (fun hc0 => ?_) (fun hc0 => ?_)
  ·
    have hd0 := (not_t hc0)
    have hv := not_t hc0
    refine gc_seq ?_
    refine gc_region ?_
    refine ne (eo_build rfl rfl (b24_)) rfl ?_
    refine nu (xo_storeA 0 rfl a24 rfl rfl (ones_cons (by first | rfl | exact AS.one) (ones_cons (by first | rfl | exact AS.one) (ones_cons (by first | rfl | exact AS.one) ones_nil))) rfl rfl rfl rfl) ?_
    rintro _ _ ⟨rfl, rfl⟩
    refine ne (eo_as rfl rfl) rfl ?_
    refine go_nil ?_
    refine gq_next ?_
    refine gc_ret ?_
    refine gq_then_ret ?_
    refine gq_results (resCT 0 rfl a24 rfl rfl rfl rfl rfl) ?_
    exact fun W1 hO => rx_nil hO (enlR_no hv)
  ·
    have hd0 := (not_f hc0)
    have hv := not_f hc0
    obtain ⟨v1, v2, v3, v4, v5, v6⟩ := vldB_iff.1 hv
    have v7 := vld_pos hv
    refine gc_skip ?_
    refine gq_next ?_
    refine gc_seq ?_
    refine gc_seq ?_
    refine gc_region ?_
    refine ne (eo_mv rfl rfl) rfl ?_
    refine ne (eo_lss rfl rfl rfl) rfl ?_
    refine ne (eo_mv rfl rfl) rfl ?_
    refine ng rfl rfl (fun h => eo_mv rfl rfl) rfl ?_
    refine ng rfl rfl (fun h => eo_gtr rfl (ev_if h rfl) rfl) rfl ?_
    refine ne (eo_or rfl rfl (fun hb => ev_if hb rfl)) rfl ?_
    refine go_nil ?_
    refine gq_next ?_
    refine gc_cond rfl (fun hc1 => ?_) (fun hc1 => ?_)
    ·
      have hd1 := (or_t hc1).imp (fun h => of_decide_eq_true h) (fun h => of_decide_eq_true h)
      refine gc_seq ?_
      refine gc_region ?_
      refine ne (eo_build rfl rfl (b24_)) rfl ?_
      refine nu (xo_storeA 0 rfl a24 rfl rfl (ones_cons (by first | rfl | exact AS.one) (ones_cons (by first | rfl | exact AS.one) (ones_cons (by first | rfl | exact AS.one) ones_nil))) rfl rfl rfl rfl) ?_
      rintro _ _ ⟨rfl, rfl⟩
      refine ne (eo_as rfl rfl) rfl ?_
      refine go_nil ?_
      refine gq_next ?_
      refine gc_ret ?_
      refine gq_then_ret ?_
      refine gq_results (resCT 0 rfl a24 rfl rfl rfl rfl rfl) ?_
      exact fun W1 hO => rx_nil hO (enlR_range hv hd1)
    ·
      have hd1 := (or_f hc1).imp (fun h => of_decide_eq_false h) (fun h => of_decide_eq_false h)
      have hkW := mul_in (a := k) (b := W) (by omega) (by omega) (by omega) (by omega)
      have hkH := mul_in (a := k) (b := H) (by omega) (by omega) (by omega) (by omega)
      refine gc_skip ?_
      refine gq_next ?_
      refine gc_seq ?_
      refine gc_seq ?_
      refine gc_region ?_
      refine ne (eo_mv rfl rfl) rfl ?_
      refine ne (eo_field rfl f24_0 rfl) rfl ?_
      refine ne (eo_load 1 rfl s3 rfl rfl rfl rfl) rfl ?_
      refine ne (eo_mul rfl rfl rfl (by omega) (by omega)) rfl ?_
      refine ne (eo_mv rfl rfl) rfl ?_
      refine ne (eo_field rfl f24_1 rfl) rfl ?_
      refine ne (eo_load 1 rfl s3 rfl rfl rfl rfl) rfl ?_
      refine ne (eo_mul rfl rfl rfl (by omega) (by omega)) rfl ?_
      refine ne (eo_call rfl en49 rfl (fun W1 hO => fits_c _ _ W1  )) rfl ?_
      refine ne (eo_not rfl rfl) rfl ?_
      refine go_nil ?_
      refine gq_next ?_
      refine gc_cond rfl (fun hc2 => ?_) (fun hc2 => ?_)
      ·
        have hd2 := (not_t hc2)
        have hf2 := not_t hc2
        refine gc_seq ?_
        refine gc_region ?_
        refine ne (eo_build rfl rfl (b24_)) rfl ?_
        refine nu (xo_storeA 0 rfl a24 rfl rfl (ones_cons (by first | rfl | exact AS.one) (ones_cons (by first | rfl | exact AS.one) (ones_cons (by first | rfl | exact AS.one) ones_nil))) rfl rfl rfl rfl) ?_
        rintro _ _ ⟨rfl, rfl⟩
        refine ne (eo_as rfl rfl) rfl ?_
        refine go_nil ?_
        refine gq_next ?_
        refine gc_ret ?_
        refine gq_then_ret ?_
        refine gq_results (resCT 0 rfl a24 rfl rfl rfl rfl rfl) ?_
        exact fun W1 hO => rx_nil hO (enlR_long hv (by omega) hf2)
      ·
        have hd2 := (not_f hc2)
        have hf2 := not_f hc2
        have hfb := fits_bd hf2
        obtain ⟨f1, f2, f3, f4, f5⟩ := fitsB_iff.1 hf2
        refine gc_skip ?_
        refine gq_next ?_
        refine gc_seq ?_
        refine gc_region ?_
        refine ne (eo_mv rfl rfl) rfl ?_
        refine ne (eo_field rfl f24_0 rfl) rfl ?_
        refine ne (eo_load 1 rfl s3 rfl rfl rfl rfl) rfl ?_
        refine ne (eo_mul rfl rfl rfl (by omega) (by omega)) rfl ?_
        refine ne (eo_mv rfl rfl) rfl ?_
        refine ne (eo_field rfl f24_1 rfl) rfl ?_
        refine ne (eo_load 1 rfl s3 rfl rfl rfl rfl) rfl ?_
        refine ne (eo_mul rfl rfl rfl (by omega) (by omega)) rfl ?_
        refine ne (eo_build rfl rfl (b24_01 _ _)) rfl ?_
        refine nx (xo_alloc rfl z24) rfl ?_
        rintro _ _ ⟨g6, rfl, rfl⟩
        refine nu (xo_storeA 0 rfl a24 rfl rfl (ones_cons (by first | rfl | exact AS.one) (ones_cons (by first | rfl | exact AS.one) (ones_cons (by first | rfl | exact AS.one) ones_nil))) rfl rfl rfl rfl) ?_
        rintro _ _ ⟨rfl, rfl⟩
        refine go_nil ?_
        refine gq_next ?_
        refine gc_seq ?_
        refine gc_seq ?_
        refine gc_region ?_
        refine ne (eo_as rfl rfl) rfl ?_
        refine go_nil ?_
        refine gq_next ?_
        refine gc_block ?_
        refine loop3 (fun (y : Nat) (q : Nat) (s : AS) => (y : Int) ≤ k * H ∧ (q : Int) = y * (k * W) ∧ s.Ok 1 q (tab q (bv (enlF W k f)))) (fun (y : Nat) (q : Nat) (s : AS) => (k * H - y).toNat) (fun (y : Nat) (q : Nat) (s : AS) => [(1, .int .i64 k), (2, .pointer (some ⟨g2, 0, none⟩)), (4, .pointer (some ⟨g4, 0, none⟩)), (6, .pointer (some ⟨g6, 0, none⟩)), (7, .int .i64 (y : Int))]) (fun (y : Nat) (q : Nat) (s : AS) => ⟨g6, 24, [.int .i64 (k * W), .int .i64 (k * H), s.val q]⟩ :: ⟨g4, 24, [.int .i64 0, .int .i64 0, .slice none 0 0]⟩ :: ⟨g2, 24, [.int .i64 W, .int .i64 H, .slice A n c]⟩ :: s.blks 4 (tab q (bv (enlF W k f)))) 0 0 .nil ⟨by omega, by simp, AS.Ok0⟩ ⟨rfl, rfl, rfl, rfl, rfl, trivial⟩ (List.Sublist.refl _) ?_
        rintro y q s ⟨hy, hq, hs⟩
        refine gc_seq ?_
        refine gc_seq ?_
        refine gc_region ?_
        refine ne (eo_mv rfl rfl) rfl ?_
        refine ne (eo_field rfl f24_1 rfl) rfl ?_
        refine ne (eo_load 0 rfl s3 rfl rfl rfl rfl) rfl ?_
        refine ne (eo_lss rfl rfl rfl) rfl ?_
        refine go_nil ?_
        refine gq_next ?_
        refine gc_cond rfl (fun hc3 => ?_) (fun hc3 => ?_)
        ·
          replace hc3 := of_decide_eq_true hc3
          have hyb := idx_bd (W := k * W) (H := k * H) (x := 0) (y := y) (by omega) (by omega) (by omega) (by omega)
          have ha : ((y : Int) + 1) * (k * W) = y * (k * W) + k * W := add1_mul
          refine gc_skip ?_
          refine gq_next ?_
          refine gc_seq ?_
          refine gc_block ?_
          refine gc_seq ?_
          refine gc_region ?_
          refine ne (eo_as rfl rfl) rfl ?_
          refine go_nil ?_
          refine gq_next ?_
          refine gc_block ?_
          refine loop3 (fun (x : Nat) (q : Nat) (s : AS) => (x : Int) ≤ k * W ∧ (q : Int) = y * (k * W) + x ∧ s.Ok 1 q (tab q (bv (enlF W k f)))) (fun (x : Nat) (q : Nat) (s : AS) => (k * W - x).toNat) (fun (x : Nat) (q : Nat) (s : AS) => [(1, .int .i64 k), (2, .pointer (some ⟨g2, 0, none⟩)), (4, .pointer (some ⟨g4, 0, none⟩)), (6, .pointer (some ⟨g6, 0, none⟩)), (7, .int .i64 (y : Int)), (8, .int .i64 (x : Int))]) (fun (x : Nat) (q : Nat) (s : AS) => ⟨g6, 24, [.int .i64 (k * W), .int .i64 (k * H), s.val q]⟩ :: ⟨g4, 24, [.int .i64 0, .int .i64 0, .slice none 0 0]⟩ :: ⟨g2, 24, [.int .i64 W, .int .i64 H, .slice A n c]⟩ :: s.blks 4 (tab q (bv (enlF W k f)))) 0 q s ⟨by omega, by omega, hs⟩ ⟨rfl, rfl, rfl, rfl, rfl, rfl, trivial⟩ (List.Sublist.refl _) ?_
          rintro x q s ⟨hx, hq, hs⟩
          refine gc_seq ?_
          refine gc_seq ?_
          refine gc_region ?_
          refine ne (eo_mv rfl rfl) rfl ?_
          refine ne (eo_field rfl f24_0 rfl) rfl ?_
          refine ne (eo_load 0 rfl s3 rfl rfl rfl rfl) rfl ?_
          refine ne (eo_lss rfl rfl rfl) rfl ?_
          refine go_nil ?_
          refine gq_next ?_
          refine gc_cond rfl (fun hc4 => ?_) (fun hc4 => ?_)
          ·
            replace hc4 := of_decide_eq_true hc4
            have hxb := enl_bd (W := W) (H := H) (k := k) (y := y) (x := x) (by omega) (by omega) (by omega) (by omega) (by omega)
            refine gc_skip ?_
            refine gq_next ?_
            refine gc_seq ?_
            refine gc_block ?_
            refine gc_draw [] [0, 1, 2, 3, 4, 5, 6, 7, 8, 9] [10] [11, 12, 13] (by kernel_rfl) (by kernel_rfl) ?_
            refine gp_nil ?_
            refine de rfl (eo_field rfl f24_2 rfl) rfl ?_
            refine de rfl (eo_load 0 rfl s22 rfl rfl rfl rfl) rfl ?_
            refine de rfl (eo_loadA 2 rfl a24 rfl rfl rfl rfl) rfl ?_
            refine de rfl (eo_mv rfl rfl) rfl ?_
            refine de rfl (eo_mv rfl rfl) rfl ?_
            refine de rfl (eo_quo rfl rfl rfl (by omega) (by omega) (by omega)) rfl ?_
            refine de rfl (eo_mv rfl rfl) rfl ?_
            refine de rfl (eo_mv rfl rfl) rfl ?_
            refine de rfl (eo_quo rfl rfl rfl (by omega) (by omega) (by omega)) rfl ?_
            refine de rfl (eo_call rfl en32 rfl (fun W1 hO => rat_c _ _ _ _ _ _ _ _ W1 (hr.old0 hO) )) rfl ?_
            refine ge_nil ?_
            refine da rfl (xo_lit1 rfl Try.underlying22 e4 rfl (by first | rfl | exact AS.one)) rfl ?_
            rintro _ _ ⟨g62, rfl, rfl⟩
            refine ⟨by first | exact (List.Sublist.cons _ (List.Sublist.refl _)) | exact (List.sublist_append_left _ _), ?_⟩
            refine ga_nil ?_
            refine ix rfl (xo_app1b 4 rfl rfl Try.underlying22 e4 rfl hs rfl rfl (by rw [← enl_at (y := y) (x := x) (by omega) (by omega) hq]; exact at_in hv (by omega) (by omega) (by omega) (by omega)) (by omega)) rfl ?_
            rintro _ _ ⟨s63, hs63, rfl, rfl⟩
            refine ie rfl (eo_field rfl f24_2 rfl) rfl ?_
            refine iu rfl (xo_store 1 rfl s22 rfl rfl (by first | rfl | exact AS.one) rfl rfl (by simp)) ?_
            rintro _ _ ⟨rfl, rfl⟩
            refine gi_nil ?_
            refine gq_nq ?_
            refine gq_block_end ?_
            refine gq_next ?_
            refine gc_region ?_
            refine ne (eo_mv rfl rfl) rfl ?_
            refine ne (eo_add rfl rfl rfl (by omega) (by omega)) rfl ?_
            refine ne (eo_as rfl rfl) rfl ?_
            refine go_nil ?_
            exact round3 (x + 1) (q + 1) s63 ⟨by omega, by push_cast; omega, hs63⟩ (by omega) ⟨rfl, rfl, rfl, rfl, rfl, rfl, trivial⟩ (List.Sublist.cons _ (List.Sublist.refl _))
          ·
            replace hc4 := of_decide_eq_false hc4
            refine gc_exit ?_
            refine gq_then_exit ?_
            refine gq_then_exit ?_
            refine gq_block_hit ?_
            refine gq_block_end ?_
            refine gq_next ?_
            refine gc_region ?_
            refine ne (eo_mv rfl rfl) rfl ?_
            refine ne (eo_add rfl rfl rfl (by omega) (by omega)) rfl ?_
            refine ne (eo_as rfl rfl) rfl ?_
            refine go_nil ?_
            exact round3 (y + 1) q s ⟨by omega, by push_cast; omega, hs⟩ (by omega) ⟨rfl, rfl, rfl, rfl, rfl, trivial⟩ (List.Sublist.refl _)
        ·
          replace hc3 := of_decide_eq_false hc3
          refine gc_exit ?_
          refine gq_then_exit ?_
          refine gq_then_exit ?_
          refine gq_block_hit ?_
          refine gq_next ?_
          refine gc_seq ?_
          refine gc_region ?_
          refine ne (eo_loadA 0 rfl a24 rfl rfl rfl rfl) rfl ?_
          refine nu (xo_storeA 1 rfl a24 rfl rfl (ones_cons (by first | rfl | exact AS.one) (ones_cons (by first | rfl | exact AS.one) (ones_cons (by first | rfl | exact AS.one) ones_nil))) rfl rfl rfl rfl) ?_
          rintro _ _ ⟨rfl, rfl⟩
          refine ne (eo_as rfl rfl) rfl ?_
          refine go_nil ?_
          refine gq_next ?_
          refine gc_ret ?_
          refine gq_results (resCT 1 rfl a24 rfl rfl rfl rfl rfl) ?_
          have hkn : (k * W * (k * H)).toNat = q := by rw [show (y : Int) = k * H by omega, Int.mul_comm (k * H)] at hq; omega
          subst hkn
          exact fun W1 hO => rx_as 3 hO rfl hs (enlR_ok hv (by omega) hf2)

/-- barscan/barscanref31.turned -/
theorem rturned_c (W : Int) (H : Int) (i : Int) (w : World)  (h1 : 1 ≤ W) (h2 : W ≤ 4096) (h3 : 1 ≤ H) (h4 : H ≤ 4096) (h5 : 0 ≤ i) (h6 : i < W * H) :
    Calls Try.prog 61 #[.int .i64 W, .int .i64 H, .int .i64 i] w (fun e w' => e = .returned (.int .i64 ((H - 1 - i % H) * W + i / H)) ∧ Ext w w') := by
  have hb := rturned_bd h1 h2 h3 h4 h5 h6
  refine calls_enter (N := ⟨23, []⟩) [] ([]) Try.func61 rfl rfl rfl (Ow.start _) ?_
  refine gc_seq ?_
  refine gc_region ?_
  refine ne (eo_as rfl rfl) rfl ?_
  refine go_nil ?_
  refine gq_next ?_
  refine gc_seq ?_
  refine gc_region ?_
  refine ne (eo_mv rfl rfl) rfl ?_
  refine ne (eo_mv rfl rfl) rfl ?_
  refine ne (eo_rem rfl rfl rfl (by omega) (by omega)) rfl ?_
  refine ne (eo_as rfl rfl) rfl ?_
  refine go_nil ?_
  refine gq_next ?_
  refine gc_seq ?_
  refine gc_region ?_
  refine ne (eo_mv rfl rfl) rfl ?_
  refine ne (eo_mv rfl rfl) rfl ?_
  refine ne (eo_quo rfl rfl rfl (by omega) (by omega) (by omega)) rfl ?_
  refine ne (eo_as rfl rfl) rfl ?_
  refine go_nil ?_
  refine gq_next ?_
  refine gc_seq ?_
  refine gc_region ?_
  refine ne (eo_mv rfl rfl) rfl ?_
  refine ne (eo_sub rfl rfl rfl (by omega) (by omega)) rfl ?_
  refine ne (eo_mv rfl rfl) rfl ?_
  refine ne (eo_sub rfl rfl rfl (by omega) (by omega)) rfl ?_
  refine ne (eo_mv rfl rfl) rfl ?_
  refine ne (eo_mul rfl rfl rfl (by omega) (by omega)) rfl ?_
  refine ne (eo_mv rfl rfl) rfl ?_
  refine ne (eo_add rfl rfl rfl (by omega) (by omega)) rfl ?_
  refine ne (eo_as rfl rfl) rfl ?_
  refine go_nil ?_
  refine gq_next ?_
  refine gc_ret ?_
  refine gq_results (res1 rfl rfl) ?_
  exact fun W1 hO => ⟨rfl, hO.toExt⟩

/-- barscan/barscanref31.Turn -/
theorem rturn_x (W H : Int) (A : Option Addr) (n c : Nat) (f : Nat → Bool) (t : Int) (w : World) (hr : Rd w A (tab n (bv f)))  :
    Calls Try.prog 39 #[.agg #[.int .i64 W, .int .i64 H, .slice A n c], .int .i64 t] w (fun e w' => ∃ v Hn, e = .returned v ∧ RX (turnR ⟨W, H, n, f⟩ t) v Hn ∧ Ow [] w w' Hn) := by
  refine calls_enter (N := ⟨58, []⟩) [] ([]) Try.func39 rfl rfl rfl (Ow.start _) ?_
  refine gc_seq ?_
  refine gc_region ?_
  refine nx (xo_boxA rfl rfl) rfl ?_
  rintro _ _ ⟨g2, rfl, rfl⟩
  refine nx (xo_alloc rfl z24) rfl ?_
  rintro _ _ ⟨g4, rfl, rfl⟩
  refine ne (eo_as rfl rfl) rfl ?_
  refine go_nil ?_
  refine gq_next ?_
  refine gc_seq ?_
  refine gc_seq ?_
  refine gc_region ?_
  refine ne (eo_loadA 1 rfl a24 rfl rfl rfl rfl) rfl ?_
  refine ne (eo_call rfl en36 rfl (fun W1 hO => valid_c _ _ _ _ _ W1  )) rfl ?_
  refine ne (eo_not rfl rfl) rfl ?_
  refine go_nil ?_
  refine gq_next ?_
  refine gc_cond rfl (fun hc0 => ?_) (fun hc0 => ?_)
  ·
    have hd0 := (not_t hc0)
    have hv := not_t hc0
    refine gc_seq ?_
    refine gc_region ?_
    refine ne (eo_build rfl rfl (b24_)) rfl ?_
    refine nu (xo_storeA 0 rfl a24 rfl rfl (ones_cons (by first | rfl | exact AS.one) (ones_cons (by first | rfl | exact AS.one) (ones_cons (by first | rfl | exact AS.one) ones_nil))) rfl rfl rfl rfl) ?_
    rintro _ _ ⟨rfl, rfl⟩
    refine ne (eo_as rfl rfl) rfl ?_
    refine go_nil ?_
    refine gq_next ?_
    refine gc_ret ?_
    refine gq_then_ret ?_
    refine gq_results (resCT 0 rfl a24 rfl rfl rfl rfl rfl) ?_
    exact fun W1 hO => rx_nil hO (turnR_no hv)
  ·
    have hd0 := (not_f hc0)
    have hv := not_f hc0
    obtain ⟨v1, v2, v3, v4, v5, v6⟩ := vldB_iff.1 hv
    have v7 := vld_pos hv
    refine gc_skip ?_
    refine gq_next ?_
    refine gc_seq ?_
    refine gc_draw_new (i := 9) (d := 6) [] [0, 1, 2, 3, 5, 6] [4, 7, 8] [10] (by kernel_rfl) (by kernel_rfl) rfl z24 rfl ?_
    refine gp_nil ?_
    refine de rfl (eo_field rfl f24_0 rfl) rfl ?_
    refine de rfl (eo_load 1 rfl s3 rfl rfl rfl rfl) rfl ?_
    refine de rfl (eo_field rfl f24_1 rfl) rfl ?_
    refine de rfl (eo_load 1 rfl s3 rfl rfl rfl rfl) rfl ?_
    refine de rfl (eo_field rfl f24_2 rfl) rfl ?_
    refine de rfl (eo_load 1 rfl s22 rfl rfl rfl rfl) rfl ?_
    refine ge_nil ?_
    refine ⟨rfl, ?_⟩
    refine da rfl (xo_lit rfl rfl lit22_0) rfl ?_
    rintro _ _ ⟨g18, rfl, rfl⟩
    refine ⟨by first | exact (List.Sublist.cons _ (List.Sublist.refl _)) | exact (List.sublist_append_left _ _), ?_⟩
    refine da rfl (xo_grabL (F := (bv f)) rfl Try.underlying22 e4.toN rfl rfl (fun W1 hO => (hr.old0 hO)) tab_oneb (by omega) (by omega) (by decide)) rfl ?_
    rintro _ _ ⟨gn21, cn21, sn21, rfl, rfl, hcn21⟩
    refine ⟨by first | exact (List.Sublist.cons _ (List.Sublist.refl _)) | exact (List.sublist_append_left _ _), ?_⟩
    refine da rfl (xo_of_eo (eo_build rfl rfl (b24_012 _ _ _ _ _))) rfl ?_
    rintro _ _ ⟨rfl, rfl⟩
    refine ⟨by first | exact (List.Sublist.cons _ (List.Sublist.refl _)) | exact (List.sublist_append_left _ _), ?_⟩
    refine ga_nil ?_
    intro g6
    refine iu rfl (xo_storeA 0 rfl a24 rfl rfl (ones_cons (by first | rfl | exact AS.one) (ones_cons (by first | rfl | exact AS.one) (ones_cons (by first | rfl | exact AS.one) ones_nil))) rfl rfl rfl rfl) ?_
    rintro _ _ ⟨rfl, rfl⟩
    refine gi_nil ?_
    refine gq_nq ?_
    refine gq_next ?_
    refine gc_seq ?_
    refine gc_seq ?_
    refine gc_region ?_
    refine ne (eo_as rfl rfl) rfl ?_
    refine go_nil ?_
    refine gq_next ?_
    refine gc_block ?_
    refine loop4 (fun (i : Nat) (gk : Nat) (ck : Nat) (sp : List Value) => (i : Int) ≤ t % 4 ∧ n ≤ ck) (fun (i : Nat) (gk : Nat) (ck : Nat) (sp : List Value) => (t % 4 - i).toNat) (fun (i : Nat) (gk : Nat) (ck : Nat) (sp : List Value) => [(1, .int .i64 t), (2, .pointer (some ⟨g2, 0, none⟩)), (4, .pointer (some ⟨g4, 0, none⟩)), (6, .pointer (some ⟨g6, 0, none⟩)), (7, .int .i64 (i : Int))]) (fun (i : Nat) (gk : Nat) (ck : Nat) (sp : List Value) => [⟨g6, 24, [.int .i64 (tW i W H), .int .i64 (tW i H W), .slice (some ⟨gk, 0, none⟩) n ck]⟩, ⟨g4, 24, [.int .i64 0, .int .i64 0, .slice none 0 0]⟩, ⟨g2, 24, [.int .i64 W, .int .i64 H, .slice A n c]⟩, ⟨gk, 4, tab n (bv (tF i W H f)) ++ sp⟩]) 0 gn21 cn21 sn21 ⟨by omega, hcn21⟩ ⟨rfl, rfl, rfl, rfl, rfl, trivial⟩ (List.Sublist.refl _) ?_
    rintro i gk ck sp ⟨hi, hck⟩
    refine gc_seq ?_
    refine gc_seq ?_
    refine gc_region ?_
    refine ne (eo_mv rfl rfl) rfl ?_
    refine ne (eo_mv rfl rfl) rfl ?_
    refine ne (eo_call rfl en60 rfl (fun W1 hO => rquarters_c _ W1  )) rfl ?_
    refine ne (eo_lss rfl rfl rfl) rfl ?_
    refine go_nil ?_
    refine gq_next ?_
    refine gc_cond rfl (fun hc1 => ?_) (fun hc1 => ?_)
    ·
      replace hc1 := of_decide_eq_true hc1
      have hvi := vld_turns (k := i) hv
      obtain ⟨u1, u2, u3, u4, u5, u6⟩ := vldB_iff.1 hvi
      refine gc_skip ?_
      refine gq_next ?_
      refine gc_seq ?_
      refine gc_block ?_
      refine gc_seq ?_
      refine gc_region ?_
      refine ne (eo_field rfl f24_1 rfl) rfl ?_
      refine ne (eo_load 0 rfl s3 rfl rfl rfl rfl) rfl ?_
      refine ne (eo_field rfl f24_0 rfl) rfl ?_
      refine ne (eo_load 0 rfl s3 rfl rfl rfl rfl) rfl ?_
      refine ne (eo_build rfl rfl (b24_01 _ _)) rfl ?_
      refine nx (xo_alloc rfl z24) rfl ?_
      rintro _ _ ⟨g8, rfl, rfl⟩
      refine nu (xo_storeA 0 rfl a24 rfl rfl (ones_cons (by first | rfl | exact AS.one) (ones_cons (by first | rfl | exact AS.one) (ones_cons (by first | rfl | exact AS.one) ones_nil))) rfl rfl rfl rfl) ?_
      rintro _ _ ⟨rfl, rfl⟩
      refine go_nil ?_
      refine gq_next ?_
      refine gc_seq ?_
      refine gc_seq ?_
      refine gc_region ?_
      refine ne (eo_as rfl rfl) rfl ?_
      refine go_nil ?_
      refine gq_next ?_
      refine gc_block ?_
      refine loop2 (fun (k : Nat) (s : AS) => k ≤ n ∧ s.Ok 1 k (tab k (bv (turnF (tW i W H) (tW i H W) (tF i W H f))))) (fun (k : Nat) (s : AS) => n - k) (fun (k : Nat) (s : AS) => [(1, .int .i64 t), (2, .pointer (some ⟨g2, 0, none⟩)), (4, .pointer (some ⟨g4, 0, none⟩)), (6, .pointer (some ⟨g6, 0, none⟩)), (7, .int .i64 (i : Int)), (8, .pointer (some ⟨g8, 0, none⟩)), (9, .int .i64 (k : Int))]) (fun (k : Nat) (s : AS) => ⟨g8, 24, [.int .i64 (tW i H W), .int .i64 (tW i W H), s.val k]⟩ :: ⟨g6, 24, [.int .i64 (tW i W H), .int .i64 (tW i H W), .slice (some ⟨gk, 0, none⟩) n ck]⟩ :: ⟨g4, 24, [.int .i64 0, .int .i64 0, .slice none 0 0]⟩ :: ⟨g2, 24, [.int .i64 W, .int .i64 H, .slice A n c]⟩ :: ⟨gk, 4, tab n (bv (tF i W H f)) ++ sp⟩ :: s.blks 4 (tab k (bv (turnF (tW i W H) (tW i H W) (tF i W H f))))) 0 .nil ⟨by omega, AS.Ok0⟩ ⟨rfl, rfl, rfl, rfl, rfl, rfl, rfl, trivial⟩ (List.Sublist.refl _) ?_
      rintro k s ⟨hk, hs⟩
      refine gc_seq ?_
      refine gc_seq ?_
      refine gc_region ?_
      refine ne (eo_mv rfl rfl) rfl ?_
      refine ne (eo_field rfl f24_2 rfl) rfl ?_
      refine ne (eo_load 3 rfl s22 rfl rfl rfl rfl) rfl ?_
      refine ne (eo_len rfl Try.underlying22 rfl) rfl ?_
      refine ne (eo_lss rfl rfl rfl) rfl ?_
      refine go_nil ?_
      refine gq_next ?_
      refine gc_cond rfl (fun hc2 => ?_) (fun hc2 => ?_)
      ·
        replace hc2 := of_decide_eq_true hc2
        have hrb := rturned_bd (i := (k : Int)) u1 u2 u3 u4 (by omega) (by omega)
        refine gc_skip ?_
        refine gq_next ?_
        refine gc_seq ?_
        refine gc_block ?_
        refine gc_draw [] [0, 1, 2, 3, 4, 5, 6, 7, 8, 9, 10, 11] [12] [13, 14, 15] (by kernel_rfl) (by kernel_rfl) ?_
        refine gp_nil ?_
        refine de rfl (eo_field rfl f24_2 rfl) rfl ?_
        refine de rfl (eo_load 0 rfl s22 rfl rfl rfl rfl) rfl ?_
        refine de rfl (eo_field rfl f24_2 rfl) rfl ?_
        refine de rfl (eo_load 1 rfl s22 rfl rfl rfl rfl) rfl ?_
        refine de rfl (eo_field rfl f24_0 rfl) rfl ?_
        refine de rfl (eo_load 1 rfl s3 rfl rfl rfl rfl) rfl ?_
        refine de rfl (eo_field rfl f24_1 rfl) rfl ?_
        refine de rfl (eo_load 1 rfl s3 rfl rfl rfl rfl) rfl ?_
        refine de rfl (eo_mv rfl rfl) rfl ?_
        refine de rfl (eo_call rfl en61 rfl (fun W1 hO => rturned_c _ _ _ W1  (by omega) (by omega) (by omega) (by omega) (by omega) (by omega))) rfl ?_
        refine de rfl (eo_index0 rfl sl22 rfl rfl (by omega) (by omega)) rfl ?_
        refine de rfl (eo_getb 4 rfl s4 rfl rfl (by omega)) rfl ?_
        refine ge_nil ?_
        refine da rfl (xo_lit1 rfl Try.underlying22 e4 rfl (by first | rfl | exact AS.one)) rfl ?_
        rintro _ _ ⟨g53, rfl, rfl⟩
        refine ⟨by first | exact (List.Sublist.cons _ (List.Sublist.refl _)) | exact (List.sublist_append_left _ _), ?_⟩
        refine ga_nil ?_
        refine ix rfl (xo_app1b 6 rfl rfl Try.underlying22 e4 rfl hs rfl rfl rfl (by omega)) rfl ?_
        rintro _ _ ⟨s54, hs54, rfl, rfl⟩
        refine ie rfl (eo_field rfl f24_2 rfl) rfl ?_
        refine iu rfl (xo_store 1 rfl s22 rfl rfl (by first | rfl | exact AS.one) rfl rfl (by simp)) ?_
        rintro _ _ ⟨rfl, rfl⟩
        refine gi_nil ?_
        refine gq_nq ?_
        refine gq_block_end ?_
        refine gq_next ?_
        refine gc_region ?_
        refine ne (eo_mv rfl rfl) rfl ?_
        refine ne (eo_add rfl rfl rfl (by omega) (by omega)) rfl ?_
        refine ne (eo_as rfl rfl) rfl ?_
        refine go_nil ?_
        exact round2 (k + 1) s54 ⟨by omega, hs54⟩ (by omega) ⟨rfl, rfl, rfl, rfl, rfl, rfl, rfl, trivial⟩ (List.Sublist.cons _ (List.Sublist.refl _))
      ·
        replace hc2 := of_decide_eq_false hc2
        have hkn : n = k := by omega
        subst hkn
        obtain ⟨g3, sp3, c3, rfl, hc3⟩ := as_at hs (by omega)
        refine gc_exit ?_
        refine gq_then_exit ?_
        refine gq_then_exit ?_
        refine gq_block_hit ?_
        refine gq_next ?_
        refine gc_region ?_
        refine ne (eo_loadA 0 rfl a24 rfl rfl rfl rfl) rfl ?_
        refine nu (xo_storeA 1 rfl a24 rfl rfl (ones_cons (by first | rfl | exact AS.one) (ones_cons (by first | rfl | exact AS.one) (ones_cons (by first | rfl | exact AS.one) ones_nil))) rfl rfl rfl rfl) ?_
        rintro _ _ ⟨rfl, rfl⟩
        refine go_nil ?_
        refine gq_block_end ?_
        refine gq_next ?_
        refine gc_region ?_
        refine ne (eo_mv rfl rfl) rfl ?_
        refine ne (eo_add rfl rfl rfl (by omega) (by omega)) rfl ?_
        refine ne (eo_as rfl rfl) rfl ?_
        refine go_nil ?_
        exact round4 (i + 1) g3 c3 sp3 ⟨by omega, hc3⟩ (by omega) ⟨rfl, rfl, rfl, rfl, rfl, trivial⟩ (List.Sublist.cons _ (List.Sublist.cons_cons _ (List.Sublist.cons_cons _ (List.Sublist.cons_cons _ (List.Sublist.cons _ (List.Sublist.refl _))))))
    ·
      replace hc1 := of_decide_eq_false hc1
      have hie : (t % 4).toNat = i := by omega
      refine gc_exit ?_
      refine gq_then_exit ?_
      refine gq_then_exit ?_
      refine gq_block_hit ?_
      refine gq_next ?_
      refine gc_seq ?_
      refine gc_region ?_
      refine ne (eo_loadA 0 rfl a24 rfl rfl rfl rfl) rfl ?_
      refine nu (xo_storeA 1 rfl a24 rfl rfl (ones_cons (by first | rfl | exact AS.one) (ones_cons (by first | rfl | exact AS.one) (ones_cons (by first | rfl | exact AS.one) ones_nil))) rfl rfl rfl rfl) ?_
      rintro _ _ ⟨rfl, rfl⟩
      refine ne (eo_as rfl rfl) rfl ?_
      refine go_nil ?_
      refine gq_next ?_
      refine gc_ret ?_
      refine gq_results (resCT 1 rfl a24 rfl rfl rfl rfl rfl) ?_
      exact fun W1 hO => rx_own 3 hO rfl (by have h := turnR_ok (f := f) (t := t) hv; rw [hie] at h; exact h) (fun _ _ => rfl) (by omega)

/-- barscan/barscanref31.TurnImage -/
theorem rturnim_x (W H : Int) (A : Option Addr) (n c : Nat) (f : Nat → Int) (t : Int) (w : World) (hr : Rd w A (tab n (iv .u8 f)))  :
    Calls Try.prog 41 #[.agg #[.int .i64 W, .int .i64 H, .slice A n c], .int .i64 t] w (fun e w' => ∃ v Hn, e = .returned v ∧ RXi (turnRi ⟨W, H, n, f⟩ t) v Hn ∧ Ow [] w w' Hn) := by
  refine calls_enter (N := ⟨58, []⟩) [] ([]) Try.func41 rfl rfl rfl (Ow.start _) ?_
  refine gc_seq ?_
  refine gc_region ?_
  refine nx (xo_boxA rfl rfl) rfl ?_
  rintro _ _ ⟨g2, rfl, rfl⟩
  refine nx (xo_alloc rfl z55) rfl ?_
  rintro _ _ ⟨g4, rfl, rfl⟩
  refine ne (eo_as rfl rfl) rfl ?_
  refine go_nil ?_
  refine gq_next ?_
  refine gc_seq ?_
  refine gc_seq ?_
  refine gc_region ?_
  refine ne (eo_loadA 1 rfl a55 rfl rfl rfl rfl) rfl ?_
  refine ne (eo_call rfl en57 rfl (fun W1 hO => validim_c _ _ _ _ _ W1  )) rfl ?_
  refine ne (eo_not rfl rfl) rfl ?_
  refine go_nil ?_
  refine gq_next ?_
  refine gc_cond rfl (fun hc0 => ?_) (fun hc0 => ?_)
  ·
    have hd0 := (not_t hc0)
    have hv := not_t hc0
    refine gc_seq ?_
    refine gc_region ?_
    refine ne (eo_build rfl rfl (b55_)) rfl ?_
    refine nu (xo_storeA 0 rfl a55 rfl rfl (ones_cons (by first | rfl | exact AS.one) (ones_cons (by first | rfl | exact AS.one) (ones_cons (by first | rfl | exact AS.one) ones_nil))) rfl rfl rfl rfl) ?_
    rintro _ _ ⟨rfl, rfl⟩
    refine ne (eo_as rfl rfl) rfl ?_
    refine go_nil ?_
    refine gq_next ?_
    refine gc_ret ?_
    refine gq_then_ret ?_
    refine gq_results (resCT 0 rfl a55 rfl rfl rfl rfl rfl) ?_
    exact fun W1 hO => rxi_nil hO (turnRi_no hv)
  ·
    have hd0 := (not_f hc0)
    have hv := not_f hc0
    obtain ⟨v1, v2, v3, v4, v5, v6⟩ := vldB_iff.1 hv
    have v7 := vld_pos hv
    refine gc_skip ?_
    refine gq_next ?_
    refine gc_seq ?_
    refine gc_draw_new (i := 9) (d := 6) [] [0, 1, 2, 3, 5, 6] [4, 7, 8] [10] (by kernel_rfl) (by kernel_rfl) rfl z55 rfl ?_
    refine gp_nil ?_
    refine de rfl (eo_field rfl f55_0 rfl) rfl ?_
    refine de rfl (eo_load 1 rfl s3 rfl rfl rfl rfl) rfl ?_
    refine de rfl (eo_field rfl f55_1 rfl) rfl ?_
    refine de rfl (eo_load 1 rfl s3 rfl rfl rfl rfl) rfl ?_
    refine de rfl (eo_field rfl f55_2 rfl) rfl ?_
    refine de rfl (eo_load 1 rfl s53 rfl rfl rfl rfl) rfl ?_
    refine ge_nil ?_
    refine ⟨rfl, ?_⟩
    refine da rfl (xo_lit rfl rfl lit53_0) rfl ?_
    rintro _ _ ⟨g18, rfl, rfl⟩
    refine ⟨by first | exact (List.Sublist.cons _ (List.Sublist.refl _)) | exact (List.sublist_append_left _ _), ?_⟩
    refine da rfl (xo_grabL (F := (iv .u8 f)) rfl Try.underlying53 e5.toN rfl rfl (fun W1 hO => (hr.old0 hO)) tab_onei (by omega) (by omega) (by decide)) rfl ?_
    rintro _ _ ⟨gn21, cn21, sn21, rfl, rfl, hcn21⟩
    refine ⟨by first | exact (List.Sublist.cons _ (List.Sublist.refl _)) | exact (List.sublist_append_left _ _), ?_⟩
    refine da rfl (xo_of_eo (eo_build rfl rfl (b55_012 _ _ _ _ _))) rfl ?_
    rintro _ _ ⟨rfl, rfl⟩
    refine ⟨by first | exact (List.Sublist.cons _ (List.Sublist.refl _)) | exact (List.sublist_append_left _ _), ?_⟩
    refine ga_nil ?_
    intro g6
    refine iu rfl (xo_storeA 0 rfl a55 rfl rfl (ones_cons (by first | rfl | exact AS.one) (ones_cons (by first | rfl | exact AS.one) (ones_cons (by first | rfl | exact AS.one) ones_nil))) rfl rfl rfl rfl) ?_
    rintro _ _ ⟨rfl, rfl⟩
    refine gi_nil ?_
    refine gq_nq ?_
    refine gq_next ?_
    refine gc_seq ?_
    refine gc_seq ?_
    refine gc_region ?_
    refine ne (eo_as rfl rfl) rfl ?_
    refine go_nil ?_
    refine gq_next ?_
    refine gc_block ?_
    refine loop4 (fun (i : Nat) (gk : Nat) (ck : Nat) (sp : List Value) => (i : Int) ≤ t % 4 ∧ n ≤ ck) (fun (i : Nat) (gk : Nat) (ck : Nat) (sp : List Value) => (t % 4 - i).toNat) (fun (i : Nat) (gk : Nat) (ck : Nat) (sp : List Value) => [(1, .int .i64 t), (2, .pointer (some ⟨g2, 0, none⟩)), (4, .pointer (some ⟨g4, 0, none⟩)), (6, .pointer (some ⟨g6, 0, none⟩)), (7, .int .i64 (i : Int))]) (fun (i : Nat) (gk : Nat) (ck : Nat) (sp : List Value) => [⟨g6, 55, [.int .i64 (tW i W H), .int .i64 (tW i H W), .slice (some ⟨gk, 0, none⟩) n ck]⟩, ⟨g4, 55, [.int .i64 0, .int .i64 0, .slice none 0 0]⟩, ⟨g2, 55, [.int .i64 W, .int .i64 H, .slice A n c]⟩, ⟨gk, 5, tab n (iv .u8 (tF i W H f)) ++ sp⟩]) 0 gn21 cn21 sn21 ⟨by omega, hcn21⟩ ⟨rfl, rfl, rfl, rfl, rfl, trivial⟩ (List.Sublist.refl _) ?_
    rintro i gk ck sp ⟨hi, hck⟩
    refine gc_seq ?_
    refine gc_seq ?_
    refine gc_region ?_
    refine ne (eo_mv rfl rfl) rfl ?_
    refine ne (eo_mv rfl rfl) rfl ?_
    refine ne (eo_call rfl en60 rfl (fun W1 hO => rquarters_c _ W1  )) rfl ?_
    refine ne (eo_lss rfl rfl rfl) rfl ?_
    refine go_nil ?_
    refine gq_next ?_
    refine gc_cond rfl (fun hc1 => ?_) (fun hc1 => ?_)
    ·
      replace hc1 := of_decide_eq_true hc1
      have hvi := vld_turns (k := i) hv
      obtain ⟨u1, u2, u3, u4, u5, u6⟩ := vldB_iff.1 hvi
      refine gc_skip ?_
      refine gq_next ?_
      refine gc_seq ?_
      refine gc_block ?_
      refine gc_seq ?_
      refine gc_region ?_
      refine ne (eo_field rfl f55_1 rfl) rfl ?_
      refine ne (eo_load 0 rfl s3 rfl rfl rfl rfl) rfl ?_
      refine ne (eo_field rfl f55_0 rfl) rfl ?_
      refine ne (eo_load 0 rfl s3 rfl rfl rfl rfl) rfl ?_
      refine ne (eo_build rfl rfl (b55_01 _ _)) rfl ?_
      refine nx (xo_alloc rfl z55) rfl ?_
      rintro _ _ ⟨g8, rfl, rfl⟩
      refine nu (xo_storeA 0 rfl a55 rfl rfl (ones_cons (by first | rfl | exact AS.one) (ones_cons (by first | rfl | exact AS.one) (ones_cons (by first | rfl | exact AS.one) ones_nil))) rfl rfl rfl rfl) ?_
      rintro _ _ ⟨rfl, rfl⟩
      refine go_nil ?_
      refine gq_next ?_
      refine gc_seq ?_
      refine gc_seq ?_
      refine gc_region ?_
      refine ne (eo_as rfl rfl) rfl ?_
      refine go_nil ?_
      refine gq_next ?_
      refine gc_block ?_
      refine loop2 (fun (k : Nat) (s : AS) => k ≤ n ∧ s.Ok 1 k (tab k (iv .u8 (turnF (tW i W H) (tW i H W) (tF i W H f))))) (fun (k : Nat) (s : AS) => n - k) (fun (k : Nat) (s : AS) => [(1, .int .i64 t), (2, .pointer (some ⟨g2, 0, none⟩)), (4, .pointer (some ⟨g4, 0, none⟩)), (6, .pointer (some ⟨g6, 0, none⟩)), (7, .int .i64 (i : Int)), (8, .pointer (some ⟨g8, 0, none⟩)), (9, .int .i64 (k : Int))]) (fun (k : Nat) (s : AS) => ⟨g8, 55, [.int .i64 (tW i H W), .int .i64 (tW i W H), s.val k]⟩ :: ⟨g6, 55, [.int .i64 (tW i W H), .int .i64 (tW i H W), .slice (some ⟨gk, 0, none⟩) n ck]⟩ :: ⟨g4, 55, [.int .i64 0, .int .i64 0, .slice none 0 0]⟩ :: ⟨g2, 55, [.int .i64 W, .int .i64 H, .slice A n c]⟩ :: ⟨gk, 5, tab n (iv .u8 (tF i W H f)) ++ sp⟩ :: s.blks 5 (tab k (iv .u8 (turnF (tW i W H) (tW i H W) (tF i W H f))))) 0 .nil ⟨by omega, AS.Ok0⟩ ⟨rfl, rfl, rfl, rfl, rfl, rfl, rfl, trivial⟩ (List.Sublist.refl _) ?_
      rintro k s ⟨hk, hs⟩
      refine gc_seq ?_
      refine gc_seq ?_
      refine gc_region ?_
      refine ne (eo_mv rfl rfl) rfl ?_
      refine ne (eo_field rfl f55_2 rfl) rfl ?_
      refine ne (eo_load 3 rfl s53 rfl rfl rfl rfl) rfl ?_
      refine ne (eo_len rfl Try.underlying53 rfl) rfl ?_
      refine ne (eo_lss rfl rfl rfl) rfl ?_
      refine go_nil ?_
      refine gq_next ?_
      refine gc_cond rfl (fun hc2 => ?_) (fun hc2 => ?_)
      ·
        replace hc2 := of_decide_eq_true hc2
        have hrb := rturned_bd (i := (k : Int)) u1 u2 u3 u4 (by omega) (by omega)
        refine gc_skip ?_
        refine gq_next ?_
        refine gc_seq ?_
        refine gc_block ?_
        refine gc_draw [] [0, 1, 2, 3, 4, 5, 6, 7, 8, 9, 10, 11] [12] [13, 14, 15] (by kernel_rfl) (by kernel_rfl) ?_
        refine gp_nil ?_
        refine de rfl (eo_field rfl f55_2 rfl) rfl ?_
        refine de rfl (eo_load 0 rfl s53 rfl rfl rfl rfl) rfl ?_
        refine de rfl (eo_field rfl f55_2 rfl) rfl ?_
        refine de rfl (eo_load 1 rfl s53 rfl rfl rfl rfl) rfl ?_
        refine de rfl (eo_field rfl f55_0 rfl) rfl ?_
        refine de rfl (eo_load 1 rfl s3 rfl rfl rfl rfl) rfl ?_
        refine de rfl (eo_field rfl f55_1 rfl) rfl ?_
        refine de rfl (eo_load 1 rfl s3 rfl rfl rfl rfl) rfl ?_
        refine de rfl (eo_mv rfl rfl) rfl ?_
        refine de rfl (eo_call rfl en61 rfl (fun W1 hO => rturned_c _ _ _ W1  (by omega) (by omega) (by omega) (by omega) (by omega) (by omega))) rfl ?_
        refine de rfl (eo_index0 rfl sl53 rfl rfl (by omega) (by omega)) rfl ?_
        refine de rfl (eo_geti 4 rfl s5 rfl rfl (by omega)) rfl ?_
        refine ge_nil ?_
        refine da rfl (xo_lit1 rfl Try.underlying53 e5 rfl (by first | rfl | exact AS.one)) rfl ?_
        rintro _ _ ⟨g53, rfl, rfl⟩
        refine ⟨by first | exact (List.Sublist.cons _ (List.Sublist.refl _)) | exact (List.sublist_append_left _ _), ?_⟩
        refine ga_nil ?_
        refine ix rfl (xo_app1i 6 rfl rfl Try.underlying53 e5 rfl hs rfl rfl rfl (by omega) (by decide)) rfl ?_
        rintro _ _ ⟨s54, hs54, rfl, rfl⟩
        refine ie rfl (eo_field rfl f55_2 rfl) rfl ?_
        refine iu rfl (xo_store 1 rfl s53 rfl rfl (by first | rfl | exact AS.one) rfl rfl (by simp)) ?_
        rintro _ _ ⟨rfl, rfl⟩
        refine gi_nil ?_
        refine gq_nq ?_
        refine gq_block_end ?_
        refine gq_next ?_
        refine gc_region ?_
        refine ne (eo_mv rfl rfl) rfl ?_
        refine ne (eo_add rfl rfl rfl (by omega) (by omega)) rfl ?_
        refine ne (eo_as rfl rfl) rfl ?_
        refine go_nil ?_
        exact round2 (k + 1) s54 ⟨by omega, hs54⟩ (by omega) ⟨rfl, rfl, rfl, rfl, rfl, rfl, rfl, trivial⟩ (List.Sublist.cons _ (List.Sublist.refl _))
      ·
        replace hc2 := of_decide_eq_false hc2
        have hkn : n = k := by omega
        subst hkn
        obtain ⟨g3, sp3, c3, rfl, hc3⟩ := as_at hs (by omega)
        refine gc_exit ?_
        refine gq_then_exit ?_
        refine gq_then_exit ?_
        refine gq_block_hit ?_
        refine gq_next ?_
        refine gc_region ?_
        refine ne (eo_loadA 0 rfl a55 rfl rfl rfl rfl) rfl ?_
        refine nu (xo_storeA 1 rfl a55 rfl rfl (ones_cons (by first | rfl | exact AS.one) (ones_cons (by first | rfl | exact AS.one) (ones_cons (by first | rfl | exact AS.one) ones_nil))) rfl rfl rfl rfl) ?_
        rintro _ _ ⟨rfl, rfl⟩
        refine go_nil ?_
        refine gq_block_end ?_
        refine gq_next ?_
        refine gc_region ?_
        refine ne (eo_mv rfl rfl) rfl ?_
        refine ne (eo_add rfl rfl rfl (by omega) (by omega)) rfl ?_
        refine ne (eo_as rfl rfl) rfl ?_
        refine go_nil ?_
        exact round4 (i + 1) g3 c3 sp3 ⟨by omega, hc3⟩ (by omega) ⟨rfl, rfl, rfl, rfl, rfl, trivial⟩ (List.Sublist.cons _ (List.Sublist.cons_cons _ (List.Sublist.cons_cons _ (List.Sublist.cons_cons _ (List.Sublist.cons _ (List.Sublist.refl _))))))
    ·
      replace hc1 := of_decide_eq_false hc1
      have hie : (t % 4).toNat = i := by omega
      refine gc_exit ?_
      refine gq_then_exit ?_
      refine gq_then_exit ?_
      refine gq_block_hit ?_
      refine gq_next ?_
      refine gc_seq ?_
      refine gc_region ?_
      refine ne (eo_loadA 0 rfl a55 rfl rfl rfl rfl) rfl ?_
      refine nu (xo_storeA 1 rfl a55 rfl rfl (ones_cons (by first | rfl | exact AS.one) (ones_cons (by first | rfl | exact AS.one) (ones_cons (by first | rfl | exact AS.one) ones_nil))) rfl rfl rfl rfl) ?_
      rintro _ _ ⟨rfl, rfl⟩
      refine ne (eo_as rfl rfl) rfl ?_
      refine go_nil ?_
      refine gq_next ?_
      refine gc_ret ?_
      refine gq_results (resCT 1 rfl a55 rfl rfl rfl rfl rfl) ?_
      exact fun W1 hO => rxi_own 3 hO rfl (by have h := turnRi_ok (f := f) (t := t) hv; rw [hie] at h; exact h) (fun _ _ => rfl) (by omega)

end Go.Proofs.Ytefblgildcaldaa
