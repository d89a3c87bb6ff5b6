/-
  The walks of the functions of package font and of the document's answer (part I): what each call returns, at every argument.
-/
import Derived.Test.YtjndoanhkfdngaaWE
import Derived.Test.YtjndoanhkfdngaaFj
namespace Go.Proofs.Ytjndoanhkfdngaa
open Go.RowKit Go.Eng

open Go.Bs
theorem en31 : Ent Try.prog 31 := ent_of Try.func31 (by kernel_rfl) rfl
theorem en7 : Ent Try.prog 7 := ent_of Try.func7 (by kernel_rfl) rfl
theorem en22 : Ent Try.prog 22 := ent_of Try.func22 (by kernel_rfl) rfl
theorem en23 : Ent Try.prog 23 := ent_of Try.func23 (by kernel_rfl) rfl
theorem en12 : Ent Try.prog 12 := ent_of Try.func12 (by kernel_rfl) rfl

/-- barscan/raster.Enlarge -/
theorem enl_x (W H : Int) (A : Option Addr) (n c : Nat) (f : Nat → Bool) (k : Int) (w : World) (hr : Rd w A (tab n (bv f)))  :
    Calls Try.prog 23 #[.agg #[.int .i64 W, .int .i64 H, .slice A n c], .int .i64 k] w (fun e w' => ∃ v Hn, e = .returned v ∧ RX (enlR ⟨W, H, n, f⟩ k) v Hn ∧ Ow [] w w' Hn) := by
  refine calls_enter (N := ⟨104, []⟩) [] ([]) Try.func23 rfl rfl rfl (Ow.start _) ?_
  refine gc_seq ?_
  refine gc_region ?_
  refine nx (xo_boxA rfl rfl) rfl ?_
  rintro _ _ ⟨g2, rfl, rfl⟩
  refine nx (xo_alloc rfl z25) rfl ?_
  rintro _ _ ⟨g4, rfl, rfl⟩
  refine ne (eo_as rfl rfl) rfl ?_
  refine go_nil ?_
  refine gq_next ?_
  refine gc_seq ?_
  refine gc_seq ?_
  refine gc_region ?_
  refine ne (eo_loadA 1 rfl a25 rfl rfl rfl rfl) rfl ?_
  refine ne (eo_call rfl en29 rfl (fun W1 hO => check_c _ _ _ _ _ W1  )) rfl ?_
  refine ne (eo_as rfl rfl) rfl ?_
  refine go_nil ?_
  refine gq_next ?_
  refine gc_seq ?_
  refine gc_region ?_
  refine ne (eo_mv rfl rfl) rfl ?_
  refine ne (eo_neq rfl rfl rfl) rfl ?_
  refine go_nil ?_
  refine gq_next ?_
  refine gc_cond rfl (fun hc0 => ?_) (fun hc0 => ?_)
  ·
    replace hc0 := of_decide_eq_true hc0
    have hv := chk_f hc0
    refine gc_seq ?_
    refine gc_region ?_
    refine ne (eo_build rfl rfl (b25_)) rfl ?_
    refine ne (eo_mv rfl rfl) rfl ?_
    refine nu (xo_storeA 0 rfl a25 rfl rfl (ones_cons (by first | rfl | exact AS.one) (ones_cons (by first | rfl | exact AS.one) (ones_cons (by first | rfl | exact AS.one) ones_nil))) rfl rfl rfl rfl) ?_
    rintro _ _ ⟨rfl, rfl⟩
    refine ne (eo_as rfl rfl) rfl ?_
    refine go_nil ?_
    refine gq_next ?_
    refine gc_ret ?_
    refine gq_then_ret ?_
    refine gq_results (resCT 0 rfl a25 rfl rfl rfl rfl rfl) ?_
    exact fun W1 hO => rx_nil hO (by rw [chk_no hv]; exact enlR_no hv)
  ·
    replace hc0 := of_decide_eq_false hc0
    have hv := chk_t hc0
    obtain ⟨v1, v2, v3, v4, v5, v6⟩ := vldB_iff.1 hv
    have v7 := vld_pos hv
    refine gc_skip ?_
    refine gq_next ?_
    refine gc_seq ?_
    refine gc_seq ?_
    refine gc_region ?_
    refine ne (eo_mv rfl rfl) rfl ?_
    refine ne (eo_lss rfl rfl rfl) rfl ?_
    refine ne (eo_mv rfl rfl) rfl ?_
    refine ng rfl rfl (fun h => eo_mv rfl rfl) rfl ?_
    refine ng rfl rfl (fun h => eo_gtr rfl (ev_if h rfl) rfl) rfl ?_
    refine ne (eo_or rfl rfl (fun hb => ev_if hb rfl)) rfl ?_
    refine go_nil ?_
    refine gq_next ?_
    refine gc_cond rfl (fun hc1 => ?_) (fun hc1 => ?_)
    ·
      have hd1 := (or_t hc1).imp (fun h => of_decide_eq_true h) (fun h => of_decide_eq_true h)
      refine gc_seq ?_
      refine gc_region ?_
      refine ne (eo_build rfl rfl (b25_)) rfl ?_
      refine nu (xo_storeA 0 rfl a25 rfl rfl (ones_cons (by first | rfl | exact AS.one) (ones_cons (by first | rfl | exact AS.one) (ones_cons (by first | rfl | exact AS.one) ones_nil))) rfl rfl rfl rfl) ?_
      rintro _ _ ⟨rfl, rfl⟩
      refine ne (eo_as rfl rfl) rfl ?_
      refine go_nil ?_
      refine gq_next ?_
      refine gc_ret ?_
      refine gq_then_ret ?_
      refine gq_results (resCT 0 rfl a25 rfl rfl rfl rfl rfl) ?_
      exact fun W1 hO => rx_nil hO (enlR_range hv hd1)
    ·
      have hd1 := (or_f hc1).imp (fun h => of_decide_eq_false h) (fun h => of_decide_eq_false h)
      have hkW := mul_in (a := k) (b := W) (by omega) (by omega) (by omega) (by omega)
      have hkH := mul_in (a := k) (b := H) (by omega) (by omega) (by omega) (by omega)
      refine gc_skip ?_
      refine gq_next ?_
      refine gc_seq ?_
      refine gc_seq ?_
      refine gc_region ?_
      refine ne (eo_mv rfl rfl) rfl ?_
      refine ne (eo_field rfl f25_0 rfl) rfl ?_
      refine ne (eo_load 1 rfl s3 rfl rfl rfl rfl) rfl ?_
      refine ne (eo_mul rfl rfl rfl (by omega) (by omega)) rfl ?_
      refine ne (eo_mv rfl rfl) rfl ?_
      refine ne (eo_field rfl f25_1 rfl) rfl ?_
      refine ne (eo_load 1 rfl s3 rfl rfl rfl rfl) rfl ?_
      refine ne (eo_mul rfl rfl rfl (by omega) (by omega)) rfl ?_
      refine ne (eo_call rfl en30 rfl (fun W1 hO => possible_c _ _ W1  )) rfl ?_
      refine ne (eo_not rfl rfl) rfl ?_
      refine go_nil ?_
      refine gq_next ?_
      refine gc_cond rfl (fun hc2 => ?_) (fun hc2 => ?_)
      ·
        have hd2 := (not_t hc2)
        have hf2 := not_t hc2
        refine gc_seq ?_
        refine gc_region ?_
        refine ne (eo_build rfl rfl (b25_)) rfl ?_
        refine nu (xo_storeA 0 rfl a25 rfl rfl (ones_cons (by first | rfl | exact AS.one) (ones_cons (by first | rfl | exact AS.one) (ones_cons (by first | rfl | exact AS.one) ones_nil))) rfl rfl rfl rfl) ?_
        rintro _ _ ⟨rfl, rfl⟩
        refine ne (eo_as rfl rfl) rfl ?_
        refine go_nil ?_
        refine gq_next ?_
        refine gc_ret ?_
        refine gq_then_ret ?_
        refine gq_results (resCT 0 rfl a25 rfl rfl rfl rfl rfl) ?_
        exact fun W1 hO => rx_nil hO (enlR_long hv (by omega) hf2)
      ·
        have hd2 := (not_f hc2)
        have hf2 := not_f hc2
        have hfb := fits_bd hf2
        obtain ⟨f1, f2, f3, f4, f5⟩ := fitsB_iff.1 hf2
        refine gc_skip ?_
        refine gq_next ?_
        refine gc_seq ?_
        refine gc_region ?_
        refine ne (eo_mv rfl rfl) rfl ?_
        refine ne (eo_field rfl f25_0 rfl) rfl ?_
        refine ne (eo_load 1 rfl s3 rfl rfl rfl rfl) rfl ?_
        refine ne (eo_mul rfl rfl rfl (by omega) (by omega)) rfl ?_
        refine ne (eo_mv rfl rfl) rfl ?_
        refine ne (eo_field rfl f25_1 rfl) rfl ?_
        refine ne (eo_load 1 rfl s3 rfl rfl rfl rfl) rfl ?_
        refine ne (eo_mul rfl rfl rfl (by omega) (by omega)) rfl ?_
        refine nx (xo_fresh rfl en31 rfl (fun W1 _ => blank_c _ _ W1 (by assumption))) rfl ?_
        rintro _ _ ⟨_, ⟨gb43, cb43, sb43, rfl, rfl, hcb43⟩, rfl⟩
        refine nx (xo_alloc rfl z25) rfl ?_
        rintro _ _ ⟨g7, rfl, rfl⟩
        refine nu (xo_storeA 0 rfl a25 rfl rfl (ones_cons (by first | rfl | exact AS.one) (ones_cons (by first | rfl | exact AS.one) (ones_cons (by first | rfl | exact AS.one) ones_nil))) rfl rfl rfl rfl) ?_
        rintro _ _ ⟨rfl, rfl⟩
        refine go_nil ?_
        refine gq_next ?_
        refine gc_seq ?_
        refine gc_seq ?_
        refine gc_region ?_
        refine ne (eo_field rfl f25_1 rfl) rfl ?_
        refine ne (eo_load 0 rfl s3 rfl rfl rfl rfl) rfl ?_
        refine ne (eo_mv rfl rfl) rfl ?_
        refine go_nil ?_
        refine gq_next ?_
        refine gc_block ?_
        refine loop2 (fun (y : Nat) (f1 : Nat → Bool) => (y : Int) ≤ k * H ∧ ∀ j, j < (k * W * (k * H)).toNat → f1 j = if (j : Int) < y * (k * W) then enlF W k f j else false) (fun (y : Nat) (f1 : Nat → Bool) => (k * H - y).toNat) (fun (y : Nat) (f1 : Nat → Bool) => [(1, .int .i64 k), (2, .pointer (some ⟨g2, 0, none⟩)), (4, .pointer (some ⟨g4, 0, none⟩)), (7, .pointer (some ⟨g7, 0, none⟩)), (45, .int .i64 (k * H)), (46, .int .i64 (y : Int))]) (fun (y : Nat) (f1 : Nat → Bool) => [⟨g7, 25, [.int .i64 (k * W), .int .i64 (k * H), .slice (some ⟨gb43, 0, none⟩) (((k * W) * (k * H)).toNat) cb43]⟩, ⟨gb43, 4, tab (((k * W) * (k * H)).toNat) (bv f1) ++ sb43⟩, ⟨g4, 25, [.int .i64 0, .int .i64 0, .slice none 0 0]⟩, ⟨g2, 25, [.int .i64 W, .int .i64 H, .slice A n c]⟩]) 0 (fun _ => false) ⟨by omega, fill_new (by simp)⟩ ⟨rfl, rfl, rfl, rfl, rfl, rfl, trivial⟩ (List.Sublist.refl _) ?_
        rintro y f1 ⟨hy, hI⟩
        refine gc_seq ?_
        refine gc_region ?_
        refine ne (eo_lss rfl rfl rfl) rfl ?_
        refine go_nil ?_
        refine gq_next ?_
        refine gc_seq ?_
        refine gc_cond rfl (fun hc3 => ?_) (fun hc3 => ?_)
        ·
          replace hc3 := of_decide_eq_true hc3
          have hyb := idx_bd (W := k * W) (H := k * H) (x := 0) (y := y) (by omega) (by omega) (by omega) (by omega)
          have ha : ((y : Int) + 1) * (k * W) = y * (k * W) + k * W := add1_mul
          have hs : ((y : Int) - 1) * (k * W) = y * (k * W) - k * W := sub1_mul
          have hyk : 0 < (y : Int) % k → k * W ≤ y * (k * W) := fun h => by
            have h1 : 1 * (k * W) ≤ (y : Int) * (k * W) := Int.mul_le_mul_of_nonneg_right (by by_cases h0 : y = 0; (· subst h0; simp at h); omega) (by omega)
            omega
          refine gc_skip ?_
          refine gq_next ?_
          refine gc_seq ?_
          refine gc_block ?_
          refine gc_seq ?_
          refine gc_region ?_
          refine ne (eo_mv rfl rfl) rfl ?_
          refine ne (eo_as rfl rfl) rfl ?_
          refine go_nil ?_
          refine gq_next ?_
          refine gc_seq ?_
          refine gc_region ?_
          refine ne (eo_field rfl f25_2 rfl) rfl ?_
          refine ne (eo_load 0 rfl s23 rfl rfl rfl rfl) rfl ?_
          refine ne (eo_mv rfl rfl) rfl ?_
          refine ne (eo_field rfl f25_0 rfl) rfl ?_
          refine ne (eo_load 0 rfl s3 rfl rfl rfl rfl) rfl ?_
          refine ne (eo_mul rfl rfl rfl (by omega) (by omega)) rfl ?_
          refine ne (eo_mv rfl rfl) rfl ?_
          refine ne (eo_add rfl rfl rfl (by omega) (by omega)) rfl ?_
          refine ne (eo_field rfl f25_0 rfl) rfl ?_
          refine ne (eo_load 0 rfl s3 rfl rfl rfl rfl) rfl ?_
          refine ne (eo_mul rfl rfl rfl (by omega) (by omega)) rfl ?_
          refine ne (eo_sl0 rfl sl23 rfl rfl rfl (by omega) (by omega) (by omega) (by omega)) rfl ?_
          refine ne (eo_as rfl rfl) rfl ?_
          refine go_nil ?_
          refine gq_next ?_
          refine gc_seq ?_
          refine gc_seq ?_
          refine gc_region ?_
          refine ne (eo_mv rfl rfl) rfl ?_
          refine ne (eo_mv rfl rfl) rfl ?_
          refine ne (eo_rem rfl rfl rfl (by omega) (by omega)) rfl ?_
          refine ne (eo_gtr rfl rfl rfl) rfl ?_
          refine go_nil ?_
          refine gq_next ?_
          refine gc_cond rfl (fun hc4 => ?_) (fun hc4 => ?_)
          ·
            replace hc4 := of_decide_eq_true hc4
            refine gc_seq ?_
            refine gc_region ?_
            refine ne (eo_mv rfl rfl) rfl ?_
            refine ne (eo_field rfl f25_2 rfl) rfl ?_
            refine ne (eo_load 0 rfl s23 rfl rfl rfl rfl) rfl ?_
            refine ne (eo_mv rfl rfl) rfl ?_
            refine ne (eo_sub rfl rfl rfl (by omega) (by omega)) rfl ?_
            refine ne (eo_field rfl f25_0 rfl) rfl ?_
            refine ne (eo_load 0 rfl s3 rfl rfl rfl rfl) rfl ?_
            refine ne (eo_mul rfl rfl rfl (by have := hyk hc4; omega) (by have := hyk hc4; omega)) rfl ?_
            refine ne (eo_mv rfl rfl) rfl ?_
            refine ne (eo_field rfl f25_0 rfl) rfl ?_
            refine ne (eo_load 0 rfl s3 rfl rfl rfl rfl) rfl ?_
            refine ne (eo_mul rfl rfl rfl (by omega) (by omega)) rfl ?_
            refine ne (eo_sl0 rfl sl23 rfl rfl rfl (by have := hyk hc4; omega) (by have := hyk hc4; omega) (by have := hyk hc4; omega) (by have := hyk hc4; omega)) rfl ?_
            refine nx (xo_cpyb (q := (fun i => f1 (((((y : Int) - 1) * (k * W))).toNat + i))) 1 rfl sl23 rfl rfl rfl (by omega) (fun W1 hO => (tabs_cutb hO 1 rfl (by omega))) (by simp) (by omega)) rfl ?_
            rintro _ _ ⟨rfl, rfl⟩
            refine go_nil ?_
            refine gq_next ?_
            refine gc_exit ?_
            refine gq_then_exit ?_
            refine gq_block_hit ?_
            refine gq_next ?_
            refine gc_region ?_
            refine ne (eo_add rfl rfl rfl (by omega) (by omega)) rfl ?_
            refine ne (eo_mv rfl rfl) rfl ?_
            refine go_nil ?_
            exact round2 (y + 1) (spl f1 ((((y : Int) * (k * W))).toNat) ((((y : Int) * (k * W))).toNat - ((((y : Int) - 1) * (k * W))).toNat) (fun i => f1 (((((y : Int) - 1) * (k * W))).toNat + i))) ⟨by omega, by first
              | exact fill_to hI (by push_cast; rw [ha]; omega)
              | exact fill_spl hI (by omega) (by push_cast; rw [ha]; omega) (fun i hi hn => by rw [hI _ (by omega), if_pos (by omega)]; exact enl_copy (by omega) hc4 (by omega) (by omega) (by omega))⟩ (by omega) ⟨rfl, rfl, rfl, rfl, rfl, rfl, trivial⟩ (List.Sublist.refl _)
          ·
            replace hc4 := of_decide_eq_false hc4
            refine gc_skip ?_
            refine gq_next ?_
            refine gc_seq ?_
            refine gc_region ?_
            refine ne (eo_mv rfl rfl) rfl ?_
            refine ne (eo_len rfl Try.underlying23 rfl) rfl ?_
            refine ne (eo_mv rfl rfl) rfl ?_
            refine go_nil ?_
            refine gq_next ?_
            refine gc_block ?_
            refine loop2 (fun (x : Nat) (f1 : Nat → Bool) => (x : Int) ≤ k * W ∧ ∀ j, j < (k * W * (k * H)).toNat → f1 j = if (j : Int) < y * (k * W) + x then enlF W k f j else false) (fun (x : Nat) (f1 : Nat → Bool) => (k * W - x).toNat) (fun (x : Nat) (f1 : Nat → Bool) => [(1, .int .i64 k), (2, .pointer (some ⟨g2, 0, none⟩)), (4, .pointer (some ⟨g4, 0, none⟩)), (7, .pointer (some ⟨g7, 0, none⟩)), (8, .int .i64 (y : Int)), (9, .slice (some ⟨gb43, (((y : Int) * (k * W))).toNat, none⟩) (((((y : Int) + 1) * (k * W))).toNat - (((y : Int) * (k * W))).toNat) (cb43 - (((y : Int) * (k * W))).toNat)), (45, .int .i64 (k * H)), (46, .int .i64 (y : Int)), (80, .int .i64 (((((((y : Int) + 1) * (k * W))).toNat - (((y : Int) * (k * W))).toNat) : Nat) : Int)), (81, .int .i64 (x : Int))]) (fun (x : Nat) (f1 : Nat → Bool) => [⟨g7, 25, [.int .i64 (k * W), .int .i64 (k * H), .slice (some ⟨gb43, 0, none⟩) (((k * W) * (k * H)).toNat) cb43]⟩, ⟨gb43, 4, tab (((k * W) * (k * H)).toNat) (bv f1) ++ sb43⟩, ⟨g4, 25, [.int .i64 0, .int .i64 0, .slice none 0 0]⟩, ⟨g2, 25, [.int .i64 W, .int .i64 H, .slice A n c]⟩]) 0 f1 ⟨by omega, fill_to hI (by simp)⟩ ⟨rfl, rfl, rfl, rfl, rfl, rfl, rfl, rfl, rfl, rfl, trivial⟩ (List.Sublist.refl _) ?_
            rintro x f1 ⟨hx, hI⟩
            refine gc_seq ?_
            refine gc_region ?_
            refine ne (eo_lss rfl rfl rfl) rfl ?_
            refine go_nil ?_
            refine gq_next ?_
            refine gc_seq ?_
            refine gc_cond rfl (fun hc5 => ?_) (fun hc5 => ?_)
            ·
              replace hc5 := of_decide_eq_true hc5
              have hxb := enl_bd (W := W) (H := H) (k := k) (y := y) (x := x) (by omega) (by omega) (by omega) (by omega) (by omega)
              refine gc_skip ?_
              refine gq_next ?_
              refine gc_seq ?_
              refine gc_block ?_
              refine gc_seq ?_
              refine gc_region ?_
              refine ne (eo_mv rfl rfl) rfl ?_
              refine ne (eo_as rfl rfl) rfl ?_
              refine go_nil ?_
              refine gq_next ?_
              refine gc_draw [] [0, 1, 2, 3, 4, 5, 6, 7, 8, 9, 10, 11, 12, 13, 14, 15, 16] [] [17] (by kernel_rfl) (by kernel_rfl) ?_
              refine gp_nil ?_
              refine de rfl (eo_mv rfl rfl) rfl ?_
              refine de rfl (eo_mv rfl rfl) rfl ?_
              refine de rfl (eo_field rfl f25_2 rfl) rfl ?_
              refine de rfl (eo_load 3 rfl s23 rfl rfl rfl rfl) rfl ?_
              refine de rfl (eo_mv rfl rfl) rfl ?_
              refine de rfl (eo_mv rfl rfl) rfl ?_
              refine de rfl (eo_quo rfl rfl rfl (by omega) (by omega) (by omega)) rfl ?_
              refine de rfl (eo_field rfl f25_0 rfl) rfl ?_
              refine de rfl (eo_load 3 rfl s3 rfl rfl rfl rfl) rfl ?_
              refine de rfl (eo_mul rfl rfl rfl (by omega) (by omega)) rfl ?_
              refine de rfl (eo_mv rfl rfl) rfl ?_
              refine de rfl (eo_mv rfl rfl) rfl ?_
              refine de rfl (eo_quo rfl rfl rfl (by omega) (by omega) (by omega)) rfl ?_
              refine de rfl (eo_add rfl rfl rfl (by omega) (by omega)) rfl ?_
              refine de rfl (eo_indexR rfl sl23 rfl rfl hr (by simp) (by omega) (by omega)) rfl ?_
              refine de rfl (eo_load_old rfl s4 rfl (Rd.tabb hr (by omega)) (by simp)) rfl ?_
              refine de rfl (eo_index rfl sl23 rfl rfl (by omega) (by omega)) rfl ?_
              refine ge_nil ?_
              refine ga_nil ?_
              refine iu rfl (xo_setb 1 rfl s4 rfl rfl rfl (by omega)) ?_
              rintro _ _ ⟨rfl, rfl⟩
              refine gi_nil ?_
              refine gq_nq ?_
              refine gq_block_end ?_
              refine gq_next ?_
              refine gc_region ?_
              refine ne (eo_add rfl rfl rfl (by omega) (by omega)) rfl ?_
              refine ne (eo_mv rfl rfl) rfl ?_
              refine go_nil ?_
              exact round2 (x + 1) (upd f1 ((((y : Int) * (k * W))).toNat + x) (f ((((((y : Int) / k) * W) + ((x : Int) / k))).toNat))) ⟨by omega, fill_to (fill_up hI (by push_cast; omega) (enl_at (by omega) (by omega) (by push_cast; omega))) (by push_cast; omega)⟩ (by omega) ⟨rfl, rfl, rfl, rfl, rfl, rfl, rfl, rfl, rfl, rfl, trivial⟩ (List.Sublist.refl _)
            ·
              replace hc5 := of_decide_eq_false hc5
              refine gc_exit ?_
              refine gq_then_exit ?_
              refine gq_then_exit ?_
              refine gq_block_hit ?_
              refine gq_block_end ?_
              refine gq_next ?_
              refine gc_region ?_
              refine ne (eo_add rfl rfl rfl (by omega) (by omega)) rfl ?_
              refine ne (eo_mv rfl rfl) rfl ?_
              refine go_nil ?_
              exact round2 (y + 1) f1 ⟨by omega, by first
                | exact fill_to hI (by push_cast; rw [ha]; omega)
                | exact fill_spl hI (by omega) (by push_cast; rw [ha]; omega) (fun i hi hn => by rw [hI _ (by omega), if_pos (by omega)]; exact enl_copy (by omega) hc4 (by omega) (by omega) (by omega))⟩ (by omega) ⟨rfl, rfl, rfl, rfl, rfl, rfl, trivial⟩ (List.Sublist.refl _)
        ·
          replace hc3 := of_decide_eq_false hc3
          refine gc_exit ?_
          refine gq_then_exit ?_
          refine gq_then_exit ?_
          refine gq_block_hit ?_
          refine gq_next ?_
          refine gc_seq ?_
          refine gc_region ?_
          refine ne (eo_loadA 0 rfl a25 rfl rfl rfl rfl) rfl ?_
          refine nu (xo_storeA 2 rfl a25 rfl rfl (ones_cons (by first | rfl | exact AS.one) (ones_cons (by first | rfl | exact AS.one) (ones_cons (by first | rfl | exact AS.one) ones_nil))) rfl rfl rfl rfl) ?_
          rintro _ _ ⟨rfl, rfl⟩
          refine ne (eo_as rfl rfl) rfl ?_
          refine go_nil ?_
          refine gq_next ?_
          refine gc_ret ?_
          refine gq_results (resCT 2 rfl a25 rfl rfl rfl rfl rfl) ?_
          exact fun W1 hO => rx_own 1 hO rfl (enlR_ok hv (by omega) hf2) (fill_end hI (by rw [show (y : Int) = k * H by omega, Int.mul_comm (k * H)]; omega)) (by omega)

/-- barscan/barscanlaw47.FontJoins -/
theorem ljoins_c (str : ByteArray) (stt : ByteArray) (sc : Int) (w : World)  (c0 : 0 ≤ sc) (c1 : sc ≤ 255) :
    Calls Try.prog 6 #[.string str, .string stt, .int .u8 sc] w (fun e w' => e = .returned (.bool true) ∧ Ext w w') := by
  refine calls_enter (N := ⟨204, []⟩) [] ([]) Try.func6 rfl rfl rfl (Ow.start _) ?_
  refine gc_seq ?_
  refine gc_region ?_
  refine ne (eo_as rfl rfl) rfl ?_
  refine go_nil ?_
  refine gq_next ?_
  refine gc_seq ?_
  refine gc_region ?_
  refine ne (eo_mv rfl rfl) rfl ?_
  refine ne (eo_remk rfl rfl rfl (by omega) (by omega)) rfl ?_
  refine ne (eo_convi rfl rfl ⟨_, Try.underlying5⟩ Try.underlying3 (by omega) (by omega)) rfl ?_
  refine ne (eo_add rfl rfl rfl (by omega) (by omega)) rfl ?_
  refine ne (eo_as rfl rfl) rfl ?_
  refine go_nil ?_
  refine gq_next ?_
  refine gc_seq ?_
  refine gc_seq ?_
  refine gc_region ?_
  refine ne (eo_mv rfl rfl) rfl ?_
  refine ne (eo_lenS rfl Try.underlying9 rfl) rfl ?_
  refine ne (eo_gtr rfl rfl rfl) rfl ?_
  refine ne (eo_mv rfl rfl) rfl ?_
  refine ng rfl rfl (fun h => eo_mv rfl rfl) rfl ?_
  refine ng rfl rfl (fun h => eo_lenS rfl Try.underlying9 (ev_if h rfl)) rfl ?_
  refine ng rfl rfl (fun h => eo_gtr rfl (ev_if h rfl) rfl) rfl ?_
  refine ne (eo_or rfl rfl (fun hb => ev_if hb rfl)) rfl ?_
  refine go_nil ?_
  refine gq_next ?_
  refine gc_cond rfl (fun hc0 => ?_) (fun hc0 => ?_)
  ·
    have hd0 := (or_t hc0).imp (fun h => of_decide_eq_true h) (fun h => of_decide_eq_true h)
    refine gc_seq ?_
    refine gc_region ?_
    refine ne (eo_call rfl en7 rfl (fun W1 hO => exam47_c W1  )) rfl ?_
    refine ne (eo_as rfl rfl) rfl ?_
    refine go_nil ?_
    refine gq_next ?_
    refine gc_ret ?_
    refine gq_then_ret ?_
    refine gq_results (res1 rfl rfl) ?_
    exact fun W1 hO => ⟨rfl, hO.toExt⟩
  ·
    have hd0 := (or_f hc0).imp (fun h => of_decide_eq_false h) (fun h => of_decide_eq_false h)
    have hsz : (str ++ stt).size = str.size + stt.size := ByteArray.size_append
    refine gc_skip ?_
    refine gq_next ?_
    refine gc_seq ?_
    refine gc_region ?_
    refine ne (eo_mv rfl rfl) rfl ?_
    refine ne (eo_mv rfl rfl) rfl ?_
    refine nx (xo_freshT rfl en8 rfl (fun W1 hO => draw_x _ _ W1  (by omega))) rfl ?_
    rintro _ H41 ⟨S41, ⟨A41, k41, rfl, hk41, hS41⟩, hH41⟩
    obtain rfl : S41 = H41 := hH41.symm
    refine ne (eo_mv rfl rfl) rfl ?_
    refine ne (eo_extract rfl rfl rfl) rfl ?_
    refine ne (eo_extract rfl rfl rfl) rfl ?_
    refine nx (xo_alloc rfl z25) rfl ?_
    rintro _ _ ⟨g8, rfl, rfl⟩
    refine nu (xo_storeA 0 rfl a25 rfl rfl (ones_cons (by first | rfl | exact AS.one) (ones_cons (by first | rfl | exact AS.one) (ones_cons (by first | rfl | exact AS.one) ones_nil))) rfl rfl rfl rfl) ?_
    rintro _ _ ⟨rfl, rfl⟩
    refine ne (eo_as rfl rfl) rfl ?_
    refine go_nil ?_
    refine gq_next ?_
    refine gc_seq ?_
    refine gc_region ?_
    refine ne (eo_mv rfl rfl) rfl ?_
    refine ne (eo_mv rfl rfl) rfl ?_
    refine nx (xo_freshT rfl en8 rfl (fun W1 hO => draw_x _ _ W1  (by omega))) rfl ?_
    rintro _ _ ⟨S47, ⟨A47, k47, rfl, hk47, hS47⟩, rfl⟩
    refine ne (eo_mv rfl rfl) rfl ?_
    refine ne (eo_extract rfl rfl rfl) rfl ?_
    refine ne (eo_extract rfl rfl rfl) rfl ?_
    refine nx (xo_alloc rfl z25) rfl ?_
    rintro _ _ ⟨g10, rfl, rfl⟩
    refine nu (xo_storeA 0 rfl a25 rfl rfl (ones_cons (by first | rfl | exact AS.one) (ones_cons (by first | rfl | exact AS.one) (ones_cons (by first | rfl | exact AS.one) ones_nil))) rfl rfl rfl rfl) ?_
    rintro _ _ ⟨rfl, rfl⟩
    refine ne (eo_as rfl rfl) rfl ?_
    refine go_nil ?_
    refine gq_next ?_
    refine gc_seq ?_
    refine gc_region ?_
    refine ne (eo_mv rfl rfl) rfl ?_
    refine ne (eo_mv rfl rfl) rfl ?_
    refine ne (eo_sadd rfl rfl rfl (by omega)) rfl ?_
    refine ne (eo_mv rfl rfl) rfl ?_
    refine nx (xo_freshT rfl en8 rfl (fun W1 hO => draw_x _ _ W1  (by omega))) rfl ?_
    rintro _ _ ⟨S55, ⟨A55, k55, rfl, hk55, hS55⟩, rfl⟩
    refine ne (eo_mv rfl rfl) rfl ?_
    refine ne (eo_extract rfl rfl rfl) rfl ?_
    refine ne (eo_extract rfl rfl rfl) rfl ?_
    refine nx (xo_alloc rfl z25) rfl ?_
    rintro _ _ ⟨g12, rfl, rfl⟩
    refine nu (xo_storeA 0 rfl a25 rfl rfl (ones_cons (by first | rfl | exact AS.one) (ones_cons (by first | rfl | exact AS.one) (ones_cons (by first | rfl | exact AS.one) ones_nil))) rfl rfl rfl rfl) ?_
    rintro _ _ ⟨rfl, rfl⟩
    refine ne (eo_as rfl rfl) rfl ?_
    refine go_nil ?_
    refine gq_next ?_
    refine gc_seq ?_
    refine gc_seq ?_
    refine gc_region ?_
    refine ne (eo_mv rfl rfl) rfl ?_
    refine ne (eo_neq rfl rfl rfl) rfl ?_
    refine ne (eo_mv rfl rfl) rfl ?_
    refine ng rfl rfl (fun h => eo_mv rfl rfl) rfl ?_
    refine ng rfl rfl (fun h => eo_neq rfl (ev_if h rfl) rfl) rfl ?_
    refine ne (eo_or rfl rfl (fun hb => ev_if hb rfl)) rfl ?_
    refine go_nil ?_
    refine gq_next ?_
    refine gc_cond rfl (fun hc1 => ?_) (fun hc1 => ?_)
    ·
      have hd1 := (or_t hc1).imp (fun h => of_decide_eq_true h) (fun h => of_decide_eq_true h)
      refine gc_seq ?_
      refine gc_region ?_
      refine ne (eo_mv rfl rfl) rfl ?_
      refine ne (eo_eql rfl rfl rfl) rfl ?_
      refine ne (eo_mv rfl rfl) rfl ?_
      refine ng rfl rfl (fun h => eo_mv rfl rfl) rfl ?_
      refine ng rfl rfl (fun h => eo_eql rfl (ev_if h rfl) rfl) rfl ?_
      refine ne (eo_or rfl rfl (fun hb => ev_if hb rfl)) rfl ?_
      refine ne (eo_mv rfl rfl) rfl ?_
      refine ng rfl rfl (fun h => eo_mv rfl rfl) rfl ?_
      refine ng rfl rfl (fun h => eo_eql rfl (ev_if h rfl) rfl) rfl ?_
      refine ne (eo_or rfl rfl (fun hb => ev_if hb rfl)) rfl ?_
      refine ne (eo_mv rfl rfl) rfl ?_
      refine ng rfl rfl (fun h => eo_mv rfl rfl) rfl ?_
      refine ng rfl rfl (fun h => eo_eql rfl (ev_if h rfl) rfl) rfl ?_
      refine ne (eo_or rfl rfl (fun hb => ev_if hb rfl)) rfl ?_
      refine ne (eo_mv rfl rfl) rfl ?_
      refine ng rfl rfl (fun h => eo_call rfl en7 rfl (fun W1 hO => exam47_c W1  )) rfl ?_
      refine ne (eo_and rfl rfl (fun hb => ev_if hb rfl)) rfl ?_
      refine ne (eo_as rfl rfl) rfl ?_
      refine go_nil ?_
      refine gq_next ?_
      refine gc_ret ?_
      refine gq_then_ret ?_
      refine gq_results (res1 rfl rfl) ?_
      have p1 := (wid_small (s := str) (k := sc % 4 + 1) (by omega) (by omega) (by omega)).2
      have p2 := (wid_small (s := stt) (k := sc % 4 + 1) (by omega) (by omega) (by omega)).2
      rw [← drw_err] at p1 p2
      exact fun W1 hO => ⟨ret_bool (show ((((decide ((drwR str ((sc % 4) + 1)).2 = 6) || decide ((drwR str ((sc % 4) + 1)).2 = 5)) || decide ((drwR stt ((sc % 4) + 1)).2 = 6)) || decide ((drwR stt ((sc % 4) + 1)).2 = 5)) && true) = true from by simp; omega), hO.toExt⟩
    ·
      have hd1 := (or_f hc1).imp (fun h => ne_f h) (fun h => ne_f h)
      obtain ⟨j1, j2, j3, j4, j5, j6, j7, j8, j9, j10⟩ := joins (s := str) (t := stt) (k := sc % 4 + 1) (by rw [hd1.1]; decide) (by rw [hd1.2]; decide) (by omega) (by omega) (by omega) (by omega)
      have jm : 0 ≤ (drwR (str ++ stt) (sc % 4 + 1)).1.W * (drwR (str ++ stt) (sc % 4 + 1)).1.H ∧ (drwR (str ++ stt) (sc % 4 + 1)).1.W * (drwR (str ++ stt) (sc % 4 + 1)).1.H ≤ 956 * 28 := ⟨Int.mul_nonneg (by omega) (by omega), Int.mul_le_mul (by omega) (by omega) (by omega) (by omega)⟩
      refine gc_skip ?_
      refine gq_next ?_
      refine gc_seq ?_
      refine gc_region ?_
      refine ne (eo_mv rfl rfl) rfl ?_
      refine ne (eo_mv rfl rfl) rfl ?_
      refine ne (eo_sadd rfl rfl rfl (by omega)) rfl ?_
      refine ne (eo_mv rfl rfl) rfl ?_
      refine ne (eo_call rfl en10 rfl (fun W1 hO => width_c _ _ W1  (by omega))) rfl ?_
      refine ne (eo_mv rfl rfl) rfl ?_
      refine ne (eo_extract rfl rfl rfl) rfl ?_
      refine ne (eo_extract rfl rfl rfl) rfl ?_
      refine ne (eo_as rfl rfl) rfl ?_
      refine ne (eo_as rfl rfl) rfl ?_
      refine go_nil ?_
      refine gq_next ?_
      refine gc_seq ?_
      refine gc_seq ?_
      refine gc_region ?_
      refine ne (eo_mv rfl rfl) rfl ?_
      refine ne (eo_neq rfl rfl rfl) rfl ?_
      refine ne (eo_mv rfl rfl) rfl ?_
      refine ng rfl rfl (fun h => eo_mv rfl rfl) rfl ?_
      refine ng rfl rfl (fun h => eo_neq rfl (ev_if h rfl) rfl) rfl ?_
      refine ne (eo_or rfl rfl (fun hb => ev_if hb rfl)) rfl ?_
      refine ne (eo_mv rfl rfl) rfl ?_
      refine ng rfl rfl (fun h => eo_mv rfl rfl) rfl ?_
      refine ng rfl rfl (fun h => eo_field rfl f25_0 rfl) rfl ?_
      refine ng rfl rfl (fun h => eo_load 2 rfl s3 (ev_if h rfl) rfl rfl rfl) rfl ?_
      refine ng rfl rfl (fun h => eo_mv rfl rfl) rfl ?_
      refine ng rfl rfl (fun h => eo_add rfl (ev_if h rfl) (ev_if h rfl) (by have hg0 := (or_f h).imp (fun h => ne_f h) (fun h => ne_f h); omega) (by have hg0 := (or_f h).imp (fun h => ne_f h) (fun h => ne_f h); omega)) rfl ?_
      refine ng rfl rfl (fun h => eo_field rfl f25_0 rfl) rfl ?_
      refine ng rfl rfl (fun h => eo_load 1 rfl s3 (ev_if h rfl) rfl rfl rfl) rfl ?_
      refine ng rfl rfl (fun h => eo_add rfl (ev_if h rfl) (ev_if h rfl) (by have hg0 := (or_f h).imp (fun h => ne_f h) (fun h => ne_f h); omega) (by have hg0 := (or_f h).imp (fun h => ne_f h) (fun h => ne_f h); omega)) rfl ?_
      refine ng rfl rfl (fun h => eo_neq rfl (ev_if h rfl) (ev_if h rfl)) rfl ?_
      refine ne (eo_or rfl rfl (fun hb => ev_if hb rfl)) rfl ?_
      refine ne (eo_mv rfl rfl) rfl ?_
      refine ng rfl rfl (fun h => eo_field rfl f25_0 rfl) rfl ?_
      refine ng rfl rfl (fun h => eo_load 0 rfl s3 (ev_if h rfl) rfl rfl rfl) rfl ?_
      refine ng rfl rfl (fun h => eo_mv rfl rfl) rfl ?_
      refine ng rfl rfl (fun h => eo_neq rfl (ev_if h rfl) (ev_if h rfl)) rfl ?_
      refine ne (eo_or rfl rfl (fun hb => ev_if hb rfl)) rfl ?_
      refine ne (eo_mv rfl rfl) rfl ?_
      refine ng rfl rfl (fun h => eo_field rfl f25_1 rfl) rfl ?_
      refine ng rfl rfl (fun h => eo_load 0 rfl s3 (ev_if h rfl) rfl rfl rfl) rfl ?_
      refine ng rfl rfl (fun h => eo_mv rfl rfl) rfl ?_
      refine ng rfl rfl (fun h => eo_mul rfl rfl (ev_if h rfl) (by have hg0 := (or_f h).imp (fun h => (or_f h).imp (fun h => (or_f h).imp (fun h => ne_f h) (fun h => ne_f h)) (fun h => ne_f h)) (fun h => ne_f h); omega) (by have hg0 := (or_f h).imp (fun h => (or_f h).imp (fun h => (or_f h).imp (fun h => ne_f h) (fun h => ne_f h)) (fun h => ne_f h)) (fun h => ne_f h); omega)) rfl ?_
      refine ng rfl rfl (fun h => eo_neq rfl (ev_if h rfl) (ev_if h rfl)) rfl ?_
      refine ne (eo_or rfl rfl (fun hb => ev_if hb rfl)) rfl ?_
      refine ne (eo_mv rfl rfl) rfl ?_
      refine ng rfl rfl (fun h => eo_field rfl f25_1 rfl) rfl ?_
      refine ng rfl rfl (fun h => eo_load 2 rfl s3 (ev_if h rfl) rfl rfl rfl) rfl ?_
      refine ng rfl rfl (fun h => eo_field rfl f25_1 rfl) rfl ?_
      refine ng rfl rfl (fun h => eo_load 0 rfl s3 (ev_if h rfl) rfl rfl rfl) rfl ?_
      refine ng rfl rfl (fun h => eo_neq rfl (ev_if h rfl) (ev_if h rfl)) rfl ?_
      refine ne (eo_or rfl rfl (fun hb => ev_if hb rfl)) rfl ?_
      refine ne (eo_mv rfl rfl) rfl ?_
      refine ng rfl rfl (fun h => eo_field rfl f25_1 rfl) rfl ?_
      refine ng rfl rfl (fun h => eo_load 1 rfl s3 (ev_if h rfl) rfl rfl rfl) rfl ?_
      refine ng rfl rfl (fun h => eo_field rfl f25_1 rfl) rfl ?_
      refine ng rfl rfl (fun h => eo_load 0 rfl s3 (ev_if h rfl) rfl rfl rfl) rfl ?_
      refine ng rfl rfl (fun h => eo_neq rfl (ev_if h rfl) (ev_if h rfl)) rfl ?_
      refine ne (eo_or rfl rfl (fun hb => ev_if hb rfl)) rfl ?_
      refine ne (eo_mv rfl rfl) rfl ?_
      refine ng rfl rfl (fun h => eo_field rfl f25_2 rfl) rfl ?_
      refine ng rfl rfl (fun h => eo_load 0 rfl s23 (ev_if h rfl) rfl rfl rfl) rfl ?_
      refine ng rfl rfl (fun h => eo_len rfl Try.underlying23 (ev_if h rfl)) rfl ?_
      refine ng rfl rfl (fun h => eo_field rfl f25_0 rfl) rfl ?_
      refine ng rfl rfl (fun h => eo_load 0 rfl s3 (ev_if h rfl) rfl rfl rfl) rfl ?_
      refine ng rfl rfl (fun h => eo_field rfl f25_1 rfl) rfl ?_
      refine ng rfl rfl (fun h => eo_load 0 rfl s3 (ev_if h rfl) rfl rfl rfl) rfl ?_
      refine ng rfl rfl (fun h => eo_mul rfl (ev_if h rfl) (ev_if h rfl) (by have hg0 := (or_f h).imp (fun h => (or_f h).imp (fun h => (or_f h).imp (fun h => (or_f h).imp (fun h => (or_f h).imp (fun h => (or_f h).imp (fun h => ne_f h) (fun h => ne_f h)) (fun h => ne_f h)) (fun h => ne_f h)) (fun h => ne_f h)) (fun h => ne_f h)) (fun h => ne_f h); omega) (by have hg0 := (or_f h).imp (fun h => (or_f h).imp (fun h => (or_f h).imp (fun h => (or_f h).imp (fun h => (or_f h).imp (fun h => (or_f h).imp (fun h => ne_f h) (fun h => ne_f h)) (fun h => ne_f h)) (fun h => ne_f h)) (fun h => ne_f h)) (fun h => ne_f h)) (fun h => ne_f h); omega)) rfl ?_
      refine ng rfl rfl (fun h => eo_neq rfl (ev_if h rfl) (ev_if h rfl)) rfl ?_
      refine ne (eo_or rfl rfl (fun hb => ev_if hb rfl)) rfl ?_
      refine go_nil ?_
      refine gq_next ?_
      refine gc_cond rfl (fun hc2 => ?_) (fun hc2 => ?_)
      ·
        have hd2 := (or_t hc2).imp (fun h => (or_t h).imp (fun h => (or_t h).imp (fun h => (or_t h).imp (fun h => (or_t h).imp (fun h => (or_t h).imp (fun h => (or_t h).imp (fun h => of_decide_eq_true h) (fun h => of_decide_eq_true h)) (fun h => of_decide_eq_true h)) (fun h => of_decide_eq_true h)) (fun h => of_decide_eq_true h)) (fun h => of_decide_eq_true h)) (fun h => of_decide_eq_true h)) (fun h => of_decide_eq_true h)
        exfalso; omega
      ·
        have hd2 := (or_f hc2).imp (fun h => (or_f h).imp (fun h => (or_f h).imp (fun h => (or_f h).imp (fun h => (or_f h).imp (fun h => (or_f h).imp (fun h => (or_f h).imp (fun h => ne_f h) (fun h => ne_f h)) (fun h => ne_f h)) (fun h => ne_f h)) (fun h => ne_f h)) (fun h => ne_f h)) (fun h => ne_f h)) (fun h => ne_f h)
        refine gc_skip ?_
        refine gq_next ?_
        refine gc_seq ?_
        refine gc_seq ?_
        refine gc_region ?_
        refine ne (eo_field rfl f25_2 rfl) rfl ?_
        refine ne (eo_load 0 rfl s23 rfl rfl rfl rfl) rfl ?_
        refine ne (eo_len rfl Try.underlying23 rfl) rfl ?_
        refine ne (eo_mv rfl rfl) rfl ?_
        refine go_nil ?_
        refine gq_next ?_
        refine gc_block ?_
        refine loop1 (fun (i : Nat) => i ≤ (drwR (str ++ stt) (sc % 4 + 1)).1.n) (fun (i : Nat) => (drwR (str ++ stt) (sc % 4 + 1)).1.n - i) (fun (i : Nat) => [(0, .string str), (7, .int .i64 ((sc % 4) + 1)), (8, .pointer (some ⟨g8, 0, none⟩)), (10, .pointer (some ⟨g10, 0, none⟩)), (12, .pointer (some ⟨g12, 0, none⟩)), (145, .slice A55 ((drwR (str ++ stt) ((sc % 4) + 1)).1.n) k55), (146, .int .i64 (((drwR (str ++ stt) ((sc % 4) + 1)).1.n : Nat) : Int)), (147, .int .i64 (i : Int))]) (fun (i : Nat) => ⟨g12, 25, [.int .i64 ((drwR (str ++ stt) ((sc % 4) + 1)).1.W), .int .i64 ((drwR (str ++ stt) ((sc % 4) + 1)).1.H), .slice A55 ((drwR (str ++ stt) ((sc % 4) + 1)).1.n) k55]⟩ :: ⟨g10, 25, [.int .i64 ((drwR stt ((sc % 4) + 1)).1.W), .int .i64 ((drwR stt ((sc % 4) + 1)).1.H), .slice A47 ((drwR stt ((sc % 4) + 1)).1.n) k47]⟩ :: ⟨g8, 25, [.int .i64 ((drwR str ((sc % 4) + 1)).1.W), .int .i64 ((drwR str ((sc % 4) + 1)).1.H), .slice A41 ((drwR str ((sc % 4) + 1)).1.n) k41]⟩ :: ((S41 ++ S47) ++ S55)) 0 (by omega) ⟨rfl, rfl, rfl, rfl, rfl, rfl, rfl, rfl, trivial⟩ (List.Sublist.refl _) ?_
        intro i hi
        refine gc_seq ?_
        refine gc_region ?_
        refine ne (eo_lss rfl rfl rfl) rfl ?_
        refine go_nil ?_
        refine gq_next ?_
        refine gc_seq ?_
        refine gc_cond rfl (fun hc3 => ?_) (fun hc3 => ?_)
        ·
          replace hc3 := of_decide_eq_true hc3
          have q0 : 0 ≤ (i : Int) / (drwR (str ++ stt) (sc % 4 + 1)).1.W := Int.ediv_nonneg (by omega) (by omega)
          have q1 : (i : Int) / (drwR (str ++ stt) (sc % 4 + 1)).1.W ≤ i := Int.ediv_le_self _ (by omega)
          have q2 := Int.emod_nonneg (i : Int) (show (drwR (str ++ stt) (sc % 4 + 1)).1.W ≠ 0 by omega)
          have q3 := Int.emod_lt_of_pos (i : Int) (show 0 < (drwR (str ++ stt) (sc % 4 + 1)).1.W by omega)
          refine gc_skip ?_
          refine gq_next ?_
          refine gc_seq ?_
          refine gc_block ?_
          refine gc_seq ?_
          refine gc_region ?_
          refine ne (eo_mv rfl rfl) rfl ?_
          refine ne (eo_indexS rfl sl23 rfl rfl (fun W1 hO => (hS55.rd (hO.tl 3 rfl (List.sublist_append_right _ _)))) (by simp) (by omega) (by omega)) rfl ?_
          refine ne (eo_loadS rfl s4 rfl (fun W1 hO => Rd.tabb (hS55.rd (hO.tl 3 rfl (List.sublist_append_right _ _))) (by omega))) rfl ?_
          refine ne (eo_as rfl rfl) rfl ?_
          refine ne (eo_as rfl rfl) rfl ?_
          refine go_nil ?_
          refine gq_next ?_
          refine gc_seq ?_
          refine gc_draw [] [0, 1, 2, 3, 4, 5, 6, 7, 8, 9] [] [] (by kernel_rfl) (by kernel_rfl) ?_
          refine gp_nil ?_
          refine de rfl (eo_mv rfl rfl) rfl ?_
          refine de rfl (eo_field rfl f25_0 rfl) rfl ?_
          refine de rfl (eo_load 0 rfl s3 rfl rfl rfl rfl) rfl ?_
          refine de rfl (eo_rem rfl rfl rfl (by omega) (by omega)) rfl ?_
          refine de rfl (eo_mv rfl rfl) rfl ?_
          refine de rfl (eo_field rfl f25_0 rfl) rfl ?_
          refine de rfl (eo_load 0 rfl s3 rfl rfl rfl rfl) rfl ?_
          refine de rfl (eo_quo rfl rfl rfl (by omega) (by omega) (by omega)) rfl ?_
          refine de rfl (eo_as rfl rfl) rfl ?_
          refine de rfl (eo_as rfl rfl) rfl ?_
          refine ge_nil ?_
          refine ga_nil ?_
          refine gi_nil ?_
          refine gq_nq ?_
          refine gq_next ?_
          refine gc_seq ?_
          refine gc_region ?_
          refine ne (eo_loadA 2 rfl a25 rfl rfl rfl rfl) rfl ?_
          refine ne (eo_mv rfl rfl) rfl ?_
          refine ne (eo_mv rfl rfl) rfl ?_
          refine ne (eo_call rfl en22 rfl (fun W1 hO => at_c _ _ _ _ _ _ _ _ W1 (hS41.rd (hO.tl 3 rfl ((List.sublist_append_left _ _).trans (List.sublist_append_left _ _)))) )) rfl ?_
          refine ne (eo_mv rfl rfl) rfl ?_
          refine ng rfl rfl (fun h => eo_loadA 1 rfl a25 rfl rfl rfl rfl) rfl ?_
          refine ng rfl rfl (fun h => eo_mv rfl rfl) rfl ?_
          refine ng rfl rfl (fun h => eo_field rfl f25_0 rfl) rfl ?_
          refine ng rfl rfl (fun h => eo_load 2 rfl s3 (ev_if h rfl) rfl rfl rfl) rfl ?_
          refine ng rfl rfl (fun h => eo_sub rfl (ev_if h rfl) (ev_if h rfl) (by omega) (by omega)) rfl ?_
          refine ng rfl rfl (fun h => eo_mv rfl rfl) rfl ?_
          refine ng rfl rfl (fun h => eo_sub rfl (ev_if h rfl) (ev_if h rfl) (by omega) (by omega)) rfl ?_
          refine ng rfl rfl (fun h => eo_mv rfl rfl) rfl ?_
          refine ng rfl rfl (fun h => eo_call rfl en22 (evs_cons (ev_if h rfl) (evs_cons (ev_if h rfl) (evs_cons (ev_if h rfl) evs_nil))) (fun W1 hO => at_c _ _ _ _ _ _ _ _ W1 (hS47.rd (hO.tl 3 rfl ((List.sublist_append_right _ _).trans (List.sublist_append_left _ _)))) )) rfl ?_
          refine ne (eo_or rfl rfl (fun hb => ev_if hb rfl)) rfl ?_
          refine ne (eo_as rfl rfl) rfl ?_
          refine go_nil ?_
          refine gq_next ?_
          refine gc_seq ?_
          refine gc_region ?_
          refine ne (eo_mv rfl rfl) rfl ?_
          refine ne (eo_mv rfl rfl) rfl ?_
          refine ne (eo_bneq rfl rfl rfl Try.underlying4) rfl ?_
          refine go_nil ?_
          refine gq_next ?_
          refine gc_cond rfl (fun hc4 => ?_) (fun hc4 => ?_)
          ·
            exact (bne_iff_ne.1 hc4 (j10 i (by omega))).elim
          ·
            refine gc_skip ?_
            refine gq_block_end ?_
            refine gq_next ?_
            refine gc_region ?_
            refine ne (eo_add rfl rfl rfl (by omega) (by omega)) rfl ?_
            refine ne (eo_mv rfl rfl) rfl ?_
            refine go_nil ?_
            exact round1 (i + 1) (by omega) (by omega) ⟨rfl, rfl, rfl, rfl, rfl, rfl, rfl, rfl, trivial⟩ (List.Sublist.refl _)
        ·
          replace hc3 := of_decide_eq_false hc3
          refine gc_exit ?_
          refine gq_then_exit ?_
          refine gq_then_exit ?_
          refine gq_block_hit ?_
          refine gq_next ?_
          refine gc_seq ?_
          refine gc_region ?_
          refine ne (eo_mv rfl rfl) rfl ?_
          refine nx (xo_freshT rfl en8 rfl (fun W1 hO => draw_x _ _ W1  (by omega))) rfl ?_
          rintro _ _ ⟨S181, ⟨A181, k181, rfl, hk181, hS181⟩, rfl⟩
          refine ne (eo_mv rfl rfl) rfl ?_
          refine ne (eo_extract rfl rfl rfl) rfl ?_
          refine ne (eo_extract rfl rfl rfl) rfl ?_
          refine nx (xo_alloc rfl z25) rfl ?_
          rintro _ _ ⟨g21, rfl, rfl⟩
          refine nu (xo_storeA 0 rfl a25 rfl rfl (ones_cons (by first | rfl | exact AS.one) (ones_cons (by first | rfl | exact AS.one) (ones_cons (by first | rfl | exact AS.one) ones_nil))) rfl rfl rfl rfl) ?_
          rintro _ _ ⟨rfl, rfl⟩
          refine ne (eo_as rfl rfl) rfl ?_
          refine go_nil ?_
          refine gq_next ?_
          refine gc_seq ?_
          refine gc_region ?_
          refine ne (eo_loadA 0 rfl a25 rfl rfl rfl rfl) rfl ?_
          refine ne (eo_mv rfl rfl) rfl ?_
          refine nx (xo_freshT rfl en23 rfl (fun W1 hO => enl_x _ _ _ _ _ _ _ W1 (hS181.rd (hO.tl 4 rfl (List.sublist_append_right _ _))) )) rfl ?_
          rintro _ _ ⟨S187, ⟨A187, k187, rfl, hk187, hS187⟩, rfl⟩
          refine ne (eo_mv rfl rfl) rfl ?_
          refine ne (eo_extract rfl rfl rfl) rfl ?_
          refine ne (eo_extract rfl rfl rfl) rfl ?_
          refine nx (xo_alloc rfl z25) rfl ?_
          rintro _ _ ⟨g23, rfl, rfl⟩
          refine nu (xo_storeA 0 rfl a25 rfl rfl (ones_cons (by first | rfl | exact AS.one) (ones_cons (by first | rfl | exact AS.one) (ones_cons (by first | rfl | exact AS.one) ones_nil))) rfl rfl rfl rfl) ?_
          rintro _ _ ⟨rfl, rfl⟩
          refine ne (eo_as rfl rfl) rfl ?_
          refine go_nil ?_
          refine gq_next ?_
          refine gc_seq ?_
          refine gc_region ?_
          refine ne (eo_mv rfl rfl) rfl ?_
          refine ne (eo_eql rfl rfl rfl) rfl ?_
          refine ne (eo_mv rfl rfl) rfl ?_
          refine ng rfl rfl (fun h => eo_mv rfl rfl) rfl ?_
          refine ng rfl rfl (fun h => eo_eql rfl (ev_if h rfl) rfl) rfl ?_
          refine ne (eo_and rfl rfl (fun hb => ev_if hb rfl)) rfl ?_
          refine ne (eo_mv rfl rfl) rfl ?_
          refine ng rfl rfl (fun h => eo_loadA 0 rfl a25 rfl rfl rfl rfl) rfl ?_
          refine ng rfl rfl (fun h => eo_loadA 4 rfl a25 rfl rfl rfl rfl) rfl ?_
          refine ng rfl rfl (fun h => eo_call rfl en12 (evs_cons (ev_if h rfl) (evs_cons (ev_if h rfl) evs_nil)) (fun W1 hO => same47_c _ _ _ _ _ _ _ _ _ _ _ _ W1 (hS187.rd (hO.tl 5 rfl (List.sublist_append_right _ _))) (hS41.rd (hO.tl 5 rfl ((((List.sublist_append_left _ _).trans (List.sublist_append_left _ _)).trans (List.sublist_append_left _ _)).trans (List.sublist_append_left _ _)))) (Nat.le_trans enlR_le (by decide)))) rfl ?_
          refine ne (eo_and rfl rfl (fun hb => ev_if hb rfl)) rfl ?_
          refine ne (eo_mv rfl rfl) rfl ?_
          refine ng rfl rfl (fun h => eo_call rfl en7 rfl (fun W1 hO => exam47_c W1  )) rfl ?_
          refine ne (eo_and rfl rfl (fun hb => ev_if hb rfl)) rfl ?_
          refine ne (eo_as rfl rfl) rfl ?_
          refine go_nil ?_
          refine gq_next ?_
          refine gc_ret ?_
          refine gq_results (res1 rfl rfl) ?_
          obtain ⟨b1, b2, b3⟩ := joins_big (s := str) (k := sc % 4 + 1) (by rw [hd1.1]; decide) (by omega) (by omega) (by omega)
          exact fun W1 hO => ⟨ret_bool (show (((decide ((drwR str 1).2 = 0) && decide ((enlR (drwR str 1).1 ((sc % 4) + 1)).2 = 0)) && (eqP (enlR (drwR str 1).1 ((sc % 4) + 1)).1 (drwR str ((sc % 4) + 1)).1)) && true) = true from by simp [b1, b2, b3]), hO.toExt⟩

end Go.Proofs.Ytjndoanhkfdngaa
