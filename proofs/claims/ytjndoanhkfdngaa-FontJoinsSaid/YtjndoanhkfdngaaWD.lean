/-
  The walks of the functions of package font and of the document's answer (part D): what each call returns, at every argument.
-/
import Derived.Test.YtjndoanhkfdngaaWC
namespace Go.Proofs.Ytjndoanhkfdngaa
open Go.RowKit Go.Eng

open Go.Bs
theorem en10 : Ent Try.prog 10 := ent_of Try.func10 (by kernel_rfl) rfl
theorem en11 : Ent Try.prog 11 := ent_of Try.func11 (by kernel_rfl) rfl

/-- barscan/font.Width -/
theorem width_c (str : ByteArray) (k : Int) (w : World)  (hs : str.size ≤ 16384) :
    Calls Try.prog 10 #[.string str, .int .i64 k] w (fun e w' => e = .returned (.tuple #[.int .i64 (widR str k).1, .int .i64 (widR str k).2]) ∧ Ext w w') := by
  refine calls_enter (N := ⟨34, []⟩) [] ([]) Try.func10 rfl rfl rfl (Ow.start _) ?_
  refine gc_seq ?_
  refine gc_region ?_
  refine ne (eo_as rfl rfl) rfl ?_
  refine ne (eo_as rfl rfl) rfl ?_
  refine go_nil ?_
  refine gq_next ?_
  refine gc_seq ?_
  refine gc_seq ?_
  refine gc_region ?_
  refine ne (eo_mv rfl rfl) rfl ?_
  refine ne (eo_seql rfl rfl rfl) rfl ?_
  refine go_nil ?_
  refine gq_next ?_
  refine gc_cond rfl (fun hc0 => ?_) (fun hc0 => ?_)
  ·
    refine gc_seq ?_
    refine gc_region ?_
    refine ne (eo_as rfl rfl) rfl ?_
    refine ne (eo_as rfl rfl) rfl ?_
    refine go_nil ?_
    refine gq_next ?_
    refine gc_ret ?_
    refine gq_then_ret ?_
    refine gq_results (res2 rfl rfl rfl) ?_
    exact fun W1 hO => ⟨ret_ii (by rw [widR_0]; rw [str_nil] at hc0; exact of_decide_eq_true hc0), hO.toExt⟩
  ·
    rw [str_nil] at hc0
    have hne : str.size ≠ 0 := of_decide_eq_false hc0
    refine gc_skip ?_
    refine gq_next ?_
    refine gc_seq ?_
    refine gc_seq ?_
    refine gc_region ?_
    refine ne (eo_mv rfl rfl) rfl ?_
    refine go_rangeS rfl Try.underlying9 rfl ?_
    intro it12 Wi12 hit12 hni12 hBi12
    refine go_nil ?_
    refine gq_next ?_
    refine gc_block ?_
    refine loopS1 (fun (p : Nat) => p ≤ str.size ∧ ∀ j, j < p → knownB (byI str j) = true) (fun (p : Nat) => p) (fun (p : Nat) => [(0, .string str), (1, .int .i64 k), (12, .pointer (some ⟨it12, 0, none⟩))]) (fun (p : Nat) => []) 0 hit12 hni12 ⟨by omega, fun j hj => by omega⟩ ⟨rfl, rfl, rfl, trivial⟩ (List.Sublist.refl _) ?_
    rintro p ⟨hp, hI⟩
    intro Wr0 hir0 hnr0 hBr0
    refine gc_seq ?_
    refine gc_region ?_
    by_cases hps13 : p < str.size
    ·
      refine go_nextS hir0 hnr0 rfl hps13 rfl ?_
      intro Wn13 hin13 hBn13 hnn13
      refine ne (eo_extract rfl rfl rfl) rfl ?_
      refine go_nil ?_
      refine gq_next ?_
      refine gc_seq ?_
      refine gc_cond rfl (fun hc1 => ?_) (fun hc1 => ?_)
      ·
        refine gc_skip ?_
        refine gq_next ?_
        refine gc_block ?_
        refine gc_seq ?_
        refine gc_region ?_
        refine ne (eo_extract rfl rfl rfl) rfl ?_
        refine ne (eo_as rfl rfl) rfl ?_
        refine go_nil ?_
        refine gq_next ?_
        refine gc_seq ?_
        refine gc_region ?_
        refine ne (eo_mv rfl rfl) rfl ?_
        refine ne (eo_call rfl en24 rfl (fun W1 hO => known_c _ W1  )) rfl ?_
        refine ne (eo_not rfl rfl) rfl ?_
        refine go_nil ?_
        refine gq_next ?_
        refine gc_cond rfl (fun hc2 => ?_) (fun hc2 => ?_)
        ·
          have hd2 := (not_t hc2)
          have hpb := hps13
          have hkb : knownB (byI str p) = false := by rw [← kn_rn hps13]; exact not_t hc2
          refine gc_seq ?_
          refine gc_region ?_
          refine ne (eo_as rfl rfl) rfl ?_
          refine ne (eo_as rfl rfl) rfl ?_
          refine go_nil ?_
          refine gq_next ?_
          refine gc_ret ?_
          refine gq_block_ret ?_
          refine gq_then_ret ?_
          refine gq_block_ret ?_
          refine gq_then_ret ?_
          refine gq_results (res2 rfl rfl rfl) ?_
          exact fun W1 hO9 => have hO := (hBi12 _ _ (hBr0 _ _ (hBn13 _ _ (Ow.more1 hO9)))); ⟨ret_ii (by rw [widR_c hne (allK_no hpb hkb)]), hO.toExt⟩
        ·
          have hd2 := (not_f hc2)
          have hkb : knownB (byI str p) = true := by rw [← kn_rn hps13]; exact not_f hc2
          have hkw := kn_w hps13 hkb
          refine gc_skip ?_
          refine gq_block_end ?_
          exact roundS1 hin13 hnn13 (fun W4 H4 k4 => (hBr0 _ _ (hBn13 _ _ k4))) (p + 1) (by show p + 1 = _; rw [hkw.2]) ⟨by omega, fun j hj => by by_cases e : j = p; (· subst e; exact hkb); exact hI j (by omega)⟩ (by omega) ⟨rfl, rfl, rfl, trivial⟩ (List.Sublist.refl _)
      ·
        first | exact absurd hc1 (by decide) | exact Bool.noConfusion hc1 | (exfalso; omega)
    ·
      refine go_nextE hir0 hnr0 rfl hps13 rfl ?_
      refine ne (eo_extract rfl rfl rfl) rfl ?_
      refine go_nil ?_
      refine gq_next ?_
      refine gc_seq ?_
      refine gc_cond rfl (fun hc1 => ?_) (fun hc1 => ?_)
      ·
        first | exact absurd hc1 (by decide) | exact Bool.noConfusion hc1 | (exfalso; omega)
      ·
        refine gc_exit ?_
        refine gq_then_exit ?_
        refine gq_then_exit ?_
        refine gq_block_hit ?_
        refine gq_next ?_
        refine gc_seq ?_
        refine gc_seq ?_
        refine gc_region ?_
        refine ne (eo_mv rfl rfl) rfl ?_
        refine ne (eo_lss rfl rfl rfl) rfl ?_
        refine ne (eo_mv rfl rfl) rfl ?_
        refine ng rfl rfl (fun h => eo_mv rfl rfl) rfl ?_
        refine ng rfl rfl (fun h => eo_gtr rfl (ev_if h rfl) rfl) rfl ?_
        refine ne (eo_or rfl rfl (fun hb => ev_if hb rfl)) rfl ?_
        refine go_nil ?_
        refine gq_next ?_
        refine gc_cond rfl (fun hc3 => ?_) (fun hc3 => ?_)
        ·
          have hd3 := (or_t hc3).imp (fun h => of_decide_eq_true h) (fun h => of_decide_eq_true h)
          refine gc_seq ?_
          refine gc_region ?_
          refine ne (eo_as rfl rfl) rfl ?_
          refine ne (eo_as rfl rfl) rfl ?_
          refine go_nil ?_
          refine gq_next ?_
          refine gc_ret ?_
          refine gq_then_ret ?_
          refine gq_results (res2 rfl rfl rfl) ?_
          exact fun W1 hO9 => have hO := (hBi12 _ _ (hBr0 _ _ (Ow.more1 hO9))); ⟨ret_ii (by rw [widR_r hne (allK_iff.2 fun j hj => hI j (by omega)) hd3]), hO.toExt⟩
        ·
          have hd3 := (or_f hc3).imp (fun h => of_decide_eq_false h) (fun h => of_decide_eq_false h)
          have hm : 0 ≤ (6 * (str.size : Int) - 1) * k ∧ (6 * (str.size : Int) - 1) * k ≤ 98304 * 64 := ⟨Int.mul_nonneg (by omega) (by omega), Int.mul_le_mul (by omega) (by omega) (by omega) (by omega)⟩
          refine gc_skip ?_
          refine gq_next ?_
          refine gc_seq ?_
          refine gc_region ?_
          refine ne (eo_mv rfl rfl) rfl ?_
          refine ne (eo_lenS rfl Try.underlying9 rfl) rfl ?_
          refine ne (eo_mul rfl rfl rfl (by omega) (by omega)) rfl ?_
          refine ne (eo_sub rfl rfl rfl (by omega) (by omega)) rfl ?_
          refine ne (eo_mv rfl rfl) rfl ?_
          refine ne (eo_mul rfl rfl rfl (by omega) (by omega)) rfl ?_
          refine ne (eo_as rfl rfl) rfl ?_
          refine go_nil ?_
          refine gq_next ?_
          refine gc_seq ?_
          refine gc_seq ?_
          refine gc_region ?_
          refine ne (eo_mv rfl rfl) rfl ?_
          refine ne (eo_gtr rfl rfl rfl) rfl ?_
          refine go_nil ?_
          refine gq_next ?_
          refine gc_cond rfl (fun hc4 => ?_) (fun hc4 => ?_)
          ·
            replace hc4 := of_decide_eq_true hc4
            refine gc_seq ?_
            refine gc_region ?_
            refine ne (eo_as rfl rfl) rfl ?_
            refine ne (eo_as rfl rfl) rfl ?_
            refine go_nil ?_
            refine gq_next ?_
            refine gc_ret ?_
            refine gq_then_ret ?_
            refine gq_results (res2 rfl rfl rfl) ?_
            exact fun W1 hO9 => have hO := (hBi12 _ _ (hBr0 _ _ (Ow.more1 hO9))); ⟨ret_ii (by rw [widR_l hne (allK_iff.2 fun j hj => hI j (by omega)) (by omega) hc4]), hO.toExt⟩
          ·
            replace hc4 := of_decide_eq_false hc4
            refine gc_skip ?_
            refine gq_next ?_
            refine gc_seq ?_
            refine gc_region ?_
            refine ne (eo_mv rfl rfl) rfl ?_
            refine ne (eo_as rfl rfl) rfl ?_
            refine ne (eo_as rfl rfl) rfl ?_
            refine go_nil ?_
            refine gq_next ?_
            refine gc_ret ?_
            refine gq_results (res2 rfl rfl rfl) ?_
            exact fun W1 hO9 => have hO := (hBi12 _ _ (hBr0 _ _ (Ow.more1 hO9))); ⟨ret_ii (by rw [widR_ok hne (allK_iff.2 fun j hj => hI j (by omega)) (by omega) hc4]), hO.toExt⟩

/-- barscan/barscanref47.Width -/
theorem rwidth_c (str : ByteArray) (k : Int) (w : World)  (hs : str.size ≤ 16384) :
    Calls Try.prog 11 #[.string str, .int .i64 k] w (fun e w' => e = .returned (.tuple #[.int .i64 (widR str k).1, .int .i64 (widR str k).2]) ∧ Ext w w') := by
  refine calls_enter (N := ⟨36, []⟩) [] ([]) Try.func11 rfl rfl rfl (Ow.start _) ?_
  refine gc_seq ?_
  refine gc_region ?_
  refine ne (eo_as rfl rfl) rfl ?_
  refine ne (eo_as rfl rfl) rfl ?_
  refine go_nil ?_
  refine gq_next ?_
  refine gc_seq ?_
  refine gc_seq ?_
  refine gc_region ?_
  refine ne (eo_mv rfl rfl) rfl ?_
  refine ne (eo_seql rfl rfl rfl) rfl ?_
  refine go_nil ?_
  refine gq_next ?_
  refine gc_cond rfl (fun hc0 => ?_) (fun hc0 => ?_)
  ·
    refine gc_seq ?_
    refine gc_region ?_
    refine ne (eo_as rfl rfl) rfl ?_
    refine ne (eo_as rfl rfl) rfl ?_
    refine go_nil ?_
    refine gq_next ?_
    refine gc_ret ?_
    refine gq_then_ret ?_
    refine gq_results (res2 rfl rfl rfl) ?_
    exact fun W1 hO => ⟨ret_ii (by rw [widR_0]; rw [str_nil] at hc0; exact of_decide_eq_true hc0), hO.toExt⟩
  ·
    rw [str_nil] at hc0
    have hne : str.size ≠ 0 := of_decide_eq_false hc0
    refine gc_skip ?_
    refine gq_next ?_
    refine gc_seq ?_
    refine gc_seq ?_
    refine gc_region ?_
    refine ne (eo_as rfl rfl) rfl ?_
    refine go_nil ?_
    refine gq_next ?_
    refine gc_block ?_
    refine loop1 (fun (p : Nat) => p ≤ str.size ∧ ∀ j, j < p → knownB (byI str j) = true) (fun (p : Nat) => str.size - p) (fun (p : Nat) => [(0, .string str), (1, .int .i64 k), (6, .int .i64 (p : Int))]) (fun (p : Nat) => []) 0 ⟨by omega, fun j hj => by omega⟩ ⟨rfl, rfl, rfl, trivial⟩ (List.Sublist.refl _) ?_
    rintro p ⟨hp, hI⟩
    refine gc_seq ?_
    refine gc_seq ?_
    refine gc_region ?_
    refine ne (eo_mv rfl rfl) rfl ?_
    refine ne (eo_mv rfl rfl) rfl ?_
    refine ne (eo_lenS rfl Try.underlying9 rfl) rfl ?_
    refine ne (eo_lss rfl rfl rfl) rfl ?_
    refine go_nil ?_
    refine gq_next ?_
    refine gc_cond rfl (fun hc1 => ?_) (fun hc1 => ?_)
    ·
      replace hc1 := of_decide_eq_true hc1
      have hbb := byI_bd (s := str) (i := p)
      have hbb2 := byI_bd (s := str) (i := (p : Int).toNat)
      refine gc_skip ?_
      refine gq_next ?_
      refine gc_seq ?_
      refine gc_block ?_
      refine gc_seq ?_
      refine gc_region ?_
      refine ne (eo_mv rfl rfl) rfl ?_
      refine ne (eo_mv rfl rfl) rfl ?_
      refine ne (eo_strAt rfl Try.underlying9 rfl rfl (by omega) (by omega)) rfl ?_
      refine ne (eo_call rfl en25 rfl (fun W1 hO => rows_c _ W1  (by omega) (by omega))) rfl ?_
      refine ne (eo_seql rfl rfl rfl) rfl ?_
      refine go_nil ?_
      refine gq_next ?_
      refine gc_cond rfl (fun hc2 => ?_) (fun hc2 => ?_)
      ·
        have hpb : p < str.size := by omega
        have hkb : knownB (byI str p) = false := by
          rw [refS_nil] at hc2
          exact not_t hc2
        refine gc_seq ?_
        refine gc_region ?_
        refine ne (eo_as rfl rfl) rfl ?_
        refine ne (eo_as rfl rfl) rfl ?_
        refine go_nil ?_
        refine gq_next ?_
        refine gc_ret ?_
        refine gq_block_ret ?_
        refine gq_then_ret ?_
        refine gq_then_ret ?_
        refine gq_block_ret ?_
        refine gq_then_ret ?_
        refine gq_results (res2 rfl rfl rfl) ?_
        exact fun W1 hO => ⟨ret_ii (by rw [widR_c hne (allK_no hpb hkb)]), hO.toExt⟩
      ·
        have hkb : knownB (byI str p) = true := by
          rw [refS_nil] at hc2
          exact not_f hc2
        refine gc_skip ?_
        refine gq_block_end ?_
        refine gq_next ?_
        refine gc_region ?_
        refine ne (eo_mv rfl rfl) rfl ?_
        refine ne (eo_add rfl rfl rfl (by omega) (by omega)) rfl ?_
        refine ne (eo_as rfl rfl) rfl ?_
        refine go_nil ?_
        exact round1 (p + 1) ⟨by omega, fun j hj => by by_cases e : j = p; (· subst e; exact hkb); exact hI j (by omega)⟩ (by omega) ⟨rfl, rfl, rfl, trivial⟩ (List.Sublist.refl _)
    ·
      replace hc1 := of_decide_eq_false hc1
      refine gc_exit ?_
      refine gq_then_exit ?_
      refine gq_then_exit ?_
      refine gq_block_hit ?_
      refine gq_next ?_
      refine gc_seq ?_
      refine gc_seq ?_
      refine gc_region ?_
      refine ne (eo_mv rfl rfl) rfl ?_
      refine ne (eo_lss rfl rfl rfl) rfl ?_
      refine ne (eo_mv rfl rfl) rfl ?_
      refine ng rfl rfl (fun h => eo_mv rfl rfl) rfl ?_
      refine ng rfl rfl (fun h => eo_gtr rfl (ev_if h rfl) rfl) rfl ?_
      refine ne (eo_or rfl rfl (fun hb => ev_if hb rfl)) rfl ?_
      refine go_nil ?_
      refine gq_next ?_
      refine gc_cond rfl (fun hc3 => ?_) (fun hc3 => ?_)
      ·
        have hd3 := (or_t hc3).imp (fun h => of_decide_eq_true h) (fun h => of_decide_eq_true h)
        refine gc_seq ?_
        refine gc_region ?_
        refine ne (eo_as rfl rfl) rfl ?_
        refine ne (eo_as rfl rfl) rfl ?_
        refine go_nil ?_
        refine gq_next ?_
        refine gc_ret ?_
        refine gq_then_ret ?_
        refine gq_results (res2 rfl rfl rfl) ?_
        exact fun W1 hO => ⟨ret_ii (by rw [widR_r hne (allK_iff.2 fun j hj => hI j (by omega)) hd3]), hO.toExt⟩
      ·
        have hd3 := (or_f hc3).imp (fun h => of_decide_eq_false h) (fun h => of_decide_eq_false h)
        have hm : 0 ≤ (6 * (str.size : Int) - 1) * k ∧ (6 * (str.size : Int) - 1) * k ≤ 98304 * 64 := ⟨Int.mul_nonneg (by omega) (by omega), Int.mul_le_mul (by omega) (by omega) (by omega) (by omega)⟩
        refine gc_skip ?_
        refine gq_next ?_
        refine gc_seq ?_
        refine gc_region ?_
        refine ne (eo_mv rfl rfl) rfl ?_
        refine ne (eo_lenS rfl Try.underlying9 rfl) rfl ?_
        refine ne (eo_mul rfl rfl rfl (by omega) (by omega)) rfl ?_
        refine ne (eo_sub rfl rfl rfl (by omega) (by omega)) rfl ?_
        refine ne (eo_mv rfl rfl) rfl ?_
        refine ne (eo_mul rfl rfl rfl (by omega) (by omega)) rfl ?_
        refine ne (eo_as rfl rfl) rfl ?_
        refine go_nil ?_
        refine gq_next ?_
        refine gc_seq ?_
        refine gc_seq ?_
        refine gc_region ?_
        refine ne (eo_mv rfl rfl) rfl ?_
        refine ne (eo_gtr rfl rfl rfl) rfl ?_
        refine go_nil ?_
        refine gq_next ?_
        refine gc_cond rfl (fun hc4 => ?_) (fun hc4 => ?_)
        ·
          replace hc4 := of_decide_eq_true hc4
          refine gc_seq ?_
          refine gc_region ?_
          refine ne (eo_as rfl rfl) rfl ?_
          refine ne (eo_as rfl rfl) rfl ?_
          refine go_nil ?_
          refine gq_next ?_
          refine gc_ret ?_
          refine gq_then_ret ?_
          refine gq_results (res2 rfl rfl rfl) ?_
          exact fun W1 hO => ⟨ret_ii (by rw [widR_l hne (allK_iff.2 fun j hj => hI j (by omega)) (by omega) hc4]), hO.toExt⟩
        ·
          replace hc4 := of_decide_eq_false hc4
          refine gc_skip ?_
          refine gq_next ?_
          refine gc_seq ?_
          refine gc_region ?_
          refine ne (eo_mv rfl rfl) rfl ?_
          refine ne (eo_as rfl rfl) rfl ?_
          refine ne (eo_as rfl rfl) rfl ?_
          refine go_nil ?_
          refine gq_next ?_
          refine gc_ret ?_
          refine gq_results (res2 rfl rfl rfl) ?_
          exact fun W1 hO => ⟨ret_ii (by rw [widR_ok hne (allK_iff.2 fun j hj => hI j (by omega)) (by omega) hc4]), hO.toExt⟩

/-- barscan/font.Draw -/
theorem draw_x (str : ByteArray) (k : Int) (w : World)  (hs : str.size ≤ 16384) :
    Calls Try.prog 8 #[.string str, .int .i64 k] w (fun e w' => ∃ v Hn, e = .returned v ∧ RX (drwR str k) v Hn ∧ Ow [] w w' Hn) := by
  refine calls_enter (N := ⟨88, []⟩) [] ([]) Try.func8 rfl rfl rfl (Ow.start _) ?_
  refine gc_seq ?_
  refine gc_region ?_
  refine nx (xo_alloc rfl z25) rfl ?_
  rintro _ _ ⟨g4, rfl, rfl⟩
  refine ne (eo_as rfl rfl) rfl ?_
  refine go_nil ?_
  refine gq_next ?_
  refine gc_seq ?_
  refine gc_region ?_
  refine ne (eo_mv rfl rfl) rfl ?_
  refine ne (eo_mv rfl rfl) rfl ?_
  refine ne (eo_call rfl en10 rfl (fun W1 hO => width_c _ _ W1  (by omega))) rfl ?_
  refine ne (eo_mv rfl rfl) rfl ?_
  refine ne (eo_extract rfl rfl rfl) rfl ?_
  refine ne (eo_extract rfl rfl rfl) rfl ?_
  refine ne (eo_as rfl rfl) rfl ?_
  refine ne (eo_as rfl rfl) rfl ?_
  refine go_nil ?_
  refine gq_next ?_
  refine gc_seq ?_
  refine gc_seq ?_
  refine gc_region ?_
  refine ne (eo_mv rfl rfl) rfl ?_
  refine ne (eo_neq rfl rfl rfl) rfl ?_
  refine go_nil ?_
  refine gq_next ?_
  refine gc_cond rfl (fun hc0 => ?_) (fun hc0 => ?_)
  ·
    replace hc0 := of_decide_eq_true hc0
    refine gc_seq ?_
    refine gc_region ?_
    refine ne (eo_build rfl rfl (b25_)) rfl ?_
    refine ne (eo_mv rfl rfl) rfl ?_
    refine nu (xo_storeA 0 rfl a25 rfl rfl (ones_cons (by first | rfl | exact AS.one) (ones_cons (by first | rfl | exact AS.one) (ones_cons (by first | rfl | exact AS.one) ones_nil))) rfl rfl rfl rfl) ?_
    rintro _ _ ⟨rfl, rfl⟩
    refine ne (eo_as rfl rfl) rfl ?_
    refine go_nil ?_
    refine gq_next ?_
    refine gc_ret ?_
    refine gq_then_ret ?_
    refine gq_results (resCT 0 rfl a25 rfl rfl rfl rfl rfl) ?_
    exact fun W1 hO => rx_nil hO (drwR_no hc0)
  ·
    replace hc0 := of_decide_eq_false hc0
    obtain ⟨z1, z2, z3, z4, z5, z6⟩ := widR_zero hc0
    obtain ⟨y1, y2, y3, y4, y5, y6⟩ := wid_sz hc0
    have hN : (widR str k).1 * (7 * k) = (widR str k).1 * 7 * k := by rw [Int.mul_assoc]
    refine gc_skip ?_
    refine gq_next ?_
    refine gc_seq ?_
    refine gc_region ?_
    refine ne (eo_mv rfl rfl) rfl ?_
    refine ne (eo_mv rfl rfl) rfl ?_
    refine ne (eo_mul rfl rfl rfl (by omega) (by omega)) rfl ?_
    refine ne (eo_mv rfl rfl) rfl ?_
    refine ne (eo_mul rfl rfl rfl (by omega) (by omega)) rfl ?_
    refine ne (eo_mv rfl rfl) rfl ?_
    refine ne (eo_mul rfl rfl rfl (by omega) (by omega)) rfl ?_
    refine nx (xo_makeb rfl Try.underlying23 e4 rfl rfl (by omega) (by omega) (by omega)) rfl ?_
    rintro _ _ ⟨g32, rfl, rfl⟩
    refine ne (eo_build rfl rfl (b25_012 _ _ _ _ _)) rfl ?_
    refine nx (xo_alloc rfl z25) rfl ?_
    rintro _ _ ⟨g8, rfl, rfl⟩
    refine nu (xo_storeA 0 rfl a25 rfl rfl (ones_cons (by first | rfl | exact AS.one) (ones_cons (by first | rfl | exact AS.one) (ones_cons (by first | rfl | exact AS.one) ones_nil))) rfl rfl rfl rfl) ?_
    rintro _ _ ⟨rfl, rfl⟩
    refine go_nil ?_
    refine gq_next ?_
    refine gc_seq ?_
    refine gc_seq ?_
    refine gc_region ?_
    refine ne (eo_mv rfl rfl) rfl ?_
    refine go_rangeS rfl Try.underlying9 rfl ?_
    intro it35 Wi35 hit35 hni35 hBi35
    refine go_nil ?_
    refine gq_next ?_
    refine gc_block ?_
    refine loopS2 (fun (p : Nat) (f1 : Nat → Bool) => p ≤ str.size ∧ DrwI str k (widR str k).1 (6 * (p : Int) * k) 0 0 ((widR str k).1 * 7 * k).toNat f1) (fun (p : Nat) (f1 : Nat → Bool) => p) (fun (p : Nat) (f1 : Nat → Bool) => [(1, .int .i64 k), (4, .pointer (some ⟨g4, 0, none⟩)), (6, .int .i64 ((widR str k).1)), (8, .pointer (some ⟨g8, 0, none⟩)), (35, .pointer (some ⟨it35, 0, none⟩))]) (fun (p : Nat) (f1 : Nat → Bool) => [⟨g8, 25, [.int .i64 ((widR str k).1), .int .i64 (7 * k), .slice (some ⟨g32, 0, none⟩) (((((widR str k).1 * 7) * k)).toNat) (((((widR str k).1 * 7) * k)).toNat)]⟩, ⟨g32, 4, tab (((((widR str k).1 * 7) * k)).toNat) (bv f1) ++ []⟩, ⟨g4, 25, [.int .i64 0, .int .i64 0, .slice none 0 0]⟩]) 0 (fun _ => false) hit35 hni35 ⟨by omega, by rw [show 6 * ((0 : Nat) : Int) * k = 0 by simp]; exact drw_new y1⟩ ⟨rfl, rfl, rfl, rfl, rfl, trivial⟩ (List.Sublist.refl _) ?_
    rintro p f1 ⟨hp, hI⟩
    intro Wr0 hir0 hnr0 hBr0
    refine gc_seq ?_
    refine gc_region ?_
    by_cases hps36 : p < str.size
    ·
      refine go_nextS hir0 hnr0 rfl hps36 rfl ?_
      intro Wn36 hin36 hBn36 hnn36
      have hkn0 : knownB (byI str p) = true := allK_iff.1 z2 p (by omega)
      have hrn := kn_w hps36 hkn0
      have hbb := byI_bd (s := str) (i := p)
      have hkn : knownB (byI str p) = true := allK_iff.1 z2 p (by omega)
      have hku := known_u8 hkn
      obtain ⟨u1, u2, u3⟩ := drw_u (p := p) z5 (by omega) z3
      have hgn : (glyR (rnI str p)).1.n = 35 := by rw [hrn.1, glyR_ok hkn]
      have hgf : ∀ j, (glyR (rnI str p)).1.f j = gpx (byI str p) j := fun j => by rw [hrn.1, glyR_ok hkn]
      refine ne (eo_extract rfl rfl rfl) rfl ?_
      refine go_nil ?_
      refine gq_next ?_
      refine gc_seq ?_
      refine gc_cond rfl (fun hc1 => ?_) (fun hc1 => ?_)
      ·
        refine gc_skip ?_
        refine gq_next ?_
        refine gc_block ?_
        refine gc_seq ?_
        refine gc_region ?_
        refine ne (eo_extract rfl rfl rfl) rfl ?_
        refine ne (eo_extract rfl rfl rfl) rfl ?_
        refine ne (eo_as rfl rfl) rfl ?_
        refine ne (eo_as rfl rfl) rfl ?_
        refine go_nil ?_
        refine gq_next ?_
        refine gc_seq ?_
        refine gc_region ?_
        refine ne (eo_mv rfl rfl) rfl ?_
        refine ne (eo_convk rfl rfl ⟨_, Try.underlying21⟩ Try.underlying5 (u8_in (by omega) (by omega))) rfl ?_
        refine nx (xo_freshT rfl en13 rfl (fun W1 hO => glyph_x _ W1  (by omega) (by omega))) rfl ?_
        rintro _ _ ⟨S43, ⟨A43, k43, rfl, hk43, hS43⟩, rfl⟩
        refine ne (eo_mv rfl rfl) rfl ?_
        refine ne (eo_extract rfl rfl rfl) rfl ?_
        refine ne (eo_extract rfl rfl rfl) rfl ?_
        refine nx (xo_alloc rfl z25) rfl ?_
        rintro _ _ ⟨g11, rfl, rfl⟩
        refine nu (xo_storeA 0 rfl a25 rfl rfl (ones_cons (by first | rfl | exact AS.one) (ones_cons (by first | rfl | exact AS.one) (ones_cons (by first | rfl | exact AS.one) ones_nil))) rfl rfl rfl rfl) ?_
        rintro _ _ ⟨rfl, rfl⟩
        refine ne (eo_as rfl rfl) rfl ?_
        refine go_nil ?_
        refine gq_next ?_
        refine gc_seq ?_
        refine gc_seq ?_
        refine gc_region ?_
        refine ne (eo_mv rfl rfl) rfl ?_
        refine ne (eo_neq rfl rfl rfl) rfl ?_
        refine go_nil ?_
        refine gq_next ?_
        refine gc_cond rfl (fun hc2 => ?_) (fun hc2 => ?_)
        ·
          replace hc2 := of_decide_eq_true hc2
          exact absurd (by rw [hrn.1, glyR_ok hkn]) hc2
        ·
          replace hc2 := of_decide_eq_false hc2
          refine gc_skip ?_
          refine gq_next ?_
          refine gc_seq ?_
          refine gc_region ?_
          refine ne (eo_mv rfl rfl) rfl ?_
          refine ne (eo_mul rfl rfl rfl (by omega) (by omega)) rfl ?_
          refine ne (eo_mv rfl rfl) rfl ?_
          refine go_nil ?_
          refine gq_next ?_
          refine gc_block ?_
          refine loop2 (fun (y : Nat) (f1 : Nat → Bool) => (y : Int) ≤ 7 * k ∧ DrwI str k (widR str k).1 (6 * (p : Int) * k) y 0 ((widR str k).1 * 7 * k).toNat f1) (fun (y : Nat) (f1 : Nat → Bool) => (7 * k - y).toNat) (fun (y : Nat) (f1 : Nat → Bool) => [(1, .int .i64 k), (4, .pointer (some ⟨g4, 0, none⟩)), (6, .int .i64 ((widR str k).1)), (8, .pointer (some ⟨g8, 0, none⟩)), (9, .int .i64 (p : Int)), (11, .pointer (some ⟨g11, 0, none⟩)), (35, .pointer (some ⟨it35, 0, none⟩)), (51, .int .i64 (7 * k)), (52, .int .i64 (y : Int))]) (fun (y : Nat) (f1 : Nat → Bool) => ⟨g11, 25, [.int .i64 ((glyR (rnI str p)).1.W), .int .i64 ((glyR (rnI str p)).1.H), .slice A43 ((glyR (rnI str p)).1.n) k43]⟩ :: ⟨g8, 25, [.int .i64 ((widR str k).1), .int .i64 (7 * k), .slice (some ⟨g32, 0, none⟩) (((((widR str k).1 * 7) * k)).toNat) (((((widR str k).1 * 7) * k)).toNat)]⟩ :: ⟨g32, 4, tab (((((widR str k).1 * 7) * k)).toNat) (bv f1) ++ []⟩ :: ⟨g4, 25, [.int .i64 0, .int .i64 0, .slice none 0 0]⟩ :: S43) 0 f1 ⟨by omega, hI⟩ ⟨rfl, rfl, rfl, rfl, rfl, rfl, rfl, rfl, rfl, trivial⟩ (List.Sublist.refl _) ?_
          rintro y f1 ⟨hy, hI⟩
          refine gc_seq ?_
          refine gc_region ?_
          refine ne (eo_lss rfl rfl rfl) rfl ?_
          refine go_nil ?_
          refine gq_next ?_
          refine gc_seq ?_
          refine gc_cond rfl (fun hc3 => ?_) (fun hc3 => ?_)
          ·
            replace hc3 := of_decide_eq_true hc3
            refine gc_skip ?_
            refine gq_next ?_
            refine gc_seq ?_
            refine gc_block ?_
            refine gc_seq ?_
            refine gc_region ?_
            refine ne (eo_mv rfl rfl) rfl ?_
            refine ne (eo_as rfl rfl) rfl ?_
            refine go_nil ?_
            refine gq_next ?_
            refine gc_seq ?_
            refine gc_region ?_
            refine ne (eo_mv rfl rfl) rfl ?_
            refine ne (eo_mul rfl rfl rfl (by omega) (by omega)) rfl ?_
            refine ne (eo_mv rfl rfl) rfl ?_
            refine go_nil ?_
            refine gq_next ?_
            refine gc_block ?_
            refine loop2 (fun (x : Nat) (f1 : Nat → Bool) => (x : Int) ≤ 5 * k ∧ DrwI str k (widR str k).1 (6 * (p : Int) * k) y x ((widR str k).1 * 7 * k).toNat f1) (fun (x : Nat) (f1 : Nat → Bool) => (5 * k - x).toNat) (fun (x : Nat) (f1 : Nat → Bool) => [(1, .int .i64 k), (4, .pointer (some ⟨g4, 0, none⟩)), (6, .int .i64 ((widR str k).1)), (8, .pointer (some ⟨g8, 0, none⟩)), (9, .int .i64 (p : Int)), (11, .pointer (some ⟨g11, 0, none⟩)), (13, .int .i64 (y : Int)), (35, .pointer (some ⟨it35, 0, none⟩)), (51, .int .i64 (7 * k)), (52, .int .i64 (y : Int)), (56, .int .i64 (5 * k)), (57, .int .i64 (x : Int))]) (fun (x : Nat) (f1 : Nat → Bool) => ⟨g11, 25, [.int .i64 ((glyR (rnI str p)).1.W), .int .i64 ((glyR (rnI str p)).1.H), .slice A43 ((glyR (rnI str p)).1.n) k43]⟩ :: ⟨g8, 25, [.int .i64 ((widR str k).1), .int .i64 (7 * k), .slice (some ⟨g32, 0, none⟩) (((((widR str k).1 * 7) * k)).toNat) (((((widR str k).1 * 7) * k)).toNat)]⟩ :: ⟨g32, 4, tab (((((widR str k).1 * 7) * k)).toNat) (bv f1) ++ []⟩ :: ⟨g4, 25, [.int .i64 0, .int .i64 0, .slice none 0 0]⟩ :: S43) 0 f1 ⟨by omega, hI⟩ ⟨rfl, rfl, rfl, rfl, rfl, rfl, rfl, rfl, rfl, rfl, rfl, rfl, trivial⟩ (List.Sublist.refl _) ?_
            rintro x f1 ⟨hx, hI⟩
            refine gc_seq ?_
            refine gc_region ?_
            refine ne (eo_lss rfl rfl rfl) rfl ?_
            refine go_nil ?_
            refine gq_next ?_
            refine gc_seq ?_
            refine gc_cond rfl (fun hc4 => ?_) (fun hc4 => ?_)
            ·
              replace hc4 := of_decide_eq_true hc4
              have hid := idx_bd (W := (widR str k).1) (H := 7 * k) (x := 6 * (p : Int) * k + (x : Int)) (y := (y : Int)) (by omega) (by omega) (by omega) (by omega)
              have dy := div_in (x := (y : Int)) (a := k) (W := 7) z3 (by omega) (by omega)
              have dx := div_in (x := (x : Int)) (a := k) (W := 5) z3 (by omega) (by omega)
              refine gc_skip ?_
              refine gq_next ?_
              refine gc_seq ?_
              refine gc_block ?_
              refine gc_seq ?_
              refine gc_region ?_
              refine ne (eo_mv rfl rfl) rfl ?_
              refine ne (eo_as rfl rfl) rfl ?_
              refine go_nil ?_
              refine gq_next ?_
              refine gc_seq ?_
              refine gc_draw [] [0, 1, 2, 3, 4, 5, 6, 7, 8, 9, 10, 11] [] [] (by kernel_rfl) (by kernel_rfl) ?_
              refine gp_nil ?_
              refine de rfl (eo_field rfl f25_2 rfl) rfl ?_
              refine de rfl (eo_load 0 rfl s23 rfl rfl rfl rfl) rfl ?_
              refine de rfl (eo_mv rfl rfl) rfl ?_
              refine de rfl (eo_mv rfl rfl) rfl ?_
              refine de rfl (eo_quo rfl rfl rfl (by omega) (by omega) (by omega)) rfl ?_
              refine de rfl (eo_mul rfl rfl rfl (by omega) (by omega)) rfl ?_
              refine de rfl (eo_mv rfl rfl) rfl ?_
              refine de rfl (eo_mv rfl rfl) rfl ?_
              refine de rfl (eo_quo rfl rfl rfl (by omega) (by omega) (by omega)) rfl ?_
              refine de rfl (eo_add rfl rfl rfl (by omega) (by omega)) rfl ?_
              refine de rfl (eo_indexS rfl sl23 rfl rfl (fun W1 hO => (hS43.rd (hO.tl 4 rfl (List.Sublist.refl _)))) (by simp) (by omega) (by omega)) rfl ?_
              refine de rfl (eo_loadS rfl s4 rfl (fun W1 hO => Rd.tabb (hS43.rd (hO.tl 4 rfl (List.Sublist.refl _))) (by omega))) rfl ?_
              refine ge_nil ?_
              refine ga_nil ?_
              refine gi_nil ?_
              refine gq_nq ?_
              refine gq_next ?_
              refine gc_cond rfl (fun hc5 => ?_) (fun hc5 => ?_)
              ·
                refine gc_region ?_
                refine ne (eo_field rfl f25_2 rfl) rfl ?_
                refine ne (eo_load 1 rfl s23 rfl rfl rfl rfl) rfl ?_
                refine ne (eo_mv rfl rfl) rfl ?_
                refine ne (eo_mv rfl rfl) rfl ?_
                refine ne (eo_mul rfl rfl rfl (by omega) (by omega)) rfl ?_
                refine ne (eo_mv rfl rfl) rfl ?_
                refine ne (eo_mul rfl rfl rfl (by omega) (by omega)) rfl ?_
                refine ne (eo_mv rfl rfl) rfl ?_
                refine ne (eo_mul rfl rfl rfl (by omega) (by omega)) rfl ?_
                refine ne (eo_add rfl rfl rfl (by omega) (by omega)) rfl ?_
                refine ne (eo_mv rfl rfl) rfl ?_
                refine ne (eo_add rfl rfl rfl (by omega) (by omega)) rfl ?_
                refine ne (eo_index0 rfl sl23 rfl rfl (by omega) (by omega)) rfl ?_
                refine nu (xo_setb 2 rfl s4 rfl rfl rfl (by omega)) ?_
                rintro _ _ ⟨rfl, rfl⟩
                refine go_nil ?_
                refine gq_block_end ?_
                refine gq_next ?_
                refine gc_region ?_
                refine ne (eo_add rfl rfl rfl (by omega) (by omega)) rfl ?_
                refine ne (eo_mv rfl rfl) rfl ?_
                refine go_nil ?_
                exact round2 (x + 1) (upd f1 ((((((y : Int) * (widR str k).1) + ((6 * (p : Int)) * k)) + (x : Int))).toNat) true) ⟨by omega, drw_set hI z3 rfl (by omega) (by omega) (by omega) (by omega) u1 (by omega) (by rw [← hgf]; exact hc5)⟩ (by omega) ⟨rfl, rfl, rfl, rfl, rfl, rfl, rfl, rfl, rfl, rfl, rfl, rfl, trivial⟩ (List.Sublist.refl _)
              ·
                refine gc_skip ?_
                refine gq_block_end ?_
                refine gq_next ?_
                refine gc_region ?_
                refine ne (eo_add rfl rfl rfl (by omega) (by omega)) rfl ?_
                refine ne (eo_mv rfl rfl) rfl ?_
                refine go_nil ?_
                exact round2 (x + 1) f1 ⟨by omega, drw_keep hI z3 rfl (by omega) (by omega) (by omega) (by omega) u1 (by rw [← hgf]; exact hc5)⟩ (by omega) ⟨rfl, rfl, rfl, rfl, rfl, rfl, rfl, rfl, rfl, rfl, rfl, rfl, trivial⟩ (List.Sublist.refl _)
            ·
              replace hc4 := of_decide_eq_false hc4
              refine gc_exit ?_
              refine gq_then_exit ?_
              refine gq_then_exit ?_
              refine gq_block_hit ?_
              refine gq_block_end ?_
              refine gq_next ?_
              refine gc_region ?_
              refine ne (eo_add rfl rfl rfl (by omega) (by omega)) rfl ?_
              refine ne (eo_mv rfl rfl) rfl ?_
              refine go_nil ?_
              exact round2 (y + 1) f1 ⟨by omega, drw_row hI (by omega)⟩ (by omega) ⟨rfl, rfl, rfl, rfl, rfl, rfl, rfl, rfl, rfl, trivial⟩ (List.Sublist.refl _)
          ·
            replace hc3 := of_decide_eq_false hc3
            refine gc_exit ?_
            refine gq_then_exit ?_
            refine gq_then_exit ?_
            refine gq_block_hit ?_
            refine gq_block_end ?_
            exact roundS2 hin36 hnn36 (fun W4 H4 k4 => (hBr0 _ _ (hBn36 _ _ k4))) (p + 1) f1 (by show p + 1 = _; rw [hrn.2]) ⟨by omega, by rw [u3]; exact drw_next hI z3 rfl u1 (by omega) y1 (by omega)⟩ (by omega) ⟨rfl, rfl, rfl, rfl, rfl, trivial⟩ (List.Sublist.cons _ (List.Sublist.cons_cons _ (List.Sublist.cons_cons _ (List.Sublist.cons_cons _ (List.nil_sublist _)))))
      ·
        first | exact absurd hc1 (by decide) | exact Bool.noConfusion hc1 | (exfalso; omega)
    ·
      refine go_nextE hir0 hnr0 rfl hps36 rfl ?_
      refine ne (eo_extract rfl rfl rfl) rfl ?_
      refine go_nil ?_
      refine gq_next ?_
      refine gc_seq ?_
      refine gc_cond rfl (fun hc1 => ?_) (fun hc1 => ?_)
      ·
        first | exact absurd hc1 (by decide) | exact Bool.noConfusion hc1 | (exfalso; omega)
      ·
        refine gc_exit ?_
        refine gq_then_exit ?_
        refine gq_then_exit ?_
        refine gq_block_hit ?_
        refine gq_next ?_
        refine gc_seq ?_
        refine gc_region ?_
        refine ne (eo_loadA 0 rfl a25 rfl rfl rfl rfl) rfl ?_
        refine nu (xo_storeA 2 rfl a25 rfl rfl (ones_cons (by first | rfl | exact AS.one) (ones_cons (by first | rfl | exact AS.one) (ones_cons (by first | rfl | exact AS.one) ones_nil))) rfl rfl rfl rfl) ?_
        rintro _ _ ⟨rfl, rfl⟩
        refine ne (eo_as rfl rfl) rfl ?_
        refine go_nil ?_
        refine gq_next ?_
        refine gc_ret ?_
        refine gq_results (resCT 2 rfl a25 rfl rfl rfl rfl rfl) ?_
        obtain rfl : p = str.size := by omega
        exact fun W1 hO9 => have hO := (hBi35 _ _ (hBr0 _ _ (Ow.more1 hO9))); rx_own 1 hO rfl (drwR_ok hc0) (drw_done hI y1 (drw_e z5 z3)) (by omega)

/-- barscan/barscanref47.Draw -/
theorem rdraw_x (str : ByteArray) (k : Int) (w : World)  (hs : str.size ≤ 16384) :
    Calls Try.prog 9 #[.string str, .int .i64 k] w (fun e w' => ∃ v Hn, e = .returned v ∧ RX (drwR str k) v Hn ∧ Ow [] w w' Hn) := by
  refine calls_enter (N := ⟨84, []⟩) [] ([]) Try.func9 rfl rfl rfl (Ow.start _) ?_
  refine gc_seq ?_
  refine gc_region ?_
  refine nx (xo_alloc rfl z25) rfl ?_
  rintro _ _ ⟨g4, rfl, rfl⟩
  refine ne (eo_as rfl rfl) rfl ?_
  refine go_nil ?_
  refine gq_next ?_
  refine gc_seq ?_
  refine gc_region ?_
  refine ne (eo_mv rfl rfl) rfl ?_
  refine ne (eo_mv rfl rfl) rfl ?_
  refine ne (eo_call rfl en11 rfl (fun W1 hO => rwidth_c _ _ W1  (by omega))) rfl ?_
  refine ne (eo_mv rfl rfl) rfl ?_
  refine ne (eo_extract rfl rfl rfl) rfl ?_
  refine ne (eo_extract rfl rfl rfl) rfl ?_
  refine ne (eo_as rfl rfl) rfl ?_
  refine ne (eo_as rfl rfl) rfl ?_
  refine go_nil ?_
  refine gq_next ?_
  refine gc_seq ?_
  refine gc_seq ?_
  refine gc_region ?_
  refine ne (eo_mv rfl rfl) rfl ?_
  refine ne (eo_neq rfl rfl rfl) rfl ?_
  refine go_nil ?_
  refine gq_next ?_
  refine gc_cond rfl (fun hc0 => ?_) (fun hc0 => ?_)
  ·
    replace hc0 := of_decide_eq_true hc0
    refine gc_seq ?_
    refine gc_region ?_
    refine ne (eo_build rfl rfl (b25_)) rfl ?_
    refine ne (eo_mv rfl rfl) rfl ?_
    refine nu (xo_storeA 0 rfl a25 rfl rfl (ones_cons (by first | rfl | exact AS.one) (ones_cons (by first | rfl | exact AS.one) (ones_cons (by first | rfl | exact AS.one) ones_nil))) rfl rfl rfl rfl) ?_
    rintro _ _ ⟨rfl, rfl⟩
    refine ne (eo_as rfl rfl) rfl ?_
    refine go_nil ?_
    refine gq_next ?_
    refine gc_ret ?_
    refine gq_then_ret ?_
    refine gq_results (resCT 0 rfl a25 rfl rfl rfl rfl rfl) ?_
    exact fun W1 hO => rx_nil hO (drwR_no hc0)
  ·
    replace hc0 := of_decide_eq_false hc0
    obtain ⟨z1, z2, z3, z4, z5, z6⟩ := widR_zero hc0
    obtain ⟨y1, y2, y3, y4, y5, y6⟩ := wid_sz hc0
    have hN : (widR str k).1 * (7 * k) = (widR str k).1 * 7 * k := by rw [Int.mul_assoc]
    refine gc_skip ?_
    refine gq_next ?_
    refine gc_seq ?_
    refine gc_region ?_
    refine ne (eo_mv rfl rfl) rfl ?_
    refine ne (eo_mv rfl rfl) rfl ?_
    refine ne (eo_mul rfl rfl rfl (by omega) (by omega)) rfl ?_
    refine ne (eo_mv rfl rfl) rfl ?_
    refine ne (eo_mul rfl rfl rfl (by omega) (by omega)) rfl ?_
    refine ne (eo_mv rfl rfl) rfl ?_
    refine ne (eo_mul rfl rfl rfl (by omega) (by omega)) rfl ?_
    refine nx (xo_makeb rfl Try.underlying23 e4 rfl rfl (by omega) (by omega) (by omega)) rfl ?_
    rintro _ _ ⟨g31, rfl, rfl⟩
    refine ne (eo_build rfl rfl (b25_012 _ _ _ _ _)) rfl ?_
    refine nx (xo_alloc rfl z25) rfl ?_
    rintro _ _ ⟨g8, rfl, rfl⟩
    refine nu (xo_storeA 0 rfl a25 rfl rfl (ones_cons (by first | rfl | exact AS.one) (ones_cons (by first | rfl | exact AS.one) (ones_cons (by first | rfl | exact AS.one) ones_nil))) rfl rfl rfl rfl) ?_
    rintro _ _ ⟨rfl, rfl⟩
    refine go_nil ?_
    refine gq_next ?_
    refine gc_seq ?_
    refine gc_seq ?_
    refine gc_region ?_
    refine ne (eo_as rfl rfl) rfl ?_
    refine go_nil ?_
    refine gq_next ?_
    refine gc_block ?_
    refine loop2 (fun (p : Nat) (f1 : Nat → Bool) => p ≤ str.size ∧ DrwI str k (widR str k).1 (6 * (p : Int) * k) 0 0 ((widR str k).1 * 7 * k).toNat f1) (fun (p : Nat) (f1 : Nat → Bool) => str.size - p) (fun (p : Nat) (f1 : Nat → Bool) => [(0, .string str), (1, .int .i64 k), (4, .pointer (some ⟨g4, 0, none⟩)), (6, .int .i64 ((widR str k).1)), (8, .pointer (some ⟨g8, 0, none⟩)), (9, .int .i64 (p : Int))]) (fun (p : Nat) (f1 : Nat → Bool) => [⟨g8, 25, [.int .i64 ((widR str k).1), .int .i64 (7 * k), .slice (some ⟨g31, 0, none⟩) (((((widR str k).1 * 7) * k)).toNat) (((((widR str k).1 * 7) * k)).toNat)]⟩, ⟨g31, 4, tab (((((widR str k).1 * 7) * k)).toNat) (bv f1) ++ []⟩, ⟨g4, 25, [.int .i64 0, .int .i64 0, .slice none 0 0]⟩]) 0 (fun _ => false) ⟨by omega, by rw [show 6 * ((0 : Nat) : Int) * k = 0 by simp]; exact drw_new y1⟩ ⟨rfl, rfl, rfl, rfl, rfl, rfl, trivial⟩ (List.Sublist.refl _) ?_
    rintro p f1 ⟨hp, hI⟩
    refine gc_seq ?_
    refine gc_seq ?_
    refine gc_region ?_
    refine ne (eo_mv rfl rfl) rfl ?_
    refine ne (eo_mv rfl rfl) rfl ?_
    refine ne (eo_lenS rfl Try.underlying9 rfl) rfl ?_
    refine ne (eo_lss rfl rfl rfl) rfl ?_
    refine go_nil ?_
    refine gq_next ?_
    refine gc_cond rfl (fun hc1 => ?_) (fun hc1 => ?_)
    ·
      replace hc1 := of_decide_eq_true hc1
      have hbb := byI_bd (s := str) (i := p)
      have hbb2 := byI_bd (s := str) (i := (p : Int).toNat)
      have hkn : knownB (byI str p) = true := allK_iff.1 z2 p (by omega)
      have hku := known_u8 hkn
      obtain ⟨u1, u2, u3⟩ := drw_u (p := p) z5 (by omega) z3
      have hgn : (glyR (byI str p)).1.n = 35 := by rw [glyR_ok hkn]
      have hgf : ∀ j, (glyR (byI str p)).1.f j = gpx (byI str p) j := fun j => by rw [glyR_ok hkn]
      have hgn2 : (glyR (byI str (p : Int).toNat)).1.n = 35 := hgn
      refine gc_skip ?_
      refine gq_next ?_
      refine gc_seq ?_
      refine gc_block ?_
      refine gc_seq ?_
      refine gc_region ?_
      refine ne (eo_mv rfl rfl) rfl ?_
      refine ne (eo_mv rfl rfl) rfl ?_
      refine ne (eo_strAt rfl Try.underlying9 rfl rfl (by omega) (by omega)) rfl ?_
      refine nx (xo_freshT rfl en14 rfl (fun W1 hO => rglyph_x _ W1  (by omega) (by omega))) rfl ?_
      rintro _ _ ⟨S43, ⟨A43, k43, rfl, hk43, hS43⟩, rfl⟩
      refine ne (eo_mv rfl rfl) rfl ?_
      refine ne (eo_extract rfl rfl rfl) rfl ?_
      refine ne (eo_extract rfl rfl rfl) rfl ?_
      refine nx (xo_alloc rfl z25) rfl ?_
      rintro _ _ ⟨g10, rfl, rfl⟩
      refine nu (xo_storeA 0 rfl a25 rfl rfl (ones_cons (by first | rfl | exact AS.one) (ones_cons (by first | rfl | exact AS.one) (ones_cons (by first | rfl | exact AS.one) ones_nil))) rfl rfl rfl rfl) ?_
      rintro _ _ ⟨rfl, rfl⟩
      refine ne (eo_as rfl rfl) rfl ?_
      refine go_nil ?_
      refine gq_next ?_
      refine gc_seq ?_
      refine gc_region ?_
      refine ne (eo_as rfl rfl) rfl ?_
      refine go_nil ?_
      refine gq_next ?_
      refine gc_block ?_
      refine loop2 (fun (y : Nat) (f1 : Nat → Bool) => (y : Int) ≤ 7 * k ∧ DrwI str k (widR str k).1 (6 * (p : Int) * k) y 0 ((widR str k).1 * 7 * k).toNat f1) (fun (y : Nat) (f1 : Nat → Bool) => (7 * k - y).toNat) (fun (y : Nat) (f1 : Nat → Bool) => [(0, .string str), (1, .int .i64 k), (4, .pointer (some ⟨g4, 0, none⟩)), (6, .int .i64 ((widR str k).1)), (8, .pointer (some ⟨g8, 0, none⟩)), (9, .int .i64 (p : Int)), (10, .pointer (some ⟨g10, 0, none⟩)), (12, .int .i64 (y : Int))]) (fun (y : Nat) (f1 : Nat → Bool) => ⟨g10, 25, [.int .i64 ((glyR (byI str p)).1.W), .int .i64 ((glyR (byI str p)).1.H), .slice A43 ((glyR (byI str p)).1.n) k43]⟩ :: ⟨g8, 25, [.int .i64 ((widR str k).1), .int .i64 (7 * k), .slice (some ⟨g31, 0, none⟩) (((((widR str k).1 * 7) * k)).toNat) (((((widR str k).1 * 7) * k)).toNat)]⟩ :: ⟨g31, 4, tab (((((widR str k).1 * 7) * k)).toNat) (bv f1) ++ []⟩ :: ⟨g4, 25, [.int .i64 0, .int .i64 0, .slice none 0 0]⟩ :: S43) 0 f1 ⟨by omega, hI⟩ ⟨rfl, rfl, rfl, rfl, rfl, rfl, rfl, rfl, trivial⟩ (List.Sublist.refl _) ?_
      rintro y f1 ⟨hy, hI⟩
      refine gc_seq ?_
      refine gc_seq ?_
      refine gc_region ?_
      refine ne (eo_mv rfl rfl) rfl ?_
      refine ne (eo_mv rfl rfl) rfl ?_
      refine ne (eo_mul rfl rfl rfl (by omega) (by omega)) rfl ?_
      refine ne (eo_lss rfl rfl rfl) rfl ?_
      refine go_nil ?_
      refine gq_next ?_
      refine gc_cond rfl (fun hc2 => ?_) (fun hc2 => ?_)
      ·
        replace hc2 := of_decide_eq_true hc2
        refine gc_skip ?_
        refine gq_next ?_
        refine gc_seq ?_
        refine gc_block ?_
        refine gc_seq ?_
        refine gc_region ?_
        refine ne (eo_as rfl rfl) rfl ?_
        refine go_nil ?_
        refine gq_next ?_
        refine gc_block ?_
        refine loop2 (fun (x : Nat) (f1 : Nat → Bool) => (x : Int) ≤ 5 * k ∧ DrwI str k (widR str k).1 (6 * (p : Int) * k) y x ((widR str k).1 * 7 * k).toNat f1) (fun (x : Nat) (f1 : Nat → Bool) => (5 * k - x).toNat) (fun (x : Nat) (f1 : Nat → Bool) => [(0, .string str), (1, .int .i64 k), (4, .pointer (some ⟨g4, 0, none⟩)), (6, .int .i64 ((widR str k).1)), (8, .pointer (some ⟨g8, 0, none⟩)), (9, .int .i64 (p : Int)), (10, .pointer (some ⟨g10, 0, none⟩)), (12, .int .i64 (y : Int)), (13, .int .i64 (x : Int))]) (fun (x : Nat) (f1 : Nat → Bool) => ⟨g10, 25, [.int .i64 ((glyR (byI str p)).1.W), .int .i64 ((glyR (byI str p)).1.H), .slice A43 ((glyR (byI str p)).1.n) k43]⟩ :: ⟨g8, 25, [.int .i64 ((widR str k).1), .int .i64 (7 * k), .slice (some ⟨g31, 0, none⟩) (((((widR str k).1 * 7) * k)).toNat) (((((widR str k).1 * 7) * k)).toNat)]⟩ :: ⟨g31, 4, tab (((((widR str k).1 * 7) * k)).toNat) (bv f1) ++ []⟩ :: ⟨g4, 25, [.int .i64 0, .int .i64 0, .slice none 0 0]⟩ :: S43) 0 f1 ⟨by omega, hI⟩ ⟨rfl, rfl, rfl, rfl, rfl, rfl, rfl, rfl, rfl, trivial⟩ (List.Sublist.refl _) ?_
        rintro x f1 ⟨hx, hI⟩
        refine gc_seq ?_
        refine gc_seq ?_
        refine gc_region ?_
        refine ne (eo_mv rfl rfl) rfl ?_
        refine ne (eo_mv rfl rfl) rfl ?_
        refine ne (eo_mul rfl rfl rfl (by omega) (by omega)) rfl ?_
        refine ne (eo_lss rfl rfl rfl) rfl ?_
        refine go_nil ?_
        refine gq_next ?_
        refine gc_cond rfl (fun hc3 => ?_) (fun hc3 => ?_)
        ·
          replace hc3 := of_decide_eq_true hc3
          have hid := idx_bd (W := (widR str k).1) (H := 7 * k) (x := 6 * (p : Int) * k + (x : Int)) (y := (y : Int)) (by omega) (by omega) (by omega) (by omega)
          have dy := div_in (x := (y : Int)) (a := k) (W := 7) z3 (by omega) (by omega)
          have dx := div_in (x := (x : Int)) (a := k) (W := 5) z3 (by omega) (by omega)
          refine gc_skip ?_
          refine gq_next ?_
          refine gc_seq ?_
          refine gc_block ?_
          refine gc_draw [] [0, 1, 2, 3, 4, 5, 6, 7, 8, 9, 10, 11, 12, 13, 14, 15, 16, 17, 18, 19, 20, 21, 22, 23, 24] [] [25] (by kernel_rfl) (by kernel_rfl) ?_
          refine gp_nil ?_
          refine de rfl (eo_field rfl f25_2 rfl) rfl ?_
          refine de rfl (eo_load 1 rfl s23 rfl rfl rfl rfl) rfl ?_
          refine de rfl (eo_mv rfl rfl) rfl ?_
          refine de rfl (eo_mv rfl rfl) rfl ?_
          refine de rfl (eo_mul rfl rfl rfl (by omega) (by omega)) rfl ?_
          refine de rfl (eo_mv rfl rfl) rfl ?_
          refine de rfl (eo_mul rfl rfl rfl (by omega) (by omega)) rfl ?_
          refine de rfl (eo_mv rfl rfl) rfl ?_
          refine de rfl (eo_mul rfl rfl rfl (by omega) (by omega)) rfl ?_
          refine de rfl (eo_add rfl rfl rfl (by omega) (by omega)) rfl ?_
          refine de rfl (eo_mv rfl rfl) rfl ?_
          refine de rfl (eo_add rfl rfl rfl (by omega) (by omega)) rfl ?_
          refine de rfl (eo_field rfl f25_2 rfl) rfl ?_
          refine de rfl (eo_load 0 rfl s23 rfl rfl rfl rfl) rfl ?_
          refine de rfl (eo_mv rfl rfl) rfl ?_
          refine de rfl (eo_mv rfl rfl) rfl ?_
          refine de rfl (eo_quo rfl rfl rfl (by omega) (by omega) (by omega)) rfl ?_
          refine de rfl (eo_mul rfl rfl rfl (by omega) (by omega)) rfl ?_
          refine de rfl (eo_mv rfl rfl) rfl ?_
          refine de rfl (eo_mv rfl rfl) rfl ?_
          refine de rfl (eo_quo rfl rfl rfl (by omega) (by omega) (by omega)) rfl ?_
          refine de rfl (eo_add rfl rfl rfl (by omega) (by omega)) rfl ?_
          refine de rfl (eo_indexS rfl sl23 rfl rfl (fun W1 hO => (hS43.rd (hO.tl 4 rfl (List.Sublist.refl _)))) (by simp) (by omega) (by omega)) rfl ?_
          refine de rfl (eo_loadS rfl s4 rfl (fun W1 hO => Rd.tabb (hS43.rd (hO.tl 4 rfl (List.Sublist.refl _))) (by omega))) rfl ?_
          refine de rfl (eo_index0 rfl sl23 rfl rfl (by omega) (by omega)) rfl ?_
          refine ge_nil ?_
          refine ga_nil ?_
          refine iu rfl (xo_setb 2 rfl s4 rfl rfl rfl (by omega)) ?_
          rintro _ _ ⟨rfl, rfl⟩
          refine gi_nil ?_
          refine gq_nq ?_
          refine gq_block_end ?_
          refine gq_next ?_
          refine gc_region ?_
          refine ne (eo_mv rfl rfl) rfl ?_
          refine ne (eo_add rfl rfl rfl (by omega) (by omega)) rfl ?_
          refine ne (eo_as rfl rfl) rfl ?_
          refine go_nil ?_
          exact round2 (x + 1) (upd f1 ((((((y : Int) * (widR str k).1) + ((6 * (p : Int)) * k)) + (x : Int))).toNat) (((glyR (byI str p)).1.f) ((((((y : Int) / k) * 5) + ((x : Int) / k))).toNat))) ⟨by omega, drw_set hI z3 rfl (by omega) (by omega) (by omega) (by omega) u1 (by omega) (by rw [← hgf])⟩ (by omega) ⟨rfl, rfl, rfl, rfl, rfl, rfl, rfl, rfl, rfl, trivial⟩ (List.Sublist.refl _)
        ·
          replace hc3 := of_decide_eq_false hc3
          refine gc_exit ?_
          refine gq_then_exit ?_
          refine gq_then_exit ?_
          refine gq_block_hit ?_
          refine gq_block_end ?_
          refine gq_next ?_
          refine gc_region ?_
          refine ne (eo_mv rfl rfl) rfl ?_
          refine ne (eo_add rfl rfl rfl (by omega) (by omega)) rfl ?_
          refine ne (eo_as rfl rfl) rfl ?_
          refine go_nil ?_
          exact round2 (y + 1) f1 ⟨by omega, drw_row hI (by omega)⟩ (by omega) ⟨rfl, rfl, rfl, rfl, rfl, rfl, rfl, rfl, trivial⟩ (List.Sublist.refl _)
      ·
        replace hc2 := of_decide_eq_false hc2
        refine gc_exit ?_
        refine gq_then_exit ?_
        refine gq_then_exit ?_
        refine gq_block_hit ?_
        refine gq_block_end ?_
        refine gq_next ?_
        refine gc_region ?_
        refine ne (eo_mv rfl rfl) rfl ?_
        refine ne (eo_add rfl rfl rfl (by omega) (by omega)) rfl ?_
        refine ne (eo_as rfl rfl) rfl ?_
        refine go_nil ?_
        exact round2 (p + 1) f1 ⟨by omega, by rw [u3]; exact drw_next hI z3 rfl u1 (by omega) y1 (by omega)⟩ (by omega) ⟨rfl, rfl, rfl, rfl, rfl, rfl, trivial⟩ (List.Sublist.cons _ (List.Sublist.cons_cons _ (List.Sublist.cons_cons _ (List.Sublist.cons_cons _ (List.nil_sublist _)))))
    ·
      replace hc1 := of_decide_eq_false hc1
      refine gc_exit ?_
      refine gq_then_exit ?_
      refine gq_then_exit ?_
      refine gq_block_hit ?_
      refine gq_next ?_
      refine gc_seq ?_
      refine gc_region ?_
      refine ne (eo_loadA 0 rfl a25 rfl rfl rfl rfl) rfl ?_
      refine nu (xo_storeA 2 rfl a25 rfl rfl (ones_cons (by first | rfl | exact AS.one) (ones_cons (by first | rfl | exact AS.one) (ones_cons (by first | rfl | exact AS.one) ones_nil))) rfl rfl rfl rfl) ?_
      rintro _ _ ⟨rfl, rfl⟩
      refine ne (eo_as rfl rfl) rfl ?_
      refine go_nil ?_
      refine gq_next ?_
      refine gc_ret ?_
      refine gq_results (resCT 2 rfl a25 rfl rfl rfl rfl rfl) ?_
      obtain rfl : p = str.size := by omega
      exact fun W1 hO => rx_own 1 hO rfl (drwR_ok hc0) (drw_done hI y1 (drw_e z5 z3)) (by omega)

end Go.Proofs.Ytjndoanhkfdngaa
