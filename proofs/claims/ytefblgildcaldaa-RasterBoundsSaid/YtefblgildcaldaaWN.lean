/-
  The walks of the functions of package raster and of the document's answer (part N): what each call returns, at every argument.
-/
import Derived.Test.YtefblgildcaldaaWH
import Derived.Test.YtefblgildcaldaaEt
namespace Go.Proofs.Ytefblgildcaldaa
open Go.RowKit Go.Eng

open Go.Bs
theorem lit40_1 {x0 x1 : Int} (W : World) : (Instr.buildSlice 40 1 #[(0, .agg #[.int .i64 x0, .int .i64 x1])]).run Try.prog W = .ok (.slice (some ⟨W.heap.size, 0, none⟩) 1 1) (W.alloc (.cells #[.int .i64 x0, .int .i64 x1] 43)) := by kernel_rfl
theorem en_43 : TyEN Try.prog 43 (.agg #[.int .i64 0, .int .i64 0]) 2 16 := ⟨rfl, by omega, by kernel_rfl⟩
theorem en20 : Ent Try.prog 20 := ent_of Try.func20 (by kernel_rfl) rfl
theorem sl40 : TySl Try.prog 40 43 2 := ⟨Try.underlying40, by kernel_rfl⟩

/-- barscan/barscanref31.Dots -/
theorem dots_x (W H : Int) (A : Option Addr) (n c : Nat) (f : Nat → Bool) (w : World) (hr : Rd w A (tab n (bv f)))  :
    Calls Try.prog 20 #[.agg #[.int .i64 W, .int .i64 H, .slice A n c]] w (fun e w' => ∃ v Hn, e = .returned v ∧ RLN 2 (dotsV W H n f).length (ptG (dotsV W H n f)) v Hn ∧ Ow [] w w' Hn) := by
  refine calls_enter (N := ⟨34, []⟩) [] ([]) Try.func20 rfl rfl rfl (Ow.start _) ?_
  refine gc_seq ?_
  refine gc_region ?_
  refine nx (xo_boxA rfl rfl) rfl ?_
  rintro _ _ ⟨g1, rfl, rfl⟩
  refine ne (eo_as rfl rfl) rfl ?_
  refine go_nil ?_
  refine gq_next ?_
  refine gc_seq ?_
  refine gc_region ?_
  refine ne (eo_as rfl rfl) rfl ?_
  refine go_nil ?_
  refine gq_next ?_
  refine gc_seq ?_
  refine gc_seq ?_
  refine gc_region ?_
  refine ne (eo_loadA 0 rfl a24 rfl rfl rfl rfl) rfl ?_
  refine ne (eo_call rfl en36 rfl (fun W1 hO => valid_c _ _ _ _ _ W1  )) rfl ?_
  refine ne (eo_not rfl rfl) rfl ?_
  refine go_nil ?_
  refine gq_next ?_
  refine gc_cond rfl (fun hc0 => ?_) (fun hc0 => ?_)
  ·
    have hd0 := (not_t hc0)
    have hv := not_t hc0
    refine gc_seq ?_
    refine gc_region ?_
    refine ne (eo_mv rfl rfl) rfl ?_
    refine ne (eo_as rfl rfl) rfl ?_
    refine go_nil ?_
    refine gq_next ?_
    refine gc_ret ?_
    refine gq_then_ret ?_
    refine gq_results (res1 rfl rfl) ?_
    rw [show dotsV W H n f = [] from if_neg (by rw [hv]; decide)]
    exact fun W1 hO => rln_nil hO
  ·
    have hd0 := (not_f hc0)
    have hv := not_f hc0
    obtain ⟨v1, v2, v3, v4, v5, v6⟩ := vldB_iff.1 hv
    have v7 := vld_pos hv
    refine gc_skip ?_
    refine gq_next ?_
    refine gc_seq ?_
    refine gc_seq ?_
    refine gc_region ?_
    refine ne (eo_as rfl rfl) rfl ?_
    refine go_nil ?_
    refine gq_next ?_
    refine gc_block ?_
    refine loop3 (fun (i : Nat) (k : Nat) (s : AS) => i ≤ n ∧ k = (dotsL W f i).length ∧ s.Ok 2 k (tab (k * 2) (iv .i64 (ptG (dotsL W f n))))) (fun (i : Nat) (k : Nat) (s : AS) => n - i) (fun (i : Nat) (k : Nat) (s : AS) => [(1, .pointer (some ⟨g1, 0, none⟩)), (3, s.val k), (4, .int .i64 (i : Int))]) (fun (i : Nat) (k : Nat) (s : AS) => ⟨g1, 24, [.int .i64 W, .int .i64 H, .slice A n c]⟩ :: s.blks 43 (tab (k * 2) (iv .i64 (ptG (dotsL W f n))))) 0 0 .nil ⟨by omega, rfl, AS.OkN⟩ ⟨rfl, rfl, rfl, trivial⟩ (List.Sublist.refl _) ?_
    rintro i k s ⟨hi, hk, hs⟩
    refine gc_seq ?_
    refine gc_seq ?_
    refine gc_region ?_
    refine ne (eo_mv rfl rfl) rfl ?_
    refine ne (eo_field rfl f24_2 rfl) rfl ?_
    refine ne (eo_load 0 rfl s22 rfl rfl rfl rfl) rfl ?_
    refine ne (eo_len rfl Try.underlying22 rfl) rfl ?_
    refine ne (eo_lss rfl rfl rfl) rfl ?_
    refine go_nil ?_
    refine gq_next ?_
    refine gc_cond rfl (fun hc1 => ?_) (fun hc1 => ?_)
    ·
      replace hc1 := of_decide_eq_true hc1
      have hcb := cell_bd hv (show i < n by omega)
      have hdl := dotsL_len W f i
      refine gc_skip ?_
      refine gq_next ?_
      refine gc_seq ?_
      refine gc_block ?_
      refine gc_seq ?_
      refine gc_region ?_
      refine ne (eo_field rfl f24_2 rfl) rfl ?_
      refine ne (eo_load 0 rfl s22 rfl rfl rfl rfl) rfl ?_
      refine ne (eo_mv rfl rfl) rfl ?_
      refine ne (eo_indexR rfl sl22 rfl rfl hr (by simp) (by omega) (by omega)) rfl ?_
      refine ne (eo_load_old rfl s4 rfl (Rd.tabb hr (by omega)) (by simp)) rfl ?_
      refine go_nil ?_
      refine gq_next ?_
      refine gc_cond rfl (fun hc2 => ?_) (fun hc2 => ?_)
      ·
        refine gc_draw [] [0, 1, 2, 3, 4, 5, 6, 7, 8, 9] [10] [11, 12] (by kernel_rfl) (by kernel_rfl) ?_
        refine gp_nil ?_
        refine de rfl (eo_mv rfl rfl) rfl ?_
        refine de rfl (eo_mv rfl rfl) rfl ?_
        refine de rfl (eo_field rfl f24_0 rfl) rfl ?_
        refine de rfl (eo_load 0 rfl s3 rfl rfl rfl rfl) rfl ?_
        refine de rfl (eo_rem rfl rfl rfl (by omega) (by omega)) rfl ?_
        refine de rfl (eo_mv rfl rfl) rfl ?_
        refine de rfl (eo_field rfl f24_0 rfl) rfl ?_
        refine de rfl (eo_load 0 rfl s3 rfl rfl rfl rfl) rfl ?_
        refine de rfl (eo_quo rfl rfl rfl (by omega) (by omega) (by omega)) rfl ?_
        refine de rfl (eo_build rfl rfl (b43_01 _ _)) rfl ?_
        refine ge_nil ?_
        refine da rfl (xo_lit rfl rfl lit40_1) rfl ?_
        rintro _ _ ⟨g31, rfl, rfl⟩
        refine ⟨by first | exact (List.Sublist.cons _ (List.Sublist.refl _)) | exact (List.sublist_append_left _ _), ?_⟩
        refine ga_nil ?_
        refine ix rfl (xo_appN [((i : Int) % W), ((i : Int) / W)] 2 rfl rfl Try.underlying40 en_43 rfl hs rfl rfl rfl (by rw [hk]; exact dots_new (by omega) hc2) (by omega) (by decide)) rfl ?_
        rintro _ _ ⟨s32, hs32, rfl, rfl⟩
        refine ie rfl (eo_as rfl rfl) rfl ?_
        refine gi_nil ?_
        refine gq_nq ?_
        refine gq_block_end ?_
        refine gq_next ?_
        refine gc_region ?_
        refine ne (eo_mv rfl rfl) rfl ?_
        refine ne (eo_add rfl rfl rfl (by omega) (by omega)) rfl ?_
        refine ne (eo_as rfl rfl) rfl ?_
        refine go_nil ?_
        exact round3 (i + 1) (k + 1) s32 ⟨by omega, by rw [dotsL_yes (k := i) hc2]; simp [hk], hs32⟩ (by omega) ⟨rfl, rfl, rfl, trivial⟩ (List.Sublist.cons _ (List.Sublist.refl _))
      ·
        refine gc_skip ?_
        refine gq_block_end ?_
        refine gq_next ?_
        refine gc_region ?_
        refine ne (eo_mv rfl rfl) rfl ?_
        refine ne (eo_add rfl rfl rfl (by omega) (by omega)) rfl ?_
        refine ne (eo_as rfl rfl) rfl ?_
        refine go_nil ?_
        exact round3 (i + 1) k s ⟨by omega, by rw [dotsL_no (k := i) hc2]; exact hk, hs⟩ (by omega) ⟨rfl, rfl, rfl, trivial⟩ (List.Sublist.refl _)
    ·
      replace hc1 := of_decide_eq_false hc1
      refine gc_exit ?_
      refine gq_then_exit ?_
      refine gq_then_exit ?_
      refine gq_block_hit ?_
      refine gq_next ?_
      refine gc_seq ?_
      refine gc_region ?_
      refine ne (eo_mv rfl rfl) rfl ?_
      refine ne (eo_as rfl rfl) rfl ?_
      refine go_nil ?_
      refine gq_next ?_
      refine gc_ret ?_
      refine gq_results (res1 rfl rfl) ?_
      have hin : i = n := by omega
      subst hin
      exact fun W1 hO => rln_as 1 hO rfl hs (by rw [hk]; unfold dotsV; rw [if_pos hv]) (fun j _ => by unfold dotsV; rw [if_pos hv])

/-- barscan/barscanref31.Bounds -/
theorem rbounds_c (W H : Int) (A : Option Addr) (n c : Nat) (f : Nat → Bool) (w : World) (hr : Rd w A (tab n (bv f)))  :
    Calls Try.prog 18 #[.agg #[.int .i64 W, .int .i64 H, .slice A n c]] w (fun e w' => e = .returned (boxOf (dotsV W H n f)) ∧ Ext w w') := by
  refine calls_enter (N := ⟨66, []⟩) [] ([]) Try.func18 rfl rfl rfl (Ow.start _) ?_
  refine gc_seq ?_
  refine gc_region ?_
  refine nx (xo_boxA rfl rfl) rfl ?_
  rintro _ _ ⟨g1, rfl, rfl⟩
  refine nx (xo_alloc rfl z26) rfl ?_
  rintro _ _ ⟨g2, rfl, rfl⟩
  refine ne (eo_as rfl rfl) rfl ?_
  refine go_nil ?_
  refine gq_next ?_
  refine gc_seq ?_
  refine gc_region ?_
  refine ne (eo_loadA 1 rfl a24 rfl rfl rfl rfl) rfl ?_
  refine nx (xo_freshT rfl en20 rfl (fun W1 hO => dots_x _ _ _ _ _ _ W1 (hr.old0 hO))) rfl ?_
  rintro _ _ ⟨S11, ⟨A11, k11, rfl, hk11, hS11⟩, rfl⟩
  refine ne (eo_as rfl rfl) rfl ?_
  refine go_nil ?_
  refine gq_next ?_
  refine gc_seq ?_
  refine gc_seq ?_
  refine gc_region ?_
  refine ne (eo_mv rfl rfl) rfl ?_
  refine ne (eo_len rfl Try.underlying40 rfl) rfl ?_
  refine ne (eo_eql rfl rfl rfl) rfl ?_
  refine go_nil ?_
  refine gq_next ?_
  refine gc_cond rfl (fun hc0 => ?_) (fun hc0 => ?_)
  ·
    replace hc0 := of_decide_eq_true hc0
    have hdl := dotsV_le (W := W) (H := H) (n := n) (f := f)
    refine gc_seq ?_
    refine gc_region ?_
    refine ne (eo_build rfl rfl (b26_)) rfl ?_
    refine nu (xo_storeA 0 rfl a26 rfl rfl (ones_cons (by first | rfl | exact AS.one) (ones_cons (by first | rfl | exact AS.one) (ones_cons (by first | rfl | exact AS.one) (ones_cons (by first | rfl | exact AS.one) ones_nil)))) rfl rfl rfl rfl) ?_
    rintro _ _ ⟨rfl, rfl⟩
    refine ne (eo_as rfl rfl) rfl ?_
    refine go_nil ?_
    refine gq_next ?_
    refine gc_ret ?_
    refine gq_then_ret ?_
    refine gq_results (resCT 0 rfl a26 rfl rfl rfl rfl rfl) ?_
    exact fun W1 hO => ⟨ret_nobox (by omega), hO.toExt⟩
  ·
    replace hc0 := of_decide_eq_false hc0
    have hlen : 0 < (dotsV W H n f).length := by omega
    have m0 := dotsV_in (getD_mem hlen)
    have ml := dotsV_in (getD_mem (show (dotsV W H n f).length - 1 < (dotsV W H n f).length by omega))
    have hdl := dotsV_le (W := W) (H := H) (n := n) (f := f)
    have e0 : ptG (dotsV W H n f) ((0 : Int).toNat * 2 + 0) = ((dotsV W H n f).getD 0 (0, 0)).1 := ptG_x
    have e0y : ptG (dotsV W H n f) ((0 : Int).toNat * 2 + 1) = ((dotsV W H n f).getD 0 (0, 0)).2 := ptG_y
    refine gc_skip ?_
    refine gq_next ?_
    refine gc_seq ?_
    refine gc_region ?_
    refine ne (eo_mv rfl rfl) rfl ?_
    refine ne (eo_indexNS rfl sl40 rfl rfl (fun W1 hO => (hS11.rd (hO.tl 2 rfl (List.Sublist.refl _)))) (by omega) (by omega) (by omega)) rfl ?_
    refine ne (eo_field rfl f43_0 rfl) rfl ?_
    refine ne (eo_loadNS rfl s3 rfl (fun W1 hO => (hS11.rd (hO.tl 2 rfl (List.Sublist.refl _)))) (by omega)) rfl ?_
    refine ne (eo_as rfl rfl) rfl ?_
    refine go_nil ?_
    refine gq_next ?_
    refine gc_seq ?_
    refine gc_region ?_
    refine ne (eo_mv rfl rfl) rfl ?_
    refine ne (eo_indexNS rfl sl40 rfl rfl (fun W1 hO => (hS11.rd (hO.tl 2 rfl (List.Sublist.refl _)))) (by omega) (by omega) (by omega)) rfl ?_
    refine ne (eo_field rfl f43_0 rfl) rfl ?_
    refine ne (eo_loadNS rfl s3 rfl (fun W1 hO => (hS11.rd (hO.tl 2 rfl (List.Sublist.refl _)))) (by omega)) rfl ?_
    refine ne (eo_as rfl rfl) rfl ?_
    refine go_nil ?_
    refine gq_next ?_
    refine gc_seq ?_
    refine gc_seq ?_
    refine gc_region ?_
    refine ne (eo_as rfl rfl) rfl ?_
    refine go_nil ?_
    refine gq_next ?_
    refine gc_block ?_
    refine loop3 (fun (i : Nat) (le : Int) (ri : Int) => i ≤ (dotsV W H n f).length ∧ le = minG (dotsV W H n f) i ∧ ri = maxG (dotsV W H n f) i) (fun (i : Nat) (le : Int) (ri : Int) => (dotsV W H n f).length - i) (fun (i : Nat) (le : Int) (ri : Int) => [(2, .pointer (some ⟨g2, 0, none⟩)), (4, .slice A11 ((dotsV W H n f).length) k11), (5, .int .i64 le), (6, .int .i64 ri), (7, .int .i64 (i : Int))]) (fun (i : Nat) (le : Int) (ri : Int) => ⟨g2, 26, [.int .i64 0, .int .i64 0, .int .i64 0, .int .i64 0]⟩ :: ⟨g1, 24, [.int .i64 W, .int .i64 H, .slice A n c]⟩ :: S11) 0 ((ptG (dotsV W H n f)) (0 * 2 + 0)) ((ptG (dotsV W H n f)) (0 * 2 + 0)) ⟨by omega, by rw [minG_0 (by omega)]; exact e0, by rw [maxG_0 (by omega)]; exact e0⟩ ⟨rfl, rfl, rfl, rfl, rfl, trivial⟩ (List.Sublist.refl _) ?_
    rintro i le ri ⟨hi, hle, hri⟩
    refine gc_seq ?_
    refine gc_seq ?_
    refine gc_region ?_
    refine ne (eo_mv rfl rfl) rfl ?_
    refine ne (eo_mv rfl rfl) rfl ?_
    refine ne (eo_len rfl Try.underlying40 rfl) rfl ?_
    refine ne (eo_lss rfl rfl rfl) rfl ?_
    refine go_nil ?_
    refine gq_next ?_
    refine gc_cond rfl (fun hc1 => ?_) (fun hc1 => ?_)
    ·
      replace hc1 := of_decide_eq_true hc1
      have ei : ptG (dotsV W H n f) (i * 2 + 0) = ((dotsV W H n f).getD i (0, 0)).1 := ptG_x
      refine gc_skip ?_
      refine gq_next ?_
      refine gc_seq ?_
      refine gc_block ?_
      refine gc_seq ?_
      refine gc_region ?_
      refine ne (eo_mv rfl rfl) rfl ?_
      refine ne (eo_mv rfl rfl) rfl ?_
      refine ne (eo_mv rfl rfl) rfl ?_
      refine ne (eo_indexNS rfl sl40 rfl rfl (fun W1 hO => (hS11.rd (hO.tl 2 rfl (List.Sublist.refl _)))) (by omega) (by omega) (by omega)) rfl ?_
      refine ne (eo_field rfl f43_0 rfl) rfl ?_
      refine ne (eo_loadNS rfl s3 rfl (fun W1 hO => (hS11.rd (hO.tl 2 rfl (List.Sublist.refl _)))) (by omega)) rfl ?_
      refine ne (eo_min rfl rfl rfl) rfl ?_
      refine ne (eo_as rfl rfl) rfl ?_
      refine go_nil ?_
      refine gq_next ?_
      refine gc_region ?_
      refine ne (eo_mv rfl rfl) rfl ?_
      refine ne (eo_mv rfl rfl) rfl ?_
      refine ne (eo_mv rfl rfl) rfl ?_
      refine ne (eo_indexNS rfl sl40 rfl rfl (fun W1 hO => (hS11.rd (hO.tl 2 rfl (List.Sublist.refl _)))) (by omega) (by omega) (by omega)) rfl ?_
      refine ne (eo_field rfl f43_0 rfl) rfl ?_
      refine ne (eo_loadNS rfl s3 rfl (fun W1 hO => (hS11.rd (hO.tl 2 rfl (List.Sublist.refl _)))) (by omega)) rfl ?_
      refine ne (eo_max rfl rfl rfl) rfl ?_
      refine ne (eo_as rfl rfl) rfl ?_
      refine go_nil ?_
      refine gq_block_end ?_
      refine gq_next ?_
      refine gc_region ?_
      refine ne (eo_mv rfl rfl) rfl ?_
      refine ne (eo_add rfl rfl rfl (by omega) (by omega)) rfl ?_
      refine ne (eo_as rfl rfl) rfl ?_
      refine go_nil ?_
      exact round3 (i + 1) (min le ((ptG (dotsV W H n f)) (i * 2 + 0))) (max ri ((ptG (dotsV W H n f)) (i * 2 + 0))) ⟨by omega, by rw [minG_step (by omega), ← hle, ei], by rw [maxG_step (by omega), ← hri, ei]⟩ (by omega) ⟨rfl, rfl, rfl, rfl, rfl, trivial⟩ (List.Sublist.refl _)
    ·
      replace hc1 := of_decide_eq_false hc1
      rw [show i = (dotsV W H n f).length by omega] at hle hri
      rw [minG_end hlen] at hle
      rw [maxG_end hlen] at hri
      obtain ⟨b1, b2, b3, b4, b5, b6, b7, b8⟩ := inBox_dotsV (f := f) (W := W) (H := H) (n := n)
      have ek : ptG (dotsV W H n f) (((((dotsV W H n f).length : Nat) : Int) - 1).toNat * 2 + 1) = ((dotsV W H n f).getD ((dotsV W H n f).length - 1) (0, 0)).2 := by rw [show ((((dotsV W H n f).length : Nat) : Int) - 1).toNat = (dotsV W H n f).length - 1 by omega]; exact ptG_y
      have htop := topF_first hlen (by omega)
      have hbot := botF_last hlen
      refine gc_exit ?_
      refine gq_then_exit ?_
      refine gq_then_exit ?_
      refine gq_block_hit ?_
      refine gq_next ?_
      refine gc_seq ?_
      refine gc_region ?_
      refine ne (eo_mv rfl rfl) rfl ?_
      refine ne (eo_indexNS rfl sl40 rfl rfl (fun W1 hO => (hS11.rd (hO.tl 2 rfl (List.Sublist.refl _)))) (by omega) (by omega) (by omega)) rfl ?_
      refine ne (eo_field rfl f43_1 rfl) rfl ?_
      refine ne (eo_loadNS rfl s3 rfl (fun W1 hO => (hS11.rd (hO.tl 2 rfl (List.Sublist.refl _)))) (by omega)) rfl ?_
      refine ne (eo_as rfl rfl) rfl ?_
      refine go_nil ?_
      refine gq_next ?_
      refine gc_seq ?_
      refine gc_region ?_
      refine ne (eo_mv rfl rfl) rfl ?_
      refine ne (eo_mv rfl rfl) rfl ?_
      refine ne (eo_len rfl Try.underlying40 rfl) rfl ?_
      refine ne (eo_sub rfl rfl rfl (by omega) (by omega)) rfl ?_
      refine ne (eo_indexNS rfl sl40 rfl rfl (fun W1 hO => (hS11.rd (hO.tl 2 rfl (List.Sublist.refl _)))) (by omega) (by omega) (by omega)) rfl ?_
      refine ne (eo_field rfl f43_1 rfl) rfl ?_
      refine ne (eo_loadNS rfl s3 rfl (fun W1 hO => (hS11.rd (hO.tl 2 rfl (List.Sublist.refl _)))) (by omega)) rfl ?_
      refine ne (eo_as rfl rfl) rfl ?_
      refine go_nil ?_
      refine gq_next ?_
      refine gc_seq ?_
      refine gc_region ?_
      refine ne (eo_mv rfl rfl) rfl ?_
      refine ne (eo_mv rfl rfl) rfl ?_
      refine ne (eo_mv rfl rfl) rfl ?_
      refine ne (eo_mv rfl rfl) rfl ?_
      refine ne (eo_sub rfl rfl rfl (by omega) (by omega)) rfl ?_
      refine ne (eo_add rfl rfl rfl (by omega) (by omega)) rfl ?_
      refine ne (eo_mv rfl rfl) rfl ?_
      refine ne (eo_mv rfl rfl) rfl ?_
      refine ne (eo_sub rfl rfl rfl (by omega) (by omega)) rfl ?_
      refine ne (eo_add rfl rfl rfl (by omega) (by omega)) rfl ?_
      refine ne (eo_build rfl rfl (b26_0123 _ _ _ _)) rfl ?_
      refine nu (xo_storeA 0 rfl a26 rfl rfl (ones_cons (by first | rfl | exact AS.one) (ones_cons (by first | rfl | exact AS.one) (ones_cons (by first | rfl | exact AS.one) (ones_cons (by first | rfl | exact AS.one) ones_nil)))) rfl rfl rfl rfl) ?_
      rintro _ _ ⟨rfl, rfl⟩
      refine ne (eo_as rfl rfl) rfl ?_
      refine go_nil ?_
      refine gq_next ?_
      refine gc_ret ?_
      refine gq_results (resCT 0 rfl a26 rfl rfl rfl rfl rfl) ?_
      exact fun W1 hO => ⟨ret_box (by omega) (by omega) (by omega) (by omega) (by omega), hO.toExt⟩

end Go.Proofs.Ytefblgildcaldaa
