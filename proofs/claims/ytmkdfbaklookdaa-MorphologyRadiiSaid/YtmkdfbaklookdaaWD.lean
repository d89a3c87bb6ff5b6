/-
  The walks of the functions of package morphology and of the document's answer (part D): what each call returns, at every argument.
-/
import Derived.Test.YtmkdfbaklookdaaWB
namespace Go.Proofs.Ytmkdfbaklookdaa
open Go.RowKit Go.Eng

open Go.Bs
theorem en30 : Ent Try.prog 30 := ent_of Try.func30 (by kernel_rfl) rfl
theorem b24_  (W : World) : (Instr.build 24 #[]).run Try.prog W = .ok (.agg #[.int .i64 0, .int .i64 0, .slice none 0 0]) W := by kernel_rfl
theorem en33 : Ent Try.prog 33 := ent_of Try.func33 (by kernel_rfl) rfl
theorem en47 : Ent Try.prog 47 := ent_of Try.func47 (by kernel_rfl) rfl
theorem en32 : Ent Try.prog 32 := ent_of Try.func32 (by kernel_rfl) rfl
theorem en31 : Ent Try.prog 31 := ent_of Try.func31 (by kernel_rfl) rfl
theorem en37 : Ent Try.prog 37 := ent_of Try.func37 (by kernel_rfl) rfl
theorem en49 : Ent Try.prog 49 := ent_of Try.func49 (by kernel_rfl) rfl
theorem en38 : Ent Try.prog 38 := ent_of Try.func38 (by kernel_rfl) rfl
theorem en40 : Ent Try.prog 40 := ent_of Try.func40 (by kernel_rfl) rfl
theorem en50 : Ent Try.prog 50 := ent_of Try.func50 (by kernel_rfl) rfl
theorem en41 : Ent Try.prog 41 := ent_of Try.func41 (by kernel_rfl) rfl
theorem en12 : Ent Try.prog 12 := ent_of Try.func12 (by kernel_rfl) rfl
theorem en14 : Ent Try.prog 14 := ent_of Try.func14 (by kernel_rfl) rfl
theorem e3 : TyE Try.prog 3 (.int .i64 0) 8 := ⟨rfl, by kernel_rfl⟩
theorem sl53 : TySl Try.prog 53 3 1 := ⟨Try.underlying53, by kernel_rfl⟩

theorem ero_hop (W r : Int) (gr : Nat) (hr0 : 0 ≤ r) (hr1 : r ≤ 4096) (h1 : 1 ≤ W) (h2 : W ≤ 8192) : ∀ (A : Option Addr) (n1 c : Nat) (f : Nat → Bool) (W1 : World), (n1 : Int) = W → n1 ≤ c → W1.cell? ⟨gr, 0, none⟩ = some (.int .i64 r) → Rd W1 A (tab n1 (bv f)) → Calls Try.prog 47 #[.slice A n1 c, .pointer (some ⟨gr, 0, none⟩)] W1 (fun e w1 => ∃ u Hn, e = .returned u ∧ RL W.toNat ((erL W.toNat r) f) u Hn ∧ Ow [] W1 w1 Hn) := by
  intro A n1 c f W1 hn hc hcell hrd
  have h := ero_c A n1 c f gr r W1 hrd hcell hr0 hr1 (by omega)
  rw [show n1 = W.toNat by omega] at h
  rw [show n1 = W.toNat by omega]
  exact h

theorem dil_hop (W r : Int) (gr : Nat) (hr0 : 0 ≤ r) (hr1 : r ≤ 4096) (h1 : 1 ≤ W) (h2 : W ≤ 8192) : ∀ (A : Option Addr) (n1 c : Nat) (f : Nat → Bool) (W1 : World), (n1 : Int) = W → n1 ≤ c → W1.cell? ⟨gr, 0, none⟩ = some (.int .i64 r) → Rd W1 A (tab n1 (bv f)) → Calls Try.prog 49 #[.slice A n1 c, .pointer (some ⟨gr, 0, none⟩)] W1 (fun e w1 => ∃ u Hn, e = .returned u ∧ RL W.toNat ((diL W.toNat r) f) u Hn ∧ Ow [] W1 w1 Hn) := by
  intro A n1 c f W1 hn hc hcell hrd
  have h := dil_c A n1 c f gr r W1 hrd hcell hr0 hr1 (by omega) (by omega)
  rw [show n1 = W.toNat by omega] at h
  rw [show n1 = W.toNat by omega]
  exact h

theorem clo_hop (W r : Int) (gr : Nat) (hr0 : 0 ≤ r) (hr1 : r ≤ 4096) (h1 : 1 ≤ W) (h2 : W ≤ 8192) : ∀ (A : Option Addr) (n1 c : Nat) (f : Nat → Bool) (W1 : World), (n1 : Int) = W → n1 ≤ c → W1.cell? ⟨gr, 0, none⟩ = some (.int .i64 r) → Rd W1 A (tab n1 (bv f)) → Calls Try.prog 50 #[.slice A n1 c, .pointer (some ⟨gr, 0, none⟩)] W1 (fun e w1 => ∃ u Hn, e = .returned u ∧ RL W.toNat ((clL W.toNat r) f) u Hn ∧ Ow [] W1 w1 Hn) := by
  intro A n1 c f W1 hn hc hcell hrd
  have h := clo_c A n1 c f gr r W1 hrd hcell hr0 hr1 (by omega)
  rw [show n1 = W.toNat by omega] at h
  rw [show n1 = W.toNat by omega]
  exact h

theorem spr_hop (W r : Int) (gr : Nat) (hr0 : 0 ≤ r) (hr1 : r ≤ 4096) (h1 : 1 ≤ W) (h2 : W ≤ 8192) : ∀ (A : Option Addr) (n1 c : Nat) (f : Nat → Bool) (W1 : World), (n1 : Int) = W → n1 ≤ c → W1.cell? ⟨gr, 0, none⟩ = some (.int .i64 r) → Rd W1 A (tab n1 (bv f)) → Calls Try.prog 38 #[.slice A n1 c, .pointer (some ⟨gr, 0, none⟩)] W1 (fun e w1 => ∃ u Hn, e = .returned u ∧ RL (W + 2 * r).toNat ((spG W.toNat r) f) u Hn ∧ Ow [] W1 w1 Hn) := by
  intro A n1 c f W1 hn hc hcell hrd
  have h := spr_c A n1 c f gr r W1 hrd hcell hr0 hr1 (by omega)
  rw [show ((n1 : Int) + 2 * r).toNat = (W + 2 * r).toNat by omega, show n1 = W.toNat by omega] at h
  rw [show n1 = W.toNat by omega]
  exact h

theorem shr_hop (W r : Int) (gr : Nat) (hr0 : 0 ≤ r) (hr1 : r ≤ 4096) (h1 : 1 ≤ W) (h2 : W ≤ 8192) : ∀ (A : Option Addr) (n1 c : Nat) (f : Nat → Bool) (W1 : World), (n1 : Int) = (W + 2 * r) → n1 ≤ c → W1.cell? ⟨gr, 0, none⟩ = some (.int .i64 r) → Rd W1 A (tab n1 (bv f)) → Calls Try.prog 41 #[.slice A n1 c, .pointer (some ⟨gr, 0, none⟩)] W1 (fun e w1 => ∃ u Hn, e = .returned u ∧ RL W.toNat ((shG r) f) u Hn ∧ Ow [] W1 w1 Hn) := by
  intro A n1 c f W1 hn hc hcell hrd
  have h := shr_c A n1 c f gr r W1 hrd hcell hr0 hr1 (by omega)
  rw [show (max 0 ((n1 : Int) - 2 * r)).toNat = W.toNat by omega] at h
  exact h

/-- barscan/morphology.Erode -/
theorem erode_x (W H : Int) (A : Option Addr) (n c : Nat) (f : Nat → Bool) (rx : Int) (ry : Int) (w : World) (hr : Rd w A (tab n (bv f))) (hnc : n ≤ c) :
    Calls Try.prog 12 #[.agg #[.int .i64 W, .int .i64 H, .slice A n c], .int .i64 rx, .int .i64 ry] w (fun e w' => ∃ v Hn, e = .returned v ∧ RX (erodeR ⟨W, H, n, f⟩ rx ry) v Hn ∧ Ow [] w w' Hn) := by
  refine calls_enter (N := ⟨26, []⟩) [] ([]) Try.func12 rfl rfl rfl (Ow.start _) ?_
  refine gc_seq ?_
  refine gc_region ?_
  refine nx (xo_boxA rfl rfl) rfl ?_
  rintro _ _ ⟨g3, rfl, rfl⟩
  refine nx (xo_alloc rfl z24) rfl ?_
  rintro _ _ ⟨g6, rfl, rfl⟩
  refine ne (eo_as rfl rfl) rfl ?_
  refine go_nil ?_
  refine gq_next ?_
  refine gc_seq ?_
  refine gc_seq ?_
  refine gc_region ?_
  refine ne (eo_loadA 1 rfl a24 rfl rfl rfl rfl) rfl ?_
  refine ne (eo_mv rfl rfl) rfl ?_
  refine ne (eo_mv rfl rfl) rfl ?_
  refine ne (eo_call rfl en30 rfl (fun W1 hO => mcheck_c _ _ _ _ _ _ _ _ W1 (hr.old0 hO) )) rfl ?_
  refine ne (eo_as rfl rfl) rfl ?_
  refine go_nil ?_
  refine gq_next ?_
  refine gc_seq ?_
  refine gc_region ?_
  refine ne (eo_mv rfl rfl) rfl ?_
  refine ne (eo_neq rfl rfl rfl) rfl ?_
  refine go_nil ?_
  refine gq_next ?_
  refine gc_cond rfl (fun hc0 => ?_) (fun hc0 => ?_)
  ·
    replace hc0 := of_decide_eq_true hc0
    refine gc_seq ?_
    refine gc_region ?_
    refine ne (eo_build rfl rfl (b24_)) rfl ?_
    refine ne (eo_mv rfl rfl) rfl ?_
    refine nu (xo_storeA 0 rfl a24 rfl rfl (ones_cons (by first | rfl | exact AS.one) (ones_cons (by first | rfl | exact AS.one) (ones_cons (by first | rfl | exact AS.one) ones_nil))) rfl rfl rfl rfl) ?_
    rintro _ _ ⟨rfl, rfl⟩
    refine ne (eo_as rfl rfl) rfl ?_
    refine go_nil ?_
    refine gq_next ?_
    refine gc_ret ?_
    refine gq_then_ret ?_
    refine gq_results (resCT 0 rfl a24 rfl rfl rfl rfl rfl) ?_
    exact fun W1 hO => rx_nil hO (if_neg hc0)
  ·
    replace hc0 := of_decide_eq_false hc0
    obtain ⟨hv, r1, r2, r3, r4⟩ := mchk_zero (Decidable.not_not.1 hc0)
    obtain ⟨v1, v2, v3, v4, v5, v6⟩ := vldB_iff.1 hv
    have v7 := vld_pos hv
    have v8 := mul_up (a := W + 2 * rx) (b := H) (by omega) (by omega) (by omega) (by omega)
    refine gc_skip ?_
    refine gq_next ?_
    refine gc_seq ?_
    refine gc_draw [] [0, 1, 2, 3, 6] [4, 5, 7, 8] [9, 10] (by kernel_rfl) (by kernel_rfl) ?_
    refine gp_nil ?_
    refine de rfl (eo_loadA 1 rfl a24 rfl rfl rfl rfl) rfl ?_
    refine de rfl (eo_field rfl f24_0 rfl) rfl ?_
    refine de rfl (eo_load 1 rfl s3 rfl rfl rfl rfl) rfl ?_
    refine de rfl (eo_mv rfl rfl) rfl ?_
    refine de rfl (eo_mv rfl rfl) rfl ?_
    refine ge_nil ?_
    refine da rfl (xo_fresh rfl en33 rfl (fun W1 hO => eroding_f _ W1)) rfl ?_
    rintro _ _ ⟨_, ⟨gf21, rfl, rfl⟩, rfl⟩
    refine ⟨by first | exact (List.Sublist.cons _ (List.Sublist.refl _)) | exact (List.sublist_append_left _ _), ?_⟩
    refine da rfl (xo_fresh rfl en32 rfl (fun W1 hO => rows_c _ _ _ _ _ _ _ _ _ _ _ W1 (hr.old0 hO) (by exact hO.cell (i := 0) rfl 0) en47 (ero_hop W rx _ (by omega) (by omega) (by omega) (by omega)) (by omega) (by omega) (by omega) (by omega) (by omega) (by omega) (by omega) (by omega))) rfl ?_
    rintro _ _ ⟨_, ⟨gr22, cr22, sr22, rfl, rfl, hcr22⟩, rfl⟩
    refine ⟨by first | exact (List.Sublist.cons _ (List.Sublist.cons _ (List.Sublist.refl _))) | exact (List.sublist_append_left _ _), ?_⟩
    refine da rfl (xo_fresh rfl en33 rfl (fun W1 hO => eroding_f _ W1)) rfl ?_
    rintro _ _ ⟨_, ⟨gf24, rfl, rfl⟩, rfl⟩
    refine ⟨by first | exact (List.Sublist.cons _ (List.Sublist.cons _ (List.Sublist.cons _ (List.Sublist.refl _)))) | exact (List.sublist_append_left _ _), ?_⟩
    refine da rfl (xo_fresh rfl en31 rfl (fun W1 hO => cols_c _ _ _ _ _ _ _ _ _ _ W1 (tabs_rd hO 1 rfl) (by exact hO.cell (i := 0) rfl 0) en47 (ero_hop H ry _ (by omega) (by omega) (by omega) (by omega)) (by omega) (by omega) (by omega) (by omega) (by omega) (by omega))) rfl ?_
    rintro _ _ ⟨_, ⟨gc25, cc25, sc25, rfl, rfl, hcc25⟩, rfl⟩
    refine ⟨by first | exact (List.Sublist.cons _ (List.Sublist.cons _ (List.Sublist.cons _ (List.Sublist.cons _ (List.Sublist.refl _))))) | exact (List.sublist_append_left _ _), ?_⟩
    refine ga_nil ?_
    refine iu rfl (xo_storeA 4 rfl a24 rfl rfl (ones_cons (by first | rfl | exact AS.one) (ones_cons (by first | rfl | exact AS.one) (ones_cons (by first | rfl | exact AS.one) ones_nil))) rfl rfl rfl rfl) ?_
    rintro _ _ ⟨rfl, rfl⟩
    refine ie rfl (eo_as rfl rfl) rfl ?_
    refine gi_nil ?_
    refine gq_nq ?_
    refine gq_next ?_
    refine gc_ret ?_
    refine gq_results (resCT 4 rfl a24 rfl rfl rfl rfl rfl) ?_
    exact fun W1 hO => rx_own 0 hO rfl (if_pos (Decidable.not_not.1 hc0)) (fun j hj => rfl) (by omega)

/-- barscan/morphology.Dilate -/
theorem dilate_x (W H : Int) (A : Option Addr) (n c : Nat) (f : Nat → Bool) (rx : Int) (ry : Int) (w : World) (hr : Rd w A (tab n (bv f))) (hnc : n ≤ c) :
    Calls Try.prog 14 #[.agg #[.int .i64 W, .int .i64 H, .slice A n c], .int .i64 rx, .int .i64 ry] w (fun e w' => ∃ v Hn, e = .returned v ∧ RX (dilateR ⟨W, H, n, f⟩ rx ry) v Hn ∧ Ow [] w w' Hn) := by
  refine calls_enter (N := ⟨26, []⟩) [] ([]) Try.func14 rfl rfl rfl (Ow.start _) ?_
  refine gc_seq ?_
  refine gc_region ?_
  refine nx (xo_boxA rfl rfl) rfl ?_
  rintro _ _ ⟨g3, rfl, rfl⟩
  refine nx (xo_alloc rfl z24) rfl ?_
  rintro _ _ ⟨g6, rfl, rfl⟩
  refine ne (eo_as rfl rfl) rfl ?_
  refine go_nil ?_
  refine gq_next ?_
  refine gc_seq ?_
  refine gc_seq ?_
  refine gc_region ?_
  refine ne (eo_loadA 1 rfl a24 rfl rfl rfl rfl) rfl ?_
  refine ne (eo_mv rfl rfl) rfl ?_
  refine ne (eo_mv rfl rfl) rfl ?_
  refine ne (eo_call rfl en30 rfl (fun W1 hO => mcheck_c _ _ _ _ _ _ _ _ W1 (hr.old0 hO) )) rfl ?_
  refine ne (eo_as rfl rfl) rfl ?_
  refine go_nil ?_
  refine gq_next ?_
  refine gc_seq ?_
  refine gc_region ?_
  refine ne (eo_mv rfl rfl) rfl ?_
  refine ne (eo_neq rfl rfl rfl) rfl ?_
  refine go_nil ?_
  refine gq_next ?_
  refine gc_cond rfl (fun hc0 => ?_) (fun hc0 => ?_)
  ·
    replace hc0 := of_decide_eq_true hc0
    refine gc_seq ?_
    refine gc_region ?_
    refine ne (eo_build rfl rfl (b24_)) rfl ?_
    refine ne (eo_mv rfl rfl) rfl ?_
    refine nu (xo_storeA 0 rfl a24 rfl rfl (ones_cons (by first | rfl | exact AS.one) (ones_cons (by first | rfl | exact AS.one) (ones_cons (by first | rfl | exact AS.one) ones_nil))) rfl rfl rfl rfl) ?_
    rintro _ _ ⟨rfl, rfl⟩
    refine ne (eo_as rfl rfl) rfl ?_
    refine go_nil ?_
    refine gq_next ?_
    refine gc_ret ?_
    refine gq_then_ret ?_
    refine gq_results (resCT 0 rfl a24 rfl rfl rfl rfl rfl) ?_
    exact fun W1 hO => rx_nil hO (if_neg hc0)
  ·
    replace hc0 := of_decide_eq_false hc0
    obtain ⟨hv, r1, r2, r3, r4⟩ := mchk_zero (Decidable.not_not.1 hc0)
    obtain ⟨v1, v2, v3, v4, v5, v6⟩ := vldB_iff.1 hv
    have v7 := vld_pos hv
    have v8 := mul_up (a := W + 2 * rx) (b := H) (by omega) (by omega) (by omega) (by omega)
    refine gc_skip ?_
    refine gq_next ?_
    refine gc_seq ?_
    refine gc_draw [] [0, 1, 2, 3, 6] [4, 5, 7, 8] [9, 10] (by kernel_rfl) (by kernel_rfl) ?_
    refine gp_nil ?_
    refine de rfl (eo_loadA 1 rfl a24 rfl rfl rfl rfl) rfl ?_
    refine de rfl (eo_field rfl f24_0 rfl) rfl ?_
    refine de rfl (eo_load 1 rfl s3 rfl rfl rfl rfl) rfl ?_
    refine de rfl (eo_mv rfl rfl) rfl ?_
    refine de rfl (eo_mv rfl rfl) rfl ?_
    refine ge_nil ?_
    refine da rfl (xo_fresh rfl en37 rfl (fun W1 hO => dilating_f _ W1)) rfl ?_
    rintro _ _ ⟨_, ⟨gf21, rfl, rfl⟩, rfl⟩
    refine ⟨by first | exact (List.Sublist.cons _ (List.Sublist.refl _)) | exact (List.sublist_append_left _ _), ?_⟩
    refine da rfl (xo_fresh rfl en32 rfl (fun W1 hO => rows_c _ _ _ _ _ _ _ _ _ _ _ W1 (hr.old0 hO) (by exact hO.cell (i := 0) rfl 0) en49 (dil_hop W rx _ (by omega) (by omega) (by omega) (by omega)) (by omega) (by omega) (by omega) (by omega) (by omega) (by omega) (by omega) (by omega))) rfl ?_
    rintro _ _ ⟨_, ⟨gr22, cr22, sr22, rfl, rfl, hcr22⟩, rfl⟩
    refine ⟨by first | exact (List.Sublist.cons _ (List.Sublist.cons _ (List.Sublist.refl _))) | exact (List.sublist_append_left _ _), ?_⟩
    refine da rfl (xo_fresh rfl en37 rfl (fun W1 hO => dilating_f _ W1)) rfl ?_
    rintro _ _ ⟨_, ⟨gf24, rfl, rfl⟩, rfl⟩
    refine ⟨by first | exact (List.Sublist.cons _ (List.Sublist.cons _ (List.Sublist.cons _ (List.Sublist.refl _)))) | exact (List.sublist_append_left _ _), ?_⟩
    refine da rfl (xo_fresh rfl en31 rfl (fun W1 hO => cols_c _ _ _ _ _ _ _ _ _ _ W1 (tabs_rd hO 1 rfl) (by exact hO.cell (i := 0) rfl 0) en49 (dil_hop H ry _ (by omega) (by omega) (by omega) (by omega)) (by omega) (by omega) (by omega) (by omega) (by omega) (by omega))) rfl ?_
    rintro _ _ ⟨_, ⟨gc25, cc25, sc25, rfl, rfl, hcc25⟩, rfl⟩
    refine ⟨by first | exact (List.Sublist.cons _ (List.Sublist.cons _ (List.Sublist.cons _ (List.Sublist.cons _ (List.Sublist.refl _))))) | exact (List.sublist_append_left _ _), ?_⟩
    refine ga_nil ?_
    refine iu rfl (xo_storeA 4 rfl a24 rfl rfl (ones_cons (by first | rfl | exact AS.one) (ones_cons (by first | rfl | exact AS.one) (ones_cons (by first | rfl | exact AS.one) ones_nil))) rfl rfl rfl rfl) ?_
    rintro _ _ ⟨rfl, rfl⟩
    refine ie rfl (eo_as rfl rfl) rfl ?_
    refine gi_nil ?_
    refine gq_nq ?_
    refine gq_next ?_
    refine gc_ret ?_
    refine gq_results (resCT 4 rfl a24 rfl rfl rfl rfl rfl) ?_
    exact fun W1 hO => rx_own 0 hO rfl (if_pos (Decidable.not_not.1 hc0)) (fun j hj => rfl) (by omega)

/-- barscan/morphology.Close -/
theorem close_x (W H : Int) (A : Option Addr) (n c : Nat) (f : Nat → Bool) (rx : Int) (ry : Int) (w : World) (hr : Rd w A (tab n (bv f))) (hnc : n ≤ c) :
    Calls Try.prog 20 #[.agg #[.int .i64 W, .int .i64 H, .slice A n c], .int .i64 rx, .int .i64 ry] w (fun e w' => ∃ v Hn, e = .returned v ∧ RX (closeR ⟨W, H, n, f⟩ rx ry) v Hn ∧ Ow [] w w' Hn) := by
  refine calls_enter (N := ⟨35, []⟩) [] ([]) Try.func20 rfl rfl rfl (Ow.start _) ?_
  refine gc_seq ?_
  refine gc_region ?_
  refine nx (xo_boxA rfl rfl) rfl ?_
  rintro _ _ ⟨g3, rfl, rfl⟩
  refine nx (xo_box rfl rfl (by first | rfl | exact AS.one)) rfl ?_
  rintro _ _ ⟨g4, rfl, rfl⟩
  refine nx (xo_alloc rfl z24) rfl ?_
  rintro _ _ ⟨g6, rfl, rfl⟩
  refine ne (eo_as rfl rfl) rfl ?_
  refine go_nil ?_
  refine gq_next ?_
  refine gc_seq ?_
  refine gc_seq ?_
  refine gc_region ?_
  refine ne (eo_loadA 2 rfl a24 rfl rfl rfl rfl) rfl ?_
  refine ne (eo_load 1 rfl s3 rfl rfl rfl rfl) rfl ?_
  refine ne (eo_mv rfl rfl) rfl ?_
  refine ne (eo_call rfl en30 rfl (fun W1 hO => mcheck_c _ _ _ _ _ _ _ _ W1 (hr.old0 hO) )) rfl ?_
  refine ne (eo_as rfl rfl) rfl ?_
  refine go_nil ?_
  refine gq_next ?_
  refine gc_seq ?_
  refine gc_region ?_
  refine ne (eo_mv rfl rfl) rfl ?_
  refine ne (eo_neq rfl rfl rfl) rfl ?_
  refine go_nil ?_
  refine gq_next ?_
  refine gc_cond rfl (fun hc0 => ?_) (fun hc0 => ?_)
  ·
    replace hc0 := of_decide_eq_true hc0
    refine gc_seq ?_
    refine gc_region ?_
    refine ne (eo_build rfl rfl (b24_)) rfl ?_
    refine ne (eo_mv rfl rfl) rfl ?_
    refine nu (xo_storeA 0 rfl a24 rfl rfl (ones_cons (by first | rfl | exact AS.one) (ones_cons (by first | rfl | exact AS.one) (ones_cons (by first | rfl | exact AS.one) ones_nil))) rfl rfl rfl rfl) ?_
    rintro _ _ ⟨rfl, rfl⟩
    refine ne (eo_as rfl rfl) rfl ?_
    refine go_nil ?_
    refine gq_next ?_
    refine gc_ret ?_
    refine gq_then_ret ?_
    refine gq_results (resCT 0 rfl a24 rfl rfl rfl rfl rfl) ?_
    exact fun W1 hO => rx_nil hO (if_neg hc0)
  ·
    replace hc0 := of_decide_eq_false hc0
    obtain ⟨hv, r1, r2, r3, r4⟩ := mchk_zero (Decidable.not_not.1 hc0)
    obtain ⟨v1, v2, v3, v4, v5, v6⟩ := vldB_iff.1 hv
    have v7 := vld_pos hv
    have v8 := mul_up (a := W + 2 * rx) (b := H) (by omega) (by omega) (by omega) (by omega)
    refine gc_skip ?_
    refine gq_next ?_
    refine gc_seq ?_
    refine gc_region ?_
    refine ne (eo_loadA 2 rfl a24 rfl rfl rfl rfl) rfl ?_
    refine ne (eo_field rfl f24_0 rfl) rfl ?_
    refine ne (eo_load 2 rfl s3 rfl rfl rfl rfl) rfl ?_
    refine ne (eo_load 1 rfl s3 rfl rfl rfl rfl) rfl ?_
    refine ne (eo_mul rfl rfl rfl (by omega) (by omega)) rfl ?_
    refine ne (eo_add rfl rfl rfl (by omega) (by omega)) rfl ?_
    refine ne (eo_makeFunc rfl rfl rfl) rfl ?_
    refine nx (xo_fresh rfl en32 rfl (fun W1 hO => rows_c _ _ _ _ _ _ _ _ _ _ _ W1 (hr.old0 hO) (by exact hO.cell (i := 1) rfl 0) en38 (spr_hop W rx _ (by omega) (by omega) (by omega) (by omega)) (by omega) (by omega) (by omega) (by omega) (by omega) (by omega) (by omega) (by omega))) rfl ?_
    rintro _ _ ⟨_, ⟨gr25, cr25, sr25, rfl, rfl, hcr25⟩, rfl⟩
    refine nx (xo_alloc rfl z24) rfl ?_
    rintro _ _ ⟨g9, rfl, rfl⟩
    refine nu (xo_storeA 0 rfl a24 rfl rfl (ones_cons (by first | rfl | exact AS.one) (ones_cons (by first | rfl | exact AS.one) (ones_cons (by first | rfl | exact AS.one) ones_nil))) rfl rfl rfl rfl) ?_
    rintro _ _ ⟨rfl, rfl⟩
    refine go_nil ?_
    refine gq_next ?_
    refine gc_seq ?_
    refine gc_draw [] [0, 1] [2, 3] [4] (by kernel_rfl) (by kernel_rfl) ?_
    refine gp_nil ?_
    refine de rfl (eo_loadA 0 rfl a24 rfl rfl rfl rfl) rfl ?_
    refine de rfl (eo_mv rfl rfl) rfl ?_
    refine ge_nil ?_
    refine da rfl (xo_fresh rfl en40 rfl (fun W1 hO => closing_f _ W1)) rfl ?_
    rintro _ _ ⟨_, ⟨gf28, rfl, rfl⟩, rfl⟩
    refine ⟨by first | exact (List.Sublist.cons _ (List.Sublist.refl _)) | exact (List.sublist_append_left _ _), ?_⟩
    refine da rfl (xo_fresh rfl en31 rfl (fun W1 hO => cols_c _ _ _ _ _ _ _ _ _ _ W1 (tabs_rd hO 2 rfl) (by exact hO.cell (i := 0) rfl 0) en50 (clo_hop H ry _ (by omega) (by omega) (by omega) (by omega)) (by omega) (by omega) (by omega) (by omega) (by omega) (by omega))) rfl ?_
    rintro _ _ ⟨_, ⟨gc29, cc29, sc29, rfl, rfl, hcc29⟩, rfl⟩
    refine ⟨by first | exact (List.Sublist.cons _ (List.Sublist.cons _ (List.Sublist.refl _))) | exact (List.sublist_append_left _ _), ?_⟩
    refine ga_nil ?_
    refine iu rfl (xo_storeA 2 rfl a24 rfl rfl (ones_cons (by first | rfl | exact AS.one) (ones_cons (by first | rfl | exact AS.one) (ones_cons (by first | rfl | exact AS.one) ones_nil))) rfl rfl rfl rfl) ?_
    rintro _ _ ⟨rfl, rfl⟩
    refine gi_nil ?_
    refine gq_nq ?_
    refine gq_next ?_
    refine gc_seq ?_
    refine gc_region ?_
    refine ne (eo_loadA 2 rfl a24 rfl rfl rfl rfl) rfl ?_
    refine ne (eo_field rfl f24_0 rfl) rfl ?_
    refine ne (eo_load 6 rfl s3 rfl rfl rfl rfl) rfl ?_
    refine ne (eo_makeFunc rfl rfl rfl) rfl ?_
    refine nx (xo_fresh rfl en32 rfl (fun W1 hO => rows_c _ _ _ _ _ _ _ _ _ _ _ W1 (tabs_rd hO 0 rfl) (by exact hO.cell (i := 5) rfl 0) en41 (shr_hop W rx _ (by omega) (by omega) (by omega) (by omega)) (by omega) (by omega) (by omega) (by omega) (by omega) (by omega) (by omega) (by omega))) rfl ?_
    rintro _ _ ⟨_, ⟨gr34, cr34, sr34, rfl, rfl, hcr34⟩, rfl⟩
    refine nu (xo_storeA 5 rfl a24 rfl rfl (ones_cons (by first | rfl | exact AS.one) (ones_cons (by first | rfl | exact AS.one) (ones_cons (by first | rfl | exact AS.one) ones_nil))) rfl rfl rfl rfl) ?_
    rintro _ _ ⟨rfl, rfl⟩
    refine ne (eo_as rfl rfl) rfl ?_
    refine go_nil ?_
    refine gq_next ?_
    refine gc_ret ?_
    refine gq_results (resCT 5 rfl a24 rfl rfl rfl rfl rfl) ?_
    exact fun W1 hO => rx_own 0 hO rfl (if_pos (Decidable.not_not.1 hc0)) (fun j hj => rfl) (by omega)

/-- barscan/morphology.Open -/
theorem open_x (W H : Int) (A : Option Addr) (n c : Nat) (f : Nat → Bool) (rx : Int) (ry : Int) (w : World) (hr : Rd w A (tab n (bv f))) (hnc : n ≤ c) :
    Calls Try.prog 18 #[.agg #[.int .i64 W, .int .i64 H, .slice A n c], .int .i64 rx, .int .i64 ry] w (fun e w' => ∃ v Hn, e = .returned v ∧ RX (openR ⟨W, H, n, f⟩ rx ry) v Hn ∧ Ow [] w w' Hn) := by
  refine calls_enter (N := ⟨27, []⟩) [] ([]) Try.func18 rfl rfl rfl (Ow.start _) ?_
  refine gc_seq ?_
  refine gc_region ?_
  refine nx (xo_boxA rfl rfl) rfl ?_
  rintro _ _ ⟨g3, rfl, rfl⟩
  refine nx (xo_alloc rfl z24) rfl ?_
  rintro _ _ ⟨g6, rfl, rfl⟩
  refine ne (eo_as rfl rfl) rfl ?_
  refine go_nil ?_
  refine gq_next ?_
  refine gc_seq ?_
  refine gc_region ?_
  refine ne (eo_loadA 1 rfl a24 rfl rfl rfl rfl) rfl ?_
  refine ne (eo_mv rfl rfl) rfl ?_
  refine ne (eo_mv rfl rfl) rfl ?_
  refine nx (xo_freshT rfl en12 rfl (fun W1 hO => erode_x _ _ _ _ _ _ _ _ W1 (hr.old0 hO) hnc)) rfl ?_
  rintro _ _ ⟨S14, ⟨A14, k14, rfl, hk14, hS14⟩, rfl⟩
  refine ne (eo_mv rfl rfl) rfl ?_
  refine ne (eo_extract rfl rfl rfl) rfl ?_
  refine ne (eo_extract rfl rfl rfl) rfl ?_
  refine nx (xo_alloc rfl z24) rfl ?_
  rintro _ _ ⟨g8, rfl, rfl⟩
  refine nu (xo_storeA 0 rfl a24 rfl rfl (ones_cons (by first | rfl | exact AS.one) (ones_cons (by first | rfl | exact AS.one) (ones_cons (by first | rfl | exact AS.one) ones_nil))) rfl rfl rfl rfl) ?_
  rintro _ _ ⟨rfl, rfl⟩
  refine ne (eo_as rfl rfl) rfl ?_
  refine go_nil ?_
  refine gq_next ?_
  refine gc_seq ?_
  refine gc_seq ?_
  refine gc_region ?_
  refine ne (eo_mv rfl rfl) rfl ?_
  refine ne (eo_neq rfl rfl rfl) rfl ?_
  refine go_nil ?_
  refine gq_next ?_
  refine gc_cond rfl (fun hc0 => ?_) (fun hc0 => ?_)
  ·
    replace hc0 := of_decide_eq_true hc0
    refine gc_seq ?_
    refine gc_region ?_
    refine ne (eo_build rfl rfl (b24_)) rfl ?_
    refine ne (eo_mv rfl rfl) rfl ?_
    refine nu (xo_storeA 1 rfl a24 rfl rfl (ones_cons (by first | rfl | exact AS.one) (ones_cons (by first | rfl | exact AS.one) (ones_cons (by first | rfl | exact AS.one) ones_nil))) rfl rfl rfl rfl) ?_
    rintro _ _ ⟨rfl, rfl⟩
    refine ne (eo_as rfl rfl) rfl ?_
    refine go_nil ?_
    refine gq_next ?_
    refine gc_ret ?_
    refine gq_then_ret ?_
    refine gq_results (resCT 1 rfl a24 rfl rfl rfl rfl rfl) ?_
    exact fun W1 hO => rx_nil hO (if_neg hc0)
  ·
    replace hc0 := of_decide_eq_false hc0
    refine gc_skip ?_
    refine gq_next ?_
    refine gc_seq ?_
    refine gc_region ?_
    refine ne (eo_loadA 0 rfl a24 rfl rfl rfl rfl) rfl ?_
    refine ne (eo_mv rfl rfl) rfl ?_
    refine ne (eo_mv rfl rfl) rfl ?_
    refine nx (xo_freshT rfl en14 rfl (fun W1 hO => dilate_x _ _ _ _ _ _ _ _ W1 (hS14.rd (hO.tl 3 rfl (List.Sublist.refl _))) hk14)) rfl ?_
    rintro _ _ ⟨S24, ⟨A24, k24, rfl, hk24, hS24⟩, rfl⟩
    refine ne (eo_extract rfl rfl rfl) rfl ?_
    refine ne (eo_extract rfl rfl rfl) rfl ?_
    refine nu (xo_storeA 1 rfl a24 rfl rfl (ones_cons (by first | rfl | exact AS.one) (ones_cons (by first | rfl | exact AS.one) (ones_cons (by first | rfl | exact AS.one) ones_nil))) rfl rfl rfl rfl) ?_
    rintro _ _ ⟨rfl, rfl⟩
    refine ne (eo_as rfl rfl) rfl ?_
    refine go_nil ?_
    refine gq_next ?_
    refine gc_ret ?_
    refine gq_results (resCT 1 rfl a24 rfl rfl rfl rfl rfl) ?_
    exact fun W1 hO => rx_pass (hO.tl 3 rfl (List.sublist_append_right _ _)) hk24 hS24 (if_pos (Decidable.not_not.1 hc0))

/-- barscan/morphology.Majority -/
theorem maj_x (W H : Int) (A : Option Addr) (n c : Nat) (f : Nat → Bool) (r : Int) (w : World) (hr : Rd w A (tab n (bv f)))  :
    Calls Try.prog 22 #[.agg #[.int .i64 W, .int .i64 H, .slice A n c], .int .i64 r] w (fun e w' => ∃ v Hn, e = .returned v ∧ RX (majR ⟨W, H, n, f⟩ r) v Hn ∧ Ow [] w w' Hn) := by
  refine calls_enter (N := ⟨177, []⟩) [] ([]) Try.func22 rfl rfl rfl (Ow.start _) ?_
  refine gc_seq ?_
  refine gc_region ?_
  refine nx (xo_boxA rfl rfl) rfl ?_
  rintro _ _ ⟨g2, rfl, rfl⟩
  refine nx (xo_alloc rfl z24) rfl ?_
  rintro _ _ ⟨g4, rfl, rfl⟩
  refine ne (eo_as rfl rfl) rfl ?_
  refine go_nil ?_
  refine gq_next ?_
  refine gc_seq ?_
  refine gc_seq ?_
  refine gc_region ?_
  refine ne (eo_loadA 1 rfl a24 rfl rfl rfl rfl) rfl ?_
  refine ne (eo_mv rfl rfl) rfl ?_
  refine ne (eo_mv rfl rfl) rfl ?_
  refine ne (eo_call rfl en30 rfl (fun W1 hO => mcheck_c _ _ _ _ _ _ _ _ W1 (hr.old0 hO) )) rfl ?_
  refine ne (eo_as rfl rfl) rfl ?_
  refine go_nil ?_
  refine gq_next ?_
  refine gc_seq ?_
  refine gc_region ?_
  refine ne (eo_mv rfl rfl) rfl ?_
  refine ne (eo_neq rfl rfl rfl) rfl ?_
  refine go_nil ?_
  refine gq_next ?_
  refine gc_cond rfl (fun hc0 => ?_) (fun hc0 => ?_)
  ·
    replace hc0 := of_decide_eq_true hc0
    refine gc_seq ?_
    refine gc_region ?_
    refine ne (eo_build rfl rfl (b24_)) rfl ?_
    refine ne (eo_mv rfl rfl) rfl ?_
    refine nu (xo_storeA 0 rfl a24 rfl rfl (ones_cons (by first | rfl | exact AS.one) (ones_cons (by first | rfl | exact AS.one) (ones_cons (by first | rfl | exact AS.one) ones_nil))) rfl rfl rfl rfl) ?_
    rintro _ _ ⟨rfl, rfl⟩
    refine ne (eo_as rfl rfl) rfl ?_
    refine go_nil ?_
    refine gq_next ?_
    refine gc_ret ?_
    refine gq_then_ret ?_
    refine gq_results (resCT 0 rfl a24 rfl rfl rfl rfl rfl) ?_
    exact fun W1 hO => rx_nil hO (if_neg hc0)
  ·
    replace hc0 := of_decide_eq_false hc0
    obtain ⟨hv, r1, r2, r3, r4⟩ := mchk_zero (Decidable.not_not.1 hc0)
    obtain ⟨v1, v2, v3, v4, v5, v6⟩ := vldB_iff.1 hv
    have v7 := vld_pos hv
    have v8 := mul_up1 v1 v2 v3 v4
    have v9 := sq_bd r1 r2
    refine gc_skip ?_
    refine gq_next ?_
    refine gc_seq ?_
    refine gc_region ?_
    refine ne (eo_field rfl f24_0 rfl) rfl ?_
    refine ne (eo_load 1 rfl s3 rfl rfl rfl rfl) rfl ?_
    refine ne (eo_add rfl rfl rfl (by omega) (by omega)) rfl ?_
    refine ne (eo_as rfl rfl) rfl ?_
    refine go_nil ?_
    refine gq_next ?_
    refine gc_seq ?_
    refine gc_region ?_
    refine ne (eo_mv rfl rfl) rfl ?_
    refine ne (eo_field rfl f24_1 rfl) rfl ?_
    refine ne (eo_load 1 rfl s3 rfl rfl rfl rfl) rfl ?_
    refine ne (eo_add rfl rfl rfl (by omega) (by omega)) rfl ?_
    refine ne (eo_mul rfl rfl rfl (by omega) (by omega)) rfl ?_
    refine nx (xo_makei rfl Try.underlying53 e3 rfl rfl (by omega) (by omega) (by omega)) rfl ?_
    rintro _ _ ⟨g37, rfl, rfl⟩
    refine ne (eo_as rfl rfl) rfl ?_
    refine go_nil ?_
    refine gq_next ?_
    refine gc_seq ?_
    refine gc_seq ?_
    refine gc_region ?_
    refine ne (eo_field rfl f24_1 rfl) rfl ?_
    refine ne (eo_load 2 rfl s3 rfl rfl rfl rfl) rfl ?_
    refine ne (eo_mv rfl rfl) rfl ?_
    refine go_nil ?_
    refine gq_next ?_
    refine gc_block ?_
    refine loop2 (fun (y : Nat) (s1 : Nat → Int) => (y : Int) ≤ H ∧ ∀ q, q < ((W + 1) * (H + 1)).toNat → s1 q = if (q : Int) < ((y : Int) + 1) * (W + 1) then sumG (bw f) W q else 0) (fun (y : Nat) (s1 : Nat → Int) => (H - y).toNat) (fun (y : Nat) (s1 : Nat → Int) => [(1, .int .i64 r), (2, .pointer (some ⟨g2, 0, none⟩)), (4, .pointer (some ⟨g4, 0, none⟩)), (7, .int .i64 (W + 1)), (8, .slice (some ⟨g37, 0, none⟩) ((((W + 1) * (H + 1))).toNat) ((((W + 1) * (H + 1))).toNat)), (39, .int .i64 H), (40, .int .i64 (y : Int))]) (fun (y : Nat) (s1 : Nat → Int) => [⟨g37, 3, tab ((((W + 1) * (H + 1))).toNat) (iv .i64 s1) ++ []⟩, ⟨g4, 24, [.int .i64 0, .int .i64 0, .slice none 0 0]⟩, ⟨g2, 24, [.int .i64 W, .int .i64 H, .slice A n c]⟩]) 0 (fun _ => 0) ⟨by omega, sumG_new (by omega) (by simp)⟩ ⟨rfl, rfl, rfl, rfl, rfl, rfl, rfl, trivial⟩ (List.Sublist.refl _) ?_
    rintro y s1 ⟨hy, hI⟩
    refine gc_seq ?_
    refine gc_region ?_
    refine ne (eo_lss rfl rfl rfl) rfl ?_
    refine go_nil ?_
    refine gq_next ?_
    refine gc_seq ?_
    refine gc_cond rfl (fun hc1 => ?_) (fun hc1 => ?_)
    ·
      replace hc1 := of_decide_eq_true hc1
      have hb := idx_bd (W := W + 1) (H := H + 1) (x := 0) (y := (y : Int) + 1) (by omega) (by omega) (by omega) (by omega)
      have hb0 := idx_bd (W := W) (H := H) (x := 0) (y := (y : Int)) (by omega) (by omega) (by omega) (by omega)
      have ha : ((y : Int) + 1) * (W + 1) = y * (W + 1) + (W + 1) := add1_mul
      have hb1 : 0 ≤ (y : Int) * (W + 1) := Int.mul_nonneg (by omega) (by omega)
      refine gc_skip ?_
      refine gq_next ?_
      refine gc_seq ?_
      refine gc_block ?_
      refine gc_seq ?_
      refine gc_region ?_
      refine ne (eo_mv rfl rfl) rfl ?_
      refine ne (eo_as rfl rfl) rfl ?_
      refine go_nil ?_
      refine gq_next ?_
      refine gc_seq ?_
      refine gc_region ?_
      refine ne (eo_as rfl rfl) rfl ?_
      refine go_nil ?_
      refine gq_next ?_
      refine gc_seq ?_
      refine gc_region ?_
      refine ne (eo_field rfl f24_0 rfl) rfl ?_
      refine ne (eo_load 2 rfl s3 rfl rfl rfl rfl) rfl ?_
      refine ne (eo_mv rfl rfl) rfl ?_
      refine go_nil ?_
      refine gq_next ?_
      refine gc_block ?_
      refine loop3 (fun (x : Nat) (row : Int) (s1 : Nat → Int) => (x : Int) ≤ W ∧ row = rowS (bw f) W y x ∧ ∀ q, q < ((W + 1) * (H + 1)).toNat → s1 q = if (q : Int) < ((y : Int) + 1) * (W + 1) + 1 + x then sumG (bw f) W q else 0) (fun (x : Nat) (row : Int) (s1 : Nat → Int) => (W - x).toNat) (fun (x : Nat) (row : Int) (s1 : Nat → Int) => [(1, .int .i64 r), (2, .pointer (some ⟨g2, 0, none⟩)), (4, .pointer (some ⟨g4, 0, none⟩)), (7, .int .i64 (W + 1)), (8, .slice (some ⟨g37, 0, none⟩) ((((W + 1) * (H + 1))).toNat) ((((W + 1) * (H + 1))).toNat)), (9, .int .i64 (y : Int)), (10, .int .i64 row), (39, .int .i64 H), (40, .int .i64 (y : Int)), (44, .int .i64 W), (45, .int .i64 (x : Int))]) (fun (x : Nat) (row : Int) (s1 : Nat → Int) => [⟨g37, 3, tab ((((W + 1) * (H + 1))).toNat) (iv .i64 s1) ++ []⟩, ⟨g4, 24, [.int .i64 0, .int .i64 0, .slice none 0 0]⟩, ⟨g2, 24, [.int .i64 W, .int .i64 H, .slice A n c]⟩]) 0 0 s1 ⟨by omega, rfl, fill_to (sumG_row (by omega) rfl hI) (by simp)⟩ ⟨rfl, rfl, rfl, rfl, rfl, rfl, rfl, rfl, rfl, rfl, rfl, trivial⟩ (List.Sublist.refl _) ?_
      rintro x row s1 ⟨hx, hrow, hI⟩
      have hrb := rowS_z (g := bw f) (W := W) (hi := 1) (y := y) (x := x) (fun _ => bw_bd)
      refine gc_seq ?_
      refine gc_region ?_
      refine ne (eo_lss rfl rfl rfl) rfl ?_
      refine go_nil ?_
      refine gq_next ?_
      refine gc_seq ?_
      refine gc_cond rfl (fun hc2 => ?_) (fun hc2 => ?_)
      ·
        replace hc2 := of_decide_eq_true hc2
        refine gc_skip ?_
        refine gq_next ?_
        refine gc_seq ?_
        refine gc_block ?_
        refine gc_seq ?_
        refine gc_region ?_
        refine ne (eo_mv rfl rfl) rfl ?_
        refine ne (eo_as rfl rfl) rfl ?_
        refine go_nil ?_
        refine gq_next ?_
        refine gc_seq ?_
        refine gc_seq ?_
        refine gc_region ?_
        refine ne (eo_field rfl f24_2 rfl) rfl ?_
        refine ne (eo_load 2 rfl s22 rfl rfl rfl rfl) rfl ?_
        refine ne (eo_mv rfl rfl) rfl ?_
        refine ne (eo_field rfl f24_0 rfl) rfl ?_
        refine ne (eo_load 2 rfl s3 rfl rfl rfl rfl) rfl ?_
        refine ne (eo_mul rfl rfl rfl (by omega) (by omega)) rfl ?_
        refine ne (eo_mv rfl rfl) rfl ?_
        refine ne (eo_add rfl rfl rfl (by omega) (by omega)) rfl ?_
        refine ne (eo_indexR rfl sl22 rfl rfl hr (by simp) (by omega) (by omega)) rfl ?_
        refine ne (eo_load_old rfl s4 rfl (Rd.tabb hr (by omega)) (by simp)) rfl ?_
        refine go_nil ?_
        refine gq_next ?_
        refine gc_cond rfl (fun hc3 => ?_) (fun hc3 => ?_)
        ·
          refine gc_region ?_
          refine ne (eo_mv rfl rfl) rfl ?_
          refine ne (eo_add rfl rfl rfl (by omega) (by omega)) rfl ?_
          refine ne (eo_as rfl rfl) rfl ?_
          refine go_nil ?_
          refine gq_next ?_
          have hq : s1 ((y : Int) * (W + 1) + (x : Int) + 1).toNat = sumS (bw f) W (y : Int).toNat ((x : Int) + 1).toNat := by
            rw [hI _ (by omega), if_pos (by omega), Int.add_assoc]
            exact sumG_z (by omega) (by omega) (by omega) (by omega)
          have hqb := sumS_z (g := bw f) (W := W) (hi := 1) (y := (y : Int)) (x := (x : Int) + 1) (by omega) (fun _ => bw_bd) (by omega) (by omega) (by omega) (by omega)
          refine gc_region ?_
          refine ne (eo_mv rfl rfl) rfl ?_
          refine ne (eo_mv rfl rfl) rfl ?_
          refine ne (eo_add rfl rfl rfl (by omega) (by omega)) rfl ?_
          refine ne (eo_mv rfl rfl) rfl ?_
          refine ne (eo_mul rfl rfl rfl (by omega) (by omega)) rfl ?_
          refine ne (eo_mv rfl rfl) rfl ?_
          refine ne (eo_add rfl rfl rfl (by omega) (by omega)) rfl ?_
          refine ne (eo_add rfl rfl rfl (by omega) (by omega)) rfl ?_
          refine ne (eo_mv rfl rfl) rfl ?_
          refine ne (eo_mv rfl rfl) rfl ?_
          refine ne (eo_mv rfl rfl) rfl ?_
          refine ne (eo_mul rfl rfl rfl (by omega) (by omega)) rfl ?_
          refine ne (eo_mv rfl rfl) rfl ?_
          refine ne (eo_add rfl rfl rfl (by omega) (by omega)) rfl ?_
          refine ne (eo_add rfl rfl rfl (by omega) (by omega)) rfl ?_
          refine ne (eo_index0 rfl sl53 rfl rfl (by omega) (by omega)) rfl ?_
          refine ne (eo_geti 0 rfl s3 rfl rfl (by omega)) rfl ?_
          refine ne (eo_mv rfl rfl) rfl ?_
          refine ne (eo_add rfl rfl rfl (by omega) (by omega)) rfl ?_
          refine ne (eo_index0 rfl sl53 rfl rfl (by omega) (by omega)) rfl ?_
          refine nu (xo_seti 0 rfl s3 rfl rfl rfl (by omega)) ?_
          rintro _ _ ⟨rfl, rfl⟩
          refine go_nil ?_
          refine gq_block_end ?_
          refine gq_next ?_
          refine gc_region ?_
          refine ne (eo_add rfl rfl rfl (by omega) (by omega)) rfl ?_
          refine ne (eo_mv rfl rfl) rfl ?_
          refine go_nil ?_
          exact round3 (x + 1) (row + 1) (upd s1 (((((((y : Int) + 1) * (W + 1)) + (x : Int)) + 1)).toNat) ((s1 ((((((y : Int) * (W + 1)) + (x : Int)) + 1)).toNat)) + (row + 1))) ⟨by omega, by rw [rowS_succ, ← hrow, bw_t hc3], fill_to (fill_up hI (by omega) (sum_at hq (by omega) (by omega) (by rw [rowS_succ, ← hrow, bw_t hc3]))) (by push_cast; omega)⟩ (by omega) ⟨rfl, rfl, rfl, rfl, rfl, rfl, rfl, rfl, rfl, rfl, rfl, trivial⟩ (List.Sublist.refl _)
        ·
          refine gc_skip ?_
          refine gq_next ?_
          have hq : s1 ((y : Int) * (W + 1) + (x : Int) + 1).toNat = sumS (bw f) W (y : Int).toNat ((x : Int) + 1).toNat := by
            rw [hI _ (by omega), if_pos (by omega), Int.add_assoc]
            exact sumG_z (by omega) (by omega) (by omega) (by omega)
          have hqb := sumS_z (g := bw f) (W := W) (hi := 1) (y := (y : Int)) (x := (x : Int) + 1) (by omega) (fun _ => bw_bd) (by omega) (by omega) (by omega) (by omega)
          refine gc_region ?_
          refine ne (eo_mv rfl rfl) rfl ?_
          refine ne (eo_mv rfl rfl) rfl ?_
          refine ne (eo_add rfl rfl rfl (by omega) (by omega)) rfl ?_
          refine ne (eo_mv rfl rfl) rfl ?_
          refine ne (eo_mul rfl rfl rfl (by omega) (by omega)) rfl ?_
          refine ne (eo_mv rfl rfl) rfl ?_
          refine ne (eo_add rfl rfl rfl (by omega) (by omega)) rfl ?_
          refine ne (eo_add rfl rfl rfl (by omega) (by omega)) rfl ?_
          refine ne (eo_mv rfl rfl) rfl ?_
          refine ne (eo_mv rfl rfl) rfl ?_
          refine ne (eo_mv rfl rfl) rfl ?_
          refine ne (eo_mul rfl rfl rfl (by omega) (by omega)) rfl ?_
          refine ne (eo_mv rfl rfl) rfl ?_
          refine ne (eo_add rfl rfl rfl (by omega) (by omega)) rfl ?_
          refine ne (eo_add rfl rfl rfl (by omega) (by omega)) rfl ?_
          refine ne (eo_index0 rfl sl53 rfl rfl (by omega) (by omega)) rfl ?_
          refine ne (eo_geti 0 rfl s3 rfl rfl (by omega)) rfl ?_
          refine ne (eo_mv rfl rfl) rfl ?_
          refine ne (eo_add rfl rfl rfl (by omega) (by omega)) rfl ?_
          refine ne (eo_index0 rfl sl53 rfl rfl (by omega) (by omega)) rfl ?_
          refine nu (xo_seti 0 rfl s3 rfl rfl rfl (by omega)) ?_
          rintro _ _ ⟨rfl, rfl⟩
          refine go_nil ?_
          refine gq_block_end ?_
          refine gq_next ?_
          refine gc_region ?_
          refine ne (eo_add rfl rfl rfl (by omega) (by omega)) rfl ?_
          refine ne (eo_mv rfl rfl) rfl ?_
          refine go_nil ?_
          exact round3 (x + 1) row (upd s1 (((((((y : Int) + 1) * (W + 1)) + (x : Int)) + 1)).toNat) ((s1 ((((((y : Int) * (W + 1)) + (x : Int)) + 1)).toNat)) + row)) ⟨by omega, by rw [rowS_succ, ← hrow, bw_f hc3]; omega, fill_to (fill_up hI (by omega) (sum_at hq (by omega) (by omega) (by rw [rowS_succ, ← hrow, bw_f hc3]; omega))) (by push_cast; omega)⟩ (by omega) ⟨rfl, rfl, rfl, rfl, rfl, rfl, rfl, rfl, rfl, rfl, rfl, trivial⟩ (List.Sublist.refl _)
      ·
        replace hc2 := of_decide_eq_false hc2
        refine gc_exit ?_
        refine gq_then_exit ?_
        refine gq_then_exit ?_
        refine gq_block_hit ?_
        refine gq_block_end ?_
        refine gq_next ?_
        refine gc_region ?_
        refine ne (eo_add rfl rfl rfl (by omega) (by omega)) rfl ?_
        refine ne (eo_mv rfl rfl) rfl ?_
        refine go_nil ?_
        exact round2 (y + 1) s1 ⟨by omega, fill_to hI (by push_cast; rw [add1_mul (a := (y : Int) + 1)]; omega)⟩ (by omega) ⟨rfl, rfl, rfl, rfl, rfl, rfl, rfl, trivial⟩ (List.Sublist.refl _)
    ·
      replace hc1 := of_decide_eq_false hc1
      rw [show tab ((W + 1) * (H + 1)).toNat (iv .i64 s1) = tab ((W + 1) * (H + 1)).toNat (iv .i64 (sumG (bw f) W)) from tabi_ext (fun q hq => by rw [hI q hq, if_pos (by rw [show (y : Int) = H by omega, Int.mul_comm (H + 1)]; omega)])]
      refine gc_exit ?_
      refine gq_then_exit ?_
      refine gq_then_exit ?_
      refine gq_block_hit ?_
      refine gq_next ?_
      refine gc_seq ?_
      refine gc_draw_new (i := 9) (d := 12) [] [0, 1, 2, 3, 4, 5, 6] [7, 8] [10] (by kernel_rfl) (by kernel_rfl) rfl z24 rfl ?_
      refine gp_nil ?_
      refine de rfl (eo_field rfl f24_0 rfl) rfl ?_
      refine de rfl (eo_load 2 rfl s3 rfl rfl rfl rfl) rfl ?_
      refine de rfl (eo_field rfl f24_1 rfl) rfl ?_
      refine de rfl (eo_load 2 rfl s3 rfl rfl rfl rfl) rfl ?_
      refine de rfl (eo_field rfl f24_2 rfl) rfl ?_
      refine de rfl (eo_load 2 rfl s22 rfl rfl rfl rfl) rfl ?_
      refine de rfl (eo_len rfl Try.underlying22 rfl) rfl ?_
      refine ge_nil ?_
      refine ⟨rfl, ?_⟩
      refine da rfl (xo_makeb rfl Try.underlying22 e4 rfl rfl (by omega) (by omega) (by omega)) rfl ?_
      rintro _ _ ⟨g89, rfl, rfl⟩
      refine ⟨by first | exact (List.Sublist.cons _ (List.Sublist.refl _)) | exact (List.sublist_append_left _ _), ?_⟩
      refine da rfl (xo_of_eo (eo_build rfl rfl (b24_012 _ _ _ _ _))) rfl ?_
      rintro _ _ ⟨rfl, rfl⟩
      refine ⟨by first | exact (List.Sublist.cons _ (List.Sublist.refl _)) | exact (List.sublist_append_left _ _), ?_⟩
      refine ga_nil ?_
      intro g12
      refine iu rfl (xo_storeA 0 rfl a24 rfl rfl (ones_cons (by first | rfl | exact AS.one) (ones_cons (by first | rfl | exact AS.one) (ones_cons (by first | rfl | exact AS.one) ones_nil))) rfl rfl rfl rfl) ?_
      rintro _ _ ⟨rfl, rfl⟩
      refine gi_nil ?_
      refine gq_nq ?_
      refine gq_next ?_
      refine gc_seq ?_
      refine gc_region ?_
      refine ne (eo_mv rfl rfl) rfl ?_
      refine ne (eo_mul rfl rfl rfl (by omega) (by omega)) rfl ?_
      refine ne (eo_add rfl rfl rfl (by omega) (by omega)) rfl ?_
      refine ne (eo_mv rfl rfl) rfl ?_
      refine ne (eo_mul rfl rfl rfl (by omega) (by omega)) rfl ?_
      refine ne (eo_add rfl rfl rfl (by omega) (by omega)) rfl ?_
      refine ne (eo_mul rfl rfl rfl (by omega) (by omega)) rfl ?_
      refine ne (eo_as rfl rfl) rfl ?_
      refine go_nil ?_
      refine gq_next ?_
      refine gc_seq ?_
      refine gc_seq ?_
      refine gc_region ?_
      refine ne (eo_field rfl f24_1 rfl) rfl ?_
      refine ne (eo_load 4 rfl s3 rfl rfl rfl rfl) rfl ?_
      refine ne (eo_mv rfl rfl) rfl ?_
      refine go_nil ?_
      refine gq_next ?_
      refine gc_block ?_
      refine loop2 (fun (y : Nat) (f1 : Nat → Bool) => (y : Int) ≤ H ∧ ∀ j, j < n → f1 j = if (j : Int) < y * W then majF ⟨W, H, n, f⟩ r j else false) (fun (y : Nat) (f1 : Nat → Bool) => (H - y).toNat) (fun (y : Nat) (f1 : Nat → Bool) => [(1, .int .i64 r), (2, .pointer (some ⟨g2, 0, none⟩)), (4, .pointer (some ⟨g4, 0, none⟩)), (7, .int .i64 (W + 1)), (8, .slice (some ⟨g37, 0, none⟩) ((((W + 1) * (H + 1))).toNat) ((((W + 1) * (H + 1))).toNat)), (12, .pointer (some ⟨g12, 0, none⟩)), (13, .int .i64 (((2 * r) + 1) * ((2 * r) + 1))), (99, .int .i64 H), (100, .int .i64 (y : Int))]) (fun (y : Nat) (f1 : Nat → Bool) => [⟨g12, 24, [.int .i64 W, .int .i64 H, .slice (some ⟨g89, 0, none⟩) n n]⟩, ⟨g89, 4, tab n (bv f1) ++ []⟩, ⟨g37, 3, tab ((((W + 1) * (H + 1))).toNat) (iv .i64 (sumG (bw f) W)) ++ []⟩, ⟨g4, 24, [.int .i64 0, .int .i64 0, .slice none 0 0]⟩, ⟨g2, 24, [.int .i64 W, .int .i64 H, .slice A n c]⟩]) 0 (fun _ => false) ⟨by omega, fill_new (by simp)⟩ ⟨rfl, rfl, rfl, rfl, rfl, rfl, rfl, rfl, rfl, trivial⟩ (List.Sublist.refl _) ?_
      rintro y f1 ⟨hy, hI⟩
      refine gc_seq ?_
      refine gc_region ?_
      refine ne (eo_lss rfl rfl rfl) rfl ?_
      refine go_nil ?_
      refine gq_next ?_
      refine gc_seq ?_
      refine gc_cond rfl (fun hc4 => ?_) (fun hc4 => ?_)
      ·
        replace hc4 := of_decide_eq_true hc4
        have hb0 := idx_bd (W := W) (H := H) (x := 0) (y := (y : Int)) (by omega) (by omega) (by omega) (by omega)
        have hty := idx_bd (W := W + 1) (H := H + 1) (x := 0) (y := max 0 ((y : Int) - r)) (by omega) (by omega) (by omega) (by omega)
        have hby := idx_bd (W := W + 1) (H := H + 1) (x := 0) (y := min H ((y : Int) + r + 1)) (by omega) (by omega) (by omega) (by omega)
        refine gc_skip ?_
        refine gq_next ?_
        refine gc_seq ?_
        refine gc_block ?_
        refine gc_seq ?_
        refine gc_region ?_
        refine ne (eo_mv rfl rfl) rfl ?_
        refine ne (eo_as rfl rfl) rfl ?_
        refine go_nil ?_
        refine gq_next ?_
        refine gc_seq ?_
        refine gc_draw [] [0, 1, 2, 3, 4, 5, 6, 7, 8, 9, 10, 11, 12, 13, 14, 15, 16] [] [] (by kernel_rfl) (by kernel_rfl) ?_
        refine gp_nil ?_
        refine de rfl (eo_mv rfl rfl) rfl ?_
        refine de rfl (eo_mv rfl rfl) rfl ?_
        refine de rfl (eo_sub rfl rfl rfl (by omega) (by omega)) rfl ?_
        refine de rfl (eo_max rfl rfl rfl) rfl ?_
        refine de rfl (eo_mv rfl rfl) rfl ?_
        refine de rfl (eo_mul rfl rfl rfl (by omega) (by omega)) rfl ?_
        refine de rfl (eo_field rfl f24_1 rfl) rfl ?_
        refine de rfl (eo_load 4 rfl s3 rfl rfl rfl rfl) rfl ?_
        refine de rfl (eo_mv rfl rfl) rfl ?_
        refine de rfl (eo_mv rfl rfl) rfl ?_
        refine de rfl (eo_add rfl rfl rfl (by omega) (by omega)) rfl ?_
        refine de rfl (eo_add rfl rfl rfl (by omega) (by omega)) rfl ?_
        refine de rfl (eo_min rfl rfl rfl) rfl ?_
        refine de rfl (eo_mv rfl rfl) rfl ?_
        refine de rfl (eo_mul rfl rfl rfl (by omega) (by omega)) rfl ?_
        refine de rfl (eo_as rfl rfl) rfl ?_
        refine de rfl (eo_as rfl rfl) rfl ?_
        refine ge_nil ?_
        refine ga_nil ?_
        refine gi_nil ?_
        refine gq_nq ?_
        refine gq_next ?_
        refine gc_seq ?_
        refine gc_region ?_
        refine ne (eo_field rfl f24_0 rfl) rfl ?_
        refine ne (eo_load 4 rfl s3 rfl rfl rfl rfl) rfl ?_
        refine ne (eo_mv rfl rfl) rfl ?_
        refine go_nil ?_
        refine gq_next ?_
        refine gc_block ?_
        refine loop2 (fun (x : Nat) (f1 : Nat → Bool) => (x : Int) ≤ W ∧ ∀ j, j < n → f1 j = if (j : Int) < y * W + x then majF ⟨W, H, n, f⟩ r j else false) (fun (x : Nat) (f1 : Nat → Bool) => (W - x).toNat) (fun (x : Nat) (f1 : Nat → Bool) => [(1, .int .i64 r), (2, .pointer (some ⟨g2, 0, none⟩)), (4, .pointer (some ⟨g4, 0, none⟩)), (7, .int .i64 (W + 1)), (8, .slice (some ⟨g37, 0, none⟩) ((((W + 1) * (H + 1))).toNat) ((((W + 1) * (H + 1))).toNat)), (12, .pointer (some ⟨g12, 0, none⟩)), (13, .int .i64 (((2 * r) + 1) * ((2 * r) + 1))), (14, .int .i64 (y : Int)), (15, .int .i64 ((max 0 ((y : Int) - r)) * (W + 1))), (16, .int .i64 ((min H (((y : Int) + r) + 1)) * (W + 1))), (99, .int .i64 H), (100, .int .i64 (y : Int)), (119, .int .i64 W), (120, .int .i64 (x : Int))]) (fun (x : Nat) (f1 : Nat → Bool) => [⟨g12, 24, [.int .i64 W, .int .i64 H, .slice (some ⟨g89, 0, none⟩) n n]⟩, ⟨g89, 4, tab n (bv f1) ++ []⟩, ⟨g37, 3, tab ((((W + 1) * (H + 1))).toNat) (iv .i64 (sumG (bw f) W)) ++ []⟩, ⟨g4, 24, [.int .i64 0, .int .i64 0, .slice none 0 0]⟩, ⟨g2, 24, [.int .i64 W, .int .i64 H, .slice A n c]⟩]) 0 f1 ⟨by omega, fill_to hI (by simp)⟩ ⟨rfl, rfl, rfl, rfl, rfl, rfl, rfl, rfl, rfl, rfl, rfl, rfl, rfl, rfl, trivial⟩ (List.Sublist.refl _) ?_
        rintro x f1 ⟨hx, hI⟩
        refine gc_seq ?_
        refine gc_region ?_
        refine ne (eo_lss rfl rfl rfl) rfl ?_
        refine go_nil ?_
        refine gq_next ?_
        refine gc_seq ?_
        refine gc_cond rfl (fun hc5 => ?_) (fun hc5 => ?_)
        ·
          replace hc5 := of_decide_eq_true hc5
          have e1 := sumG_z (g := bw f) (W := W) (y := (min H (y + r + 1))) (x := (min W (x + r + 1))) (by omega) (by omega) (by omega) (by omega)
          have b1 := sumS_z (g := bw f) (W := W) (hi := 1) (y := (min H (y + r + 1))) (x := (min W (x + r + 1))) (by omega) (fun _ => bw_bd) (by omega) (by omega) (by omega) (by omega)
          have i1 := idx_bd (W := W + 1) (H := H + 1) (x := (min W (x + r + 1))) (y := (min H (y + r + 1))) (by omega) (by omega) (by omega) (by omega)
          have e2 := sumG_z (g := bw f) (W := W) (y := (min H (y + r + 1))) (x := (max 0 (x - r))) (by omega) (by omega) (by omega) (by omega)
          have b2 := sumS_z (g := bw f) (W := W) (hi := 1) (y := (min H (y + r + 1))) (x := (max 0 (x - r))) (by omega) (fun _ => bw_bd) (by omega) (by omega) (by omega) (by omega)
          have i2 := idx_bd (W := W + 1) (H := H + 1) (x := (max 0 (x - r))) (y := (min H (y + r + 1))) (by omega) (by omega) (by omega) (by omega)
          have e3 := sumG_z (g := bw f) (W := W) (y := (max 0 (y - r))) (x := (min W (x + r + 1))) (by omega) (by omega) (by omega) (by omega)
          have b3 := sumS_z (g := bw f) (W := W) (hi := 1) (y := (max 0 (y - r))) (x := (min W (x + r + 1))) (by omega) (fun _ => bw_bd) (by omega) (by omega) (by omega) (by omega)
          have i3 := idx_bd (W := W + 1) (H := H + 1) (x := (min W (x + r + 1))) (y := (max 0 (y - r))) (by omega) (by omega) (by omega) (by omega)
          have e4 := sumG_z (g := bw f) (W := W) (y := (max 0 (y - r))) (x := (max 0 (x - r))) (by omega) (by omega) (by omega) (by omega)
          have b4 := sumS_z (g := bw f) (W := W) (hi := 1) (y := (max 0 (y - r))) (x := (max 0 (x - r))) (by omega) (fun _ => bw_bd) (by omega) (by omega) (by omega) (by omega)
          have i4 := idx_bd (W := W + 1) (H := H + 1) (x := (max 0 (x - r))) (y := (max 0 (y - r))) (by omega) (by omega) (by omega) (by omega)
          refine gc_skip ?_
          refine gq_next ?_
          refine gc_seq ?_
          refine gc_block ?_
          refine gc_seq ?_
          refine gc_region ?_
          refine ne (eo_mv rfl rfl) rfl ?_
          refine ne (eo_as rfl rfl) rfl ?_
          refine go_nil ?_
          refine gq_next ?_
          refine gc_seq ?_
          refine gc_draw [] [0, 1, 2, 3, 4, 5, 6, 7, 8, 9, 10, 11, 12] [] [] (by kernel_rfl) (by kernel_rfl) ?_
          refine gp_nil ?_
          refine de rfl (eo_mv rfl rfl) rfl ?_
          refine de rfl (eo_mv rfl rfl) rfl ?_
          refine de rfl (eo_sub rfl rfl rfl (by omega) (by omega)) rfl ?_
          refine de rfl (eo_max rfl rfl rfl) rfl ?_
          refine de rfl (eo_field rfl f24_0 rfl) rfl ?_
          refine de rfl (eo_load 4 rfl s3 rfl rfl rfl rfl) rfl ?_
          refine de rfl (eo_mv rfl rfl) rfl ?_
          refine de rfl (eo_mv rfl rfl) rfl ?_
          refine de rfl (eo_add rfl rfl rfl (by omega) (by omega)) rfl ?_
          refine de rfl (eo_add rfl rfl rfl (by omega) (by omega)) rfl ?_
          refine de rfl (eo_min rfl rfl rfl) rfl ?_
          refine de rfl (eo_as rfl rfl) rfl ?_
          refine de rfl (eo_as rfl rfl) rfl ?_
          refine ge_nil ?_
          refine ga_nil ?_
          refine gi_nil ?_
          refine gq_nq ?_
          refine gq_next ?_
          refine gc_seq ?_
          refine gc_draw [] [0, 1, 2, 3, 4, 5, 6, 7, 8, 9, 10, 11, 12, 13, 14, 15, 16, 17, 18, 19, 20, 21, 22, 23, 24, 25, 26, 27] [] [] (by kernel_rfl) (by kernel_rfl) ?_
          refine gp_nil ?_
          refine de rfl (eo_mv rfl rfl) rfl ?_
          refine de rfl (eo_mv rfl rfl) rfl ?_
          refine de rfl (eo_mv rfl rfl) rfl ?_
          refine de rfl (eo_add rfl rfl rfl (by omega) (by omega)) rfl ?_
          refine de rfl (eo_index0 rfl sl53 rfl rfl (by omega) (by omega)) rfl ?_
          refine de rfl (eo_geti 2 rfl s3 rfl rfl (by omega)) rfl ?_
          refine de rfl (eo_mv rfl rfl) rfl ?_
          refine de rfl (eo_mv rfl rfl) rfl ?_
          refine de rfl (eo_mv rfl rfl) rfl ?_
          refine de rfl (eo_add rfl rfl rfl (by omega) (by omega)) rfl ?_
          refine de rfl (eo_index0 rfl sl53 rfl rfl (by omega) (by omega)) rfl ?_
          refine de rfl (eo_geti 2 rfl s3 rfl rfl (by omega)) rfl ?_
          refine de rfl (eo_sub rfl rfl rfl (by omega) (by omega)) rfl ?_
          refine de rfl (eo_mv rfl rfl) rfl ?_
          refine de rfl (eo_mv rfl rfl) rfl ?_
          refine de rfl (eo_mv rfl rfl) rfl ?_
          refine de rfl (eo_add rfl rfl rfl (by omega) (by omega)) rfl ?_
          refine de rfl (eo_index0 rfl sl53 rfl rfl (by omega) (by omega)) rfl ?_
          refine de rfl (eo_geti 2 rfl s3 rfl rfl (by omega)) rfl ?_
          refine de rfl (eo_sub rfl rfl rfl (by omega) (by omega)) rfl ?_
          refine de rfl (eo_mv rfl rfl) rfl ?_
          refine de rfl (eo_mv rfl rfl) rfl ?_
          refine de rfl (eo_mv rfl rfl) rfl ?_
          refine de rfl (eo_add rfl rfl rfl (by omega) (by omega)) rfl ?_
          refine de rfl (eo_index0 rfl sl53 rfl rfl (by omega) (by omega)) rfl ?_
          refine de rfl (eo_geti 2 rfl s3 rfl rfl (by omega)) rfl ?_
          refine de rfl (eo_add rfl rfl rfl (by omega) (by omega)) rfl ?_
          refine de rfl (eo_as rfl rfl) rfl ?_
          refine ge_nil ?_
          refine ga_nil ?_
          refine gi_nil ?_
          refine gq_nq ?_
          refine gq_next ?_
          refine gc_region ?_
          refine ne (eo_field rfl f24_2 rfl) rfl ?_
          refine ne (eo_load 0 rfl s22 rfl rfl rfl rfl) rfl ?_
          refine ne (eo_mv rfl rfl) rfl ?_
          refine ne (eo_field rfl f24_0 rfl) rfl ?_
          refine ne (eo_load 4 rfl s3 rfl rfl rfl rfl) rfl ?_
          refine ne (eo_mul rfl rfl rfl (by omega) (by omega)) rfl ?_
          refine ne (eo_mv rfl rfl) rfl ?_
          refine ne (eo_add rfl rfl rfl (by omega) (by omega)) rfl ?_
          refine ne (eo_mv rfl rfl) rfl ?_
          refine ne (eo_mul rfl rfl rfl (by omega) (by omega)) rfl ?_
          refine ne (eo_mv rfl rfl) rfl ?_
          refine ne (eo_gtr rfl rfl rfl) rfl ?_
          refine ne (eo_index0 rfl sl22 rfl rfl (by omega) (by omega)) rfl ?_
          refine nu (xo_setb 1 rfl s4 rfl rfl rfl (by omega)) ?_
          rintro _ _ ⟨rfl, rfl⟩
          refine go_nil ?_
          refine gq_block_end ?_
          refine gq_next ?_
          refine gc_region ?_
          refine ne (eo_add rfl rfl rfl (by omega) (by omega)) rfl ?_
          refine ne (eo_mv rfl rfl) rfl ?_
          refine go_nil ?_
          exact round2 (x + 1) (upd f1 (((((y : Int) * W) + (x : Int))).toNat) (decide ((((2 * r) + 1) * ((2 * r) + 1)) < (2 * (((((sumG (bw f) W) (((((min H (((y : Int) + r) + 1)) * (W + 1)) + (min W (((x : Int) + r) + 1)))).toNat)) - ((sumG (bw f) W) (((((min H (((y : Int) + r) + 1)) * (W + 1)) + (max 0 ((x : Int) - r)))).toNat))) - ((sumG (bw f) W) (((((max 0 ((y : Int) - r)) * (W + 1)) + (min W (((x : Int) + r) + 1)))).toNat))) + ((sumG (bw f) W) (((((max 0 ((y : Int) - r)) * (W + 1)) + (max 0 ((x : Int) - r)))).toNat))))))) ⟨by omega, fill_to (fill_up hI (by omega) (maj_at (by omega) (by omega) (by omega) e1 e2 e3 e4)) (by push_cast; omega)⟩ (by omega) ⟨rfl, rfl, rfl, rfl, rfl, rfl, rfl, rfl, rfl, rfl, rfl, rfl, rfl, rfl, trivial⟩ (List.Sublist.refl _)
        ·
          replace hc5 := of_decide_eq_false hc5
          refine gc_exit ?_
          refine gq_then_exit ?_
          refine gq_then_exit ?_
          refine gq_block_hit ?_
          refine gq_block_end ?_
          refine gq_next ?_
          refine gc_region ?_
          refine ne (eo_add rfl rfl rfl (by omega) (by omega)) rfl ?_
          refine ne (eo_mv rfl rfl) rfl ?_
          refine go_nil ?_
          exact round2 (y + 1) f1 ⟨by omega, fill_to hI (by push_cast; rw [add1_mul]; omega)⟩ (by omega) ⟨rfl, rfl, rfl, rfl, rfl, rfl, rfl, rfl, rfl, trivial⟩ (List.Sublist.refl _)
      ·
        replace hc4 := of_decide_eq_false hc4
        refine gc_exit ?_
        refine gq_then_exit ?_
        refine gq_then_exit ?_
        refine gq_block_hit ?_
        refine gq_next ?_
        refine gc_seq ?_
        refine gc_region ?_
        refine ne (eo_loadA 0 rfl a24 rfl rfl rfl rfl) rfl ?_
        refine nu (xo_storeA 3 rfl a24 rfl rfl (ones_cons (by first | rfl | exact AS.one) (ones_cons (by first | rfl | exact AS.one) (ones_cons (by first | rfl | exact AS.one) ones_nil))) rfl rfl rfl rfl) ?_
        rintro _ _ ⟨rfl, rfl⟩
        refine ne (eo_as rfl rfl) rfl ?_
        refine go_nil ?_
        refine gq_next ?_
        refine gc_ret ?_
        refine gq_results (resCT 3 rfl a24 rfl rfl rfl rfl rfl) ?_
        exact fun W1 hO => rx_own 1 hO rfl (if_pos (Decidable.not_not.1 hc0)) (fill_end hI (by rw [show (y : Int) = H by omega, Int.mul_comm H]; omega)) (by omega)

end Go.Proofs.Ytmkdfbaklookdaa
