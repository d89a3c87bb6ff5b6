/-
  The walks of the functions of package printing and of the document's answer (part J): what each call returns, at every argument.
-/
import Derived.Test.YtibooikbbcilcaaWE
import Derived.Test.YtibooikbbcilcaaPm
namespace Go.Proofs.Ytibooikbbcilcaa
open Go.RowKit Go.Eng

open Go.Bs
theorem en14 : Ent Try.prog 14 := ent_of Try.func14 (by kernel_rfl) rfl
theorem en10 : Ent Try.prog 10 := ent_of Try.func10 (by kernel_rfl) rfl

/-- barscan/barscanlaw43.PrintingModules -/
theorem lmod_c (W H : Int) (A : Option Addr) (n c : Nat) (f : Nat → Bool) (sc : Int) (qu : Int) (w : World) (hr : Rd w A (tab n (bv f))) (c0 : 0 ≤ sc) (c1 : sc ≤ 255) (q0 : 0 ≤ qu) (q9 : qu ≤ 255) :
    Calls Try.prog 4 #[.agg #[.int .i64 W, .int .i64 H, .slice A n c], .int .u8 sc, .int .u8 qu] w (fun e w' => e = .returned (.bool true) ∧ Ext w w') := by
  refine calls_enter (N := ⟨155, []⟩) [] ([]) Try.func4 rfl rfl rfl (Ow.start _) ?_
  refine gc_seq ?_
  refine gc_region ?_
  refine nx (xo_boxA rfl rfl) rfl ?_
  rintro _ _ ⟨g3, rfl, rfl⟩
  refine ne (eo_as rfl rfl) rfl ?_
  refine go_nil ?_
  refine gq_next ?_
  refine gc_seq ?_
  refine gc_region ?_
  refine ne (eo_mv rfl rfl) rfl ?_
  refine ne (eo_remk rfl rfl rfl (by omega) (by omega)) rfl ?_
  refine ne (eo_convi rfl rfl ⟨_, Try.underlying5⟩ Try.underlying3 (by omega) (by omega)) rfl ?_
  refine ne (eo_add rfl rfl rfl (by omega) (by omega)) rfl ?_
  refine ne (eo_mv rfl rfl) rfl ?_
  refine ne (eo_remk rfl rfl rfl (by omega) (by omega)) rfl ?_
  refine ne (eo_convi rfl rfl ⟨_, Try.underlying5⟩ Try.underlying3 (by omega) (by omega)) rfl ?_
  refine ne (eo_as rfl rfl) rfl ?_
  refine ne (eo_as rfl rfl) rfl ?_
  refine go_nil ?_
  refine gq_next ?_
  refine gc_seq ?_
  refine gc_seq ?_
  refine gc_region ?_
  refine ne (eo_loadA 0 rfl a33 rfl rfl rfl rfl) rfl ?_
  refine ne (eo_call rfl en14 rfl (fun W1 hO => valid43_c _ _ _ _ _ _ _ W1 (hr.old0 hO) )) rfl ?_
  refine ne (eo_not rfl rfl) rfl ?_
  refine go_nil ?_
  refine gq_next ?_
  refine gc_cond rfl (fun hc0 => ?_) (fun hc0 => ?_)
  ·
    have hd0 := (not_t hc0)
    refine gc_seq ?_
    refine gc_region ?_
    refine ne (eo_call rfl en10 rfl (fun W1 hO => exam43_c W1  )) rfl ?_
    refine ne (eo_as rfl rfl) rfl ?_
    refine go_nil ?_
    refine gq_next ?_
    refine gc_ret ?_
    refine gq_then_ret ?_
    refine gq_results (res1 rfl rfl) ?_
    exact fun W1 hO => ⟨rfl, hO.toExt⟩
  ·
    have hd0 := (not_f hc0)
    obtain ⟨hv, hn1⟩ := val43_vld (not_f hc0) (by omega)
    obtain ⟨hw4, hh4⟩ := val43_side (not_f hc0)
    obtain ⟨v1, v2, v3, v4, v5, v6⟩ := vldB_iff.1 hv
    have v7 := vld_pos hv
    have s1 : 1 ≤ (sc % 8 + 1) ∧ (sc % 8 + 1) ≤ 8 := by omega
    have q1 : 0 ≤ (qu % 9) ∧ (qu % 9) ≤ 8 := by omega
    have hfit := ren_small (s := (sc % 8 + 1)) (q := (qu % 9)) hv hn1 hw4 hh4 s1.1 s1.2 q1.1 q1.2
    have hR := renR_ok (f := f) hv (optB_iff.2 (show 1 ≤ (sc % 8 + 1) ∧ (sc % 8 + 1) ≤ 64 ∧ 0 ≤ (qu % 9) ∧ (qu % 9) ≤ 64 by omega)) hfit
    have hss := ss_bd s1.1 s1.2
    have hRn : (renR ⟨W, H, n, f⟩ (sc % 8 + 1) (qu % 9)).1.n = ((W + 2 * (qu % 9)) * (sc % 8 + 1) * ((H + 2 * (qu % 9)) * (sc % 8 + 1))).toNat := by rw [hR]
    have hRW : (renR ⟨W, H, n, f⟩ (sc % 8 + 1) (qu % 9)).1.W = (W + 2 * (qu % 9)) * (sc % 8 + 1) := by rw [hR]
    have hRH : (renR ⟨W, H, n, f⟩ (sc % 8 + 1) (qu % 9)).1.H = (H + 2 * (qu % 9)) * (sc % 8 + 1) := by rw [hR]
    have hRf : (renR ⟨W, H, n, f⟩ (sc % 8 + 1) (qu % 9)).1.f = renP W H f (sc % 8 + 1) (qu % 9) n := by rw [hR]
    have hRP : (renR ⟨W, H, n, f⟩ (sc % 8 + 1) (qu % 9)).1.W * (renR ⟨W, H, n, f⟩ (sc % 8 + 1) (qu % 9)).1.H = (W + 2 * (qu % 9)) * (sc % 8 + 1) * ((H + 2 * (qu % 9)) * (sc % 8 + 1)) := by rw [hRW, hRH]
    have hfb := fits_bd hfit
    obtain ⟨f1, f2, f3, f4, f5⟩ := fitsB_iff.1 hfit
    have hcn := ren_cnts (f := f) hv s1.1 q1.1 n (Nat.le_refl _)
    refine gc_skip ?_
    refine gq_next ?_
    refine gc_seq ?_
    refine gc_region ?_
    refine ne (eo_loadA 0 rfl a33 rfl rfl rfl rfl) rfl ?_
    refine ne (eo_mv rfl rfl) rfl ?_
    refine ne (eo_mv rfl rfl) rfl ?_
    refine ne (eo_build rfl rfl (b38_01 _ _)) rfl ?_
    refine nx (xo_freshT rfl en15 rfl (fun W1 hO => render_x _ _ _ _ _ _ _ _ W1 (hr.old0 hO) )) rfl ?_
    rintro _ _ ⟨S33, ⟨A33, k33, rfl, hk33, hS33⟩, rfl⟩
    refine ne (eo_mv rfl rfl) rfl ?_
    refine ne (eo_extract rfl rfl rfl) rfl ?_
    refine ne (eo_extract rfl rfl rfl) rfl ?_
    refine nx (xo_alloc rfl z33) rfl ?_
    rintro _ _ ⟨g9, rfl, rfl⟩
    refine nu (xo_storeA 0 rfl a33 rfl rfl (ones_cons (by first | rfl | exact AS.one) (ones_cons (by first | rfl | exact AS.one) (ones_cons (by first | rfl | exact AS.one) ones_nil))) rfl rfl rfl rfl) ?_
    rintro _ _ ⟨rfl, rfl⟩
    refine ne (eo_as rfl rfl) rfl ?_
    refine go_nil ?_
    refine gq_next ?_
    refine gc_seq ?_
    refine gc_seq ?_
    refine gc_region ?_
    refine ne (eo_mv rfl rfl) rfl ?_
    refine ne (eo_neq rfl rfl rfl) rfl ?_
    refine go_nil ?_
    refine gq_next ?_
    refine gc_cond rfl (fun hc1 => ?_) (fun hc1 => ?_)
    ·
      replace hc1 := of_decide_eq_true hc1
      exact absurd (by rw [hR]) hc1
    ·
      replace hc1 := of_decide_eq_false hc1
      refine gc_skip ?_
      refine gq_next ?_
      refine gc_seq ?_
      refine gc_seq ?_
      refine gc_region ?_
      refine ne (eo_field rfl f33_0 rfl) rfl ?_
      refine ne (eo_load 0 rfl s3 rfl rfl rfl rfl) rfl ?_
      refine ne (eo_field rfl f33_0 rfl) rfl ?_
      refine ne (eo_load 1 rfl s3 rfl rfl rfl rfl) rfl ?_
      refine ne (eo_mv rfl rfl) rfl ?_
      refine ne (eo_mul rfl rfl rfl (by omega) (by omega)) rfl ?_
      refine ne (eo_add rfl rfl rfl (by omega) (by omega)) rfl ?_
      refine ne (eo_mv rfl rfl) rfl ?_
      refine ne (eo_mul rfl rfl rfl (by omega) (by omega)) rfl ?_
      refine ne (eo_neq rfl rfl rfl) rfl ?_
      refine ne (eo_mv rfl rfl) rfl ?_
      refine ng rfl rfl (fun h => eo_field rfl f33_1 rfl) rfl ?_
      refine ng rfl rfl (fun h => eo_load 0 rfl s3 (ev_if h rfl) rfl rfl rfl) rfl ?_
      refine ng rfl rfl (fun h => eo_field rfl f33_1 rfl) rfl ?_
      refine ng rfl rfl (fun h => eo_load 1 rfl s3 (ev_if h rfl) rfl rfl rfl) rfl ?_
      refine ng rfl rfl (fun h => eo_mv rfl rfl) rfl ?_
      refine ng rfl rfl (fun h => eo_mul rfl rfl (ev_if h rfl) (by have hg0 := ne_f h; omega) (by have hg0 := ne_f h; omega)) rfl ?_
      refine ng rfl rfl (fun h => eo_add rfl (ev_if h rfl) (ev_if h rfl) (by have hg0 := ne_f h; omega) (by have hg0 := ne_f h; omega)) rfl ?_
      refine ng rfl rfl (fun h => eo_mv rfl rfl) rfl ?_
      refine ng rfl rfl (fun h => eo_mul rfl (ev_if h rfl) (ev_if h rfl) (by have hg0 := ne_f h; omega) (by have hg0 := ne_f h; omega)) rfl ?_
      refine ng rfl rfl (fun h => eo_neq rfl (ev_if h rfl) (ev_if h rfl)) rfl ?_
      refine ne (eo_or rfl rfl (fun hb => ev_if hb rfl)) rfl ?_
      refine ne (eo_mv rfl rfl) rfl ?_
      refine ng rfl rfl (fun h => eo_field rfl f33_2 rfl) rfl ?_
      refine ng rfl rfl (fun h => eo_load 0 rfl s31 (ev_if h rfl) rfl rfl rfl) rfl ?_
      refine ng rfl rfl (fun h => eo_len rfl Try.underlying31 (ev_if h rfl)) rfl ?_
      refine ng rfl rfl (fun h => eo_field rfl f33_0 rfl) rfl ?_
      refine ng rfl rfl (fun h => eo_load 0 rfl s3 (ev_if h rfl) rfl rfl rfl) rfl ?_
      refine ng rfl rfl (fun h => eo_field rfl f33_1 rfl) rfl ?_
      refine ng rfl rfl (fun h => eo_load 0 rfl s3 (ev_if h rfl) rfl rfl rfl) rfl ?_
      refine ng rfl rfl (fun h => eo_mul rfl (ev_if h rfl) (ev_if h rfl) (by have hg0 := (or_f h).imp (fun h => ne_f h) (fun h => ne_f h); omega) (by have hg0 := (or_f h).imp (fun h => ne_f h) (fun h => ne_f h); omega)) rfl ?_
      refine ng rfl rfl (fun h => eo_neq rfl (ev_if h rfl) (ev_if h rfl)) rfl ?_
      refine ne (eo_or rfl rfl (fun hb => ev_if hb rfl)) rfl ?_
      refine go_nil ?_
      refine gq_next ?_
      refine gc_cond rfl (fun hc2 => ?_) (fun hc2 => ?_)
      ·
        have hd2 := (or_t hc2).imp (fun h => (or_t h).imp (fun h => of_decide_eq_true h) (fun h => of_decide_eq_true h)) (fun h => of_decide_eq_true h)
        exact Bool.noConfusion (hc2.symm.trans (show ((decide ((renR ⟨W, H, n, f⟩ ((sc % 8) + 1) (qu % 9)).1.W ≠ ((W + (2 * (qu % 9))) * ((sc % 8) + 1))) || decide ((renR ⟨W, H, n, f⟩ ((sc % 8) + 1) (qu % 9)).1.H ≠ ((H + (2 * (qu % 9))) * ((sc % 8) + 1)))) || decide ((((renR ⟨W, H, n, f⟩ ((sc % 8) + 1) (qu % 9)).1.n : Nat) : Int) ≠ ((renR ⟨W, H, n, f⟩ ((sc % 8) + 1) (qu % 9)).1.W * (renR ⟨W, H, n, f⟩ ((sc % 8) + 1) (qu % 9)).1.H))) = false from by rw [hR]; simp; omega))
      ·
        have hd2 := (or_f hc2).imp (fun h => (or_f h).imp (fun h => ne_f h) (fun h => ne_f h)) (fun h => ne_f h)
        refine gc_skip ?_
        refine gq_next ?_
        refine gc_seq ?_
        refine gc_region ?_
        refine ne (eo_as rfl rfl) rfl ?_
        refine go_nil ?_
        refine gq_next ?_
        refine gc_seq ?_
        refine gc_seq ?_
        refine gc_region ?_
        refine ne (eo_field rfl f33_2 rfl) rfl ?_
        refine ne (eo_load 1 rfl s31 rfl rfl rfl rfl) rfl ?_
        refine ne (eo_len rfl Try.underlying31 rfl) rfl ?_
        refine ne (eo_mv rfl rfl) rfl ?_
        refine go_nil ?_
        refine gq_next ?_
        refine gc_block ?_
        refine loop2 (fun (i : Nat) (d : Int) => i ≤ n ∧ d = ((sc % 8 + 1) * (sc % 8 + 1)) * sumN (bw f) i) (fun (i : Nat) (d : Int) => n - i) (fun (i : Nat) (d : Int) => [(3, .pointer (some ⟨g3, 0, none⟩)), (7, .int .i64 ((sc % 8) + 1)), (8, .int .i64 (qu % 9)), (9, .pointer (some ⟨g9, 0, none⟩)), (11, .int .i64 d), (87, .slice A n c), (88, .int .i64 ((n : Nat) : Int)), (89, .int .i64 (i : Int))]) (fun (i : Nat) (d : Int) => ⟨g9, 33, [.int .i64 ((renR ⟨W, H, n, f⟩ ((sc % 8) + 1) (qu % 9)).1.W), .int .i64 ((renR ⟨W, H, n, f⟩ ((sc % 8) + 1) (qu % 9)).1.H), .slice A33 ((renR ⟨W, H, n, f⟩ ((sc % 8) + 1) (qu % 9)).1.n) k33]⟩ :: ⟨g3, 33, [.int .i64 W, .int .i64 H, .slice A n c]⟩ :: S33) 0 0 ⟨by omega, by simp [sumN]⟩ ⟨rfl, rfl, rfl, rfl, rfl, rfl, rfl, rfl, trivial⟩ (List.Sublist.refl _) ?_
        rintro i d ⟨hi, hd⟩
        have hcb := cnt_bd (f := f) i
        have hdb : 0 ≤ ((sc % 8 + 1) * (sc % 8 + 1)) * sumN (bw f) i ∧ ((sc % 8 + 1) * (sc % 8 + 1)) * sumN (bw f) i ≤ 64 * 400 := ⟨Int.mul_nonneg (by omega) (by omega), Int.mul_le_mul (by omega) (by omega) (by omega) (by omega)⟩
        refine gc_seq ?_
        refine gc_region ?_
        refine ne (eo_lss rfl rfl rfl) rfl ?_
        refine go_nil ?_
        refine gq_next ?_
        refine gc_seq ?_
        refine gc_cond rfl (fun hc3 => ?_) (fun hc3 => ?_)
        ·
          replace hc3 := of_decide_eq_true hc3
          refine gc_skip ?_
          refine gq_next ?_
          refine gc_seq ?_
          refine gc_block ?_
          refine gc_seq ?_
          refine gc_region ?_
          refine ne (eo_mv rfl rfl) rfl ?_
          refine ne (eo_indexR rfl sl31 rfl rfl hr (by simp) (by omega) (by omega)) rfl ?_
          refine ne (eo_load_old rfl s4 rfl (Rd.tabb hr (by omega)) (by simp)) rfl ?_
          refine ne (eo_as rfl rfl) rfl ?_
          refine ne (eo_as rfl rfl) rfl ?_
          refine go_nil ?_
          refine gq_next ?_
          refine gc_seq ?_
          refine gc_seq ?_
          refine gc_region ?_
          refine ne (eo_mv rfl rfl) rfl ?_
          refine ne (eo_not rfl rfl) rfl ?_
          refine go_nil ?_
          refine gq_next ?_
          refine gc_cond rfl (fun hc4 => ?_) (fun hc4 => ?_)
          ·
            have hd4 := (not_t hc4)
            refine gc_exit ?_
            refine gq_then_exit ?_
            refine gq_block_hit ?_
            refine gq_next ?_
            refine gc_region ?_
            refine ne (eo_add rfl rfl rfl (by omega) (by omega)) rfl ?_
            refine ne (eo_mv rfl rfl) rfl ?_
            refine go_nil ?_
            exact round2 (i + 1) d ⟨by omega, by rw [sumN_step, Int.mul_add, show bw f i = 0 from by have h4 : f i = false := hd4; simp [bw, h4]]; omega⟩ (by omega) ⟨rfl, rfl, rfl, rfl, rfl, rfl, rfl, rfl, trivial⟩ (List.Sublist.refl _)
          ·
            have hd4 := (not_f hc4)
            refine gc_skip ?_
            refine gq_next ?_
            refine gc_seq ?_
            refine gc_region ?_
            refine ne (eo_mv rfl rfl) rfl ?_
            refine ne (eo_mv rfl rfl) rfl ?_
            refine ne (eo_mul rfl rfl rfl (by omega) (by omega)) rfl ?_
            refine ne (eo_mv rfl rfl) rfl ?_
            refine go_nil ?_
            refine gq_next ?_
            refine gc_block ?_
            refine loop2 (fun (k : Nat) (d : Int) => (k : Int) ≤ ((sc % 8 + 1) * (sc % 8 + 1)) ∧ d = ((sc % 8 + 1) * (sc % 8 + 1)) * sumN (bw f) i + k) (fun (k : Nat) (d : Int) => (((sc % 8 + 1) * (sc % 8 + 1)) - k).toNat) (fun (k : Nat) (d : Int) => [(3, .pointer (some ⟨g3, 0, none⟩)), (7, .int .i64 ((sc % 8) + 1)), (8, .int .i64 (qu % 9)), (9, .pointer (some ⟨g9, 0, none⟩)), (11, .int .i64 d), (12, .int .i64 (i : Int)), (87, .slice A n c), (88, .int .i64 ((n : Nat) : Int)), (89, .int .i64 (i : Int)), (98, .int .i64 (((sc % 8) + 1) * ((sc % 8) + 1))), (99, .int .i64 (k : Int))]) (fun (k : Nat) (d : Int) => ⟨g9, 33, [.int .i64 ((renR ⟨W, H, n, f⟩ ((sc % 8) + 1) (qu % 9)).1.W), .int .i64 ((renR ⟨W, H, n, f⟩ ((sc % 8) + 1) (qu % 9)).1.H), .slice A33 ((renR ⟨W, H, n, f⟩ ((sc % 8) + 1) (qu % 9)).1.n) k33]⟩ :: ⟨g3, 33, [.int .i64 W, .int .i64 H, .slice A n c]⟩ :: S33) 0 d ⟨by omega, by omega⟩ ⟨rfl, rfl, rfl, rfl, rfl, rfl, rfl, rfl, rfl, rfl, rfl, trivial⟩ (List.Sublist.refl _) ?_
            rintro k d ⟨hk, hd⟩
            refine gc_seq ?_
            refine gc_region ?_
            refine ne (eo_lss rfl rfl rfl) rfl ?_
            refine go_nil ?_
            refine gq_next ?_
            refine gc_seq ?_
            refine gc_cond rfl (fun hc5 => ?_) (fun hc5 => ?_)
            ·
              replace hc5 := of_decide_eq_true hc5
              have hmo := ren_mod (f := f) (k := (k : Int)) hv s1.1 q1.1 (show i < n by omega) hd4 (by omega) (by omega)
              have hce := cell_bd hv (show i < n by omega)
              have hmW : (((i : Int) / W + (qu % 9)) * (sc % 8 + 1) + (k : Int) / (sc % 8 + 1)) * (renR ⟨W, H, n, f⟩ (sc % 8 + 1) (qu % 9)).1.W = (((i : Int) / W + (qu % 9)) * (sc % 8 + 1) + (k : Int) / (sc % 8 + 1)) * ((W + 2 * (qu % 9)) * (sc % 8 + 1)) := by rw [hRW]
              refine gc_skip ?_
              refine gq_next ?_
              refine gc_seq ?_
              refine gc_block ?_
              refine gc_seq ?_
              refine gc_region ?_
              refine ne (eo_mv rfl rfl) rfl ?_
              refine ne (eo_as rfl rfl) rfl ?_
              refine go_nil ?_
              refine gq_next ?_
              refine gc_seq ?_
              refine gc_seq ?_
              refine gc_draw [] [0, 1, 2, 3, 4, 5, 6, 7, 8, 9, 10, 11, 12, 13, 14, 15, 16, 17, 18, 19, 20, 21, 22, 23, 24, 25, 26, 27, 28, 29, 30, 31, 32] [] [] (by kernel_rfl) (by kernel_rfl) ?_
              refine gp_nil ?_
              refine de rfl (eo_field rfl f33_2 rfl) rfl ?_
              refine de rfl (eo_load 0 rfl s31 rfl rfl rfl rfl) rfl ?_
              refine de rfl (eo_mv rfl rfl) rfl ?_
              refine de rfl (eo_field rfl f33_0 rfl) rfl ?_
              refine de rfl (eo_load 1 rfl s3 rfl rfl rfl rfl) rfl ?_
              refine de rfl (eo_quo rfl rfl rfl (by omega) (by omega) (by omega)) rfl ?_
              refine de rfl (eo_mv rfl rfl) rfl ?_
              refine de rfl (eo_add rfl rfl rfl (by omega) (by omega)) rfl ?_
              refine de rfl (eo_mv rfl rfl) rfl ?_
              refine de rfl (eo_mul rfl rfl rfl (by omega) (by omega)) rfl ?_
              refine de rfl (eo_mv rfl rfl) rfl ?_
              refine de rfl (eo_mv rfl rfl) rfl ?_
              refine de rfl (eo_quo rfl rfl rfl (by omega) (by omega) (by omega)) rfl ?_
              refine de rfl (eo_add rfl rfl rfl (by omega) (by omega)) rfl ?_
              refine de rfl (eo_field rfl f33_0 rfl) rfl ?_
              refine de rfl (eo_load 0 rfl s3 rfl rfl rfl rfl) rfl ?_
              refine de rfl (eo_mul rfl rfl rfl (by omega) (by omega)) rfl ?_
              refine de rfl (eo_mv rfl rfl) rfl ?_
              refine de rfl (eo_field rfl f33_0 rfl) rfl ?_
              refine de rfl (eo_load 1 rfl s3 rfl rfl rfl rfl) rfl ?_
              refine de rfl (eo_rem rfl rfl rfl (by omega) (by omega)) rfl ?_
              refine de rfl (eo_mv rfl rfl) rfl ?_
              refine de rfl (eo_add rfl rfl rfl (by omega) (by omega)) rfl ?_
              refine de rfl (eo_mv rfl rfl) rfl ?_
              refine de rfl (eo_mul rfl rfl rfl (by omega) (by omega)) rfl ?_
              refine de rfl (eo_add rfl rfl rfl (by omega) (by omega)) rfl ?_
              refine de rfl (eo_mv rfl rfl) rfl ?_
              refine de rfl (eo_mv rfl rfl) rfl ?_
              refine de rfl (eo_rem rfl rfl rfl (by omega) (by omega)) rfl ?_
              refine de rfl (eo_add rfl rfl rfl (by omega) (by omega)) rfl ?_
              refine de rfl (eo_indexS rfl sl31 rfl rfl (fun W1 hO => (hS33.rd (hO.tl 2 rfl (List.Sublist.refl _)))) (by simp) (by omega) (by omega)) rfl ?_
              refine de rfl (eo_loadS rfl s4 rfl (fun W1 hO => Rd.tabb (hS33.rd (hO.tl 2 rfl (List.Sublist.refl _))) (by omega))) rfl ?_
              refine de rfl (eo_not rfl rfl) rfl ?_
              refine ge_nil ?_
              refine ga_nil ?_
              refine gi_nil ?_
              refine gq_nq ?_
              refine gq_next ?_
              refine gc_cond rfl (fun hc6 => ?_) (fun hc6 => ?_)
              ·
                have hd6 := (not_t hc6)
                rw [hRf, hmW] at hd6
                exact Bool.noConfusion (hd6.symm.trans hmo.2.2.2.2.2.2.2.2.2.2.2)
              ·
                have hd6 := (not_f hc6)
                refine gc_skip ?_
                refine gq_next ?_
                refine gc_region ?_
                refine ne (eo_mv rfl rfl) rfl ?_
                refine ne (eo_add rfl rfl rfl (by omega) (by omega)) rfl ?_
                refine ne (eo_as rfl rfl) rfl ?_
                refine go_nil ?_
                refine gq_block_end ?_
                refine gq_next ?_
                refine gc_region ?_
                refine ne (eo_add rfl rfl rfl (by omega) (by omega)) rfl ?_
                refine ne (eo_mv rfl rfl) rfl ?_
                refine go_nil ?_
                exact round2 (k + 1) (d + 1) (by omega) (by omega) ⟨rfl, rfl, rfl, rfl, rfl, rfl, rfl, rfl, rfl, rfl, rfl, trivial⟩ (List.Sublist.refl _)
            ·
              replace hc5 := of_decide_eq_false hc5
              refine gc_exit ?_
              refine gq_then_exit ?_
              refine gq_then_exit ?_
              refine gq_block_hit ?_
              refine gq_block_end ?_
              refine gq_next ?_
              refine gc_region ?_
              refine ne (eo_add rfl rfl rfl (by omega) (by omega)) rfl ?_
              refine ne (eo_mv rfl rfl) rfl ?_
              refine go_nil ?_
              exact round2 (i + 1) d ⟨by omega, by rw [sumN_step, Int.mul_add, show bw f i = 1 from by have h4 : f i = true := hd4; simp [bw, h4]]; omega⟩ (by omega) ⟨rfl, rfl, rfl, rfl, rfl, rfl, rfl, rfl, trivial⟩ (List.Sublist.refl _)
        ·
          replace hc3 := of_decide_eq_false hc3
          refine gc_exit ?_
          refine gq_then_exit ?_
          refine gq_then_exit ?_
          refine gq_block_hit ?_
          refine gq_next ?_
          refine gc_seq ?_
          refine gc_seq ?_
          refine gc_region ?_
          refine ne (eo_field rfl f33_2 rfl) rfl ?_
          refine ne (eo_load 0 rfl s31 rfl rfl rfl rfl) rfl ?_
          refine ne (eo_len rfl Try.underlying31 rfl) rfl ?_
          refine ne (eo_mv rfl rfl) rfl ?_
          refine go_nil ?_
          refine gq_next ?_
          refine gc_block ?_
          refine loop2 (fun (j : Nat) (d : Int) => j ≤ (renR ⟨W, H, n, f⟩ (sc % 8 + 1) (qu % 9)).1.n ∧ d = ((sc % 8 + 1) * (sc % 8 + 1)) * sumN (bw f) n - sumN (bw (renP W H f (sc % 8 + 1) (qu % 9) n)) j) (fun (j : Nat) (d : Int) => (renR ⟨W, H, n, f⟩ (sc % 8 + 1) (qu % 9)).1.n - j) (fun (j : Nat) (d : Int) => [(11, .int .i64 d), (140, .slice A33 ((renR ⟨W, H, n, f⟩ ((sc % 8) + 1) (qu % 9)).1.n) k33), (141, .int .i64 (((renR ⟨W, H, n, f⟩ ((sc % 8) + 1) (qu % 9)).1.n : Nat) : Int)), (142, .int .i64 (j : Int))]) (fun (j : Nat) (d : Int) => ⟨g9, 33, [.int .i64 ((renR ⟨W, H, n, f⟩ ((sc % 8) + 1) (qu % 9)).1.W), .int .i64 ((renR ⟨W, H, n, f⟩ ((sc % 8) + 1) (qu % 9)).1.H), .slice A33 ((renR ⟨W, H, n, f⟩ ((sc % 8) + 1) (qu % 9)).1.n) k33]⟩ :: ⟨g3, 33, [.int .i64 W, .int .i64 H, .slice A n c]⟩ :: S33) 0 d ⟨by omega, by simp [sumN]; rw [hd, show i = n by omega]⟩ ⟨rfl, rfl, rfl, rfl, trivial⟩ (List.Sublist.refl _) ?_
          rintro j d ⟨hj, hd⟩
          have hcb := cnt_bd (f := renP W H f (sc % 8 + 1) (qu % 9) n) j
          have hdb : 0 ≤ ((sc % 8 + 1) * (sc % 8 + 1)) * sumN (bw f) n ∧ ((sc % 8 + 1) * (sc % 8 + 1)) * sumN (bw f) n ≤ 64 * 400 := ⟨Int.mul_nonneg (by omega) (by have := cnt_bd (f := f) n; omega), Int.mul_le_mul (by omega) (by have := cnt_bd (f := f) n; omega) (by have := cnt_bd (f := f) n; omega) (by omega)⟩
          refine gc_seq ?_
          refine gc_region ?_
          refine ne (eo_lss rfl rfl rfl) rfl ?_
          refine go_nil ?_
          refine gq_next ?_
          refine gc_seq ?_
          refine gc_cond rfl (fun hc7 => ?_) (fun hc7 => ?_)
          ·
            replace hc7 := of_decide_eq_true hc7
            refine gc_skip ?_
            refine gq_next ?_
            refine gc_seq ?_
            refine gc_block ?_
            refine gc_seq ?_
            refine gc_region ?_
            refine ne (eo_indexS rfl sl31 rfl rfl (fun W1 hO => (hS33.rd (hO.tl 2 rfl (List.Sublist.refl _)))) (by simp) (by omega) (by omega)) rfl ?_
            refine ne (eo_loadS rfl s4 rfl (fun W1 hO => Rd.tabb (hS33.rd (hO.tl 2 rfl (List.Sublist.refl _))) (by omega))) rfl ?_
            refine ne (eo_as rfl rfl) rfl ?_
            refine go_nil ?_
            refine gq_next ?_
            refine gc_seq ?_
            refine gc_region ?_
            refine ne (eo_mv rfl rfl) rfl ?_
            refine go_nil ?_
            refine gq_next ?_
            refine gc_cond rfl (fun hc8 => ?_) (fun hc8 => ?_)
            ·
              refine gc_region ?_
              refine ne (eo_mv rfl rfl) rfl ?_
              refine ne (eo_sub rfl rfl rfl (by omega) (by omega)) rfl ?_
              refine ne (eo_as rfl rfl) rfl ?_
              refine go_nil ?_
              refine gq_block_end ?_
              refine gq_next ?_
              refine gc_region ?_
              refine ne (eo_add rfl rfl rfl (by omega) (by omega)) rfl ?_
              refine ne (eo_mv rfl rfl) rfl ?_
              refine go_nil ?_
              exact round2 (j + 1) (d - 1) ⟨by omega, by rw [hRf] at hc8; rw [sumN_step, hd, show bw (renP W H f (sc % 8 + 1) (qu % 9) n) j = 1 from by have h8 : renP W H f (sc % 8 + 1) (qu % 9) n j = true := hc8; simp [bw, h8]]; omega⟩ (by omega) ⟨rfl, rfl, rfl, rfl, trivial⟩ (List.Sublist.refl _)
            ·
              refine gc_skip ?_
              refine gq_block_end ?_
              refine gq_next ?_
              refine gc_region ?_
              refine ne (eo_add rfl rfl rfl (by omega) (by omega)) rfl ?_
              refine ne (eo_mv rfl rfl) rfl ?_
              refine go_nil ?_
              exact round2 (j + 1) d ⟨by omega, by rw [hRf] at hc8; rw [sumN_step, hd, show bw (renP W H f (sc % 8 + 1) (qu % 9) n) j = 0 from by have h8 : renP W H f (sc % 8 + 1) (qu % 9) n j = false := hc8; simp [bw, h8]]; omega⟩ (by omega) ⟨rfl, rfl, rfl, rfl, trivial⟩ (List.Sublist.refl _)
          ·
            replace hc7 := of_decide_eq_false hc7
            refine gc_exit ?_
            refine gq_then_exit ?_
            refine gq_then_exit ?_
            refine gq_block_hit ?_
            refine gq_next ?_
            refine gc_seq ?_
            refine gc_region ?_
            refine ne (eo_mv rfl rfl) rfl ?_
            refine ne (eo_eql rfl rfl rfl) rfl ?_
            refine ne (eo_mv rfl rfl) rfl ?_
            refine ng rfl rfl (fun h => eo_call rfl en10 rfl (fun W1 hO => exam43_c W1  )) rfl ?_
            refine ne (eo_and rfl rfl (fun hb => ev_if hb rfl)) rfl ?_
            refine ne (eo_as rfl rfl) rfl ?_
            refine go_nil ?_
            refine gq_next ?_
            refine gc_ret ?_
            refine gq_results (res1 rfl rfl) ?_
            exact fun W1 hO => ⟨ret_bool (show (decide (d = 0) && true) = true from by rw [hd, show j = ((W + 2 * (qu % 9)) * (sc % 8 + 1) * ((H + 2 * (qu % 9)) * (sc % 8 + 1))).toNat by omega, hcn]; simp), hO.toExt⟩

end Go.Proofs.Ytibooikbbcilcaa
