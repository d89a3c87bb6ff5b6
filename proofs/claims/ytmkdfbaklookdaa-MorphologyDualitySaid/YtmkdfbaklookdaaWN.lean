/-
  The walks of the functions of package morphology and of the document's answer (part N): what each call returns, at every argument.
-/
import Derived.Test.YtmkdfbaklookdaaWG
import Derived.Test.YtmkdfbaklookdaaMr
namespace Go.Proofs.Ytmkdfbaklookdaa
open Go.RowKit Go.Eng

open Go.Bs
theorem en28 : Ent Try.prog 28 := ent_of Try.func28 (by kernel_rfl) rfl
theorem en11 : Ent Try.prog 11 := ent_of Try.func11 (by kernel_rfl) rfl
theorem en29 : Ent Try.prog 29 := ent_of Try.func29 (by kernel_rfl) rfl

/-- barscan/barscanlaw37.valid -/
theorem valid37_c (W H : Int) (A : Option Addr) (n c : Nat) (f : Nat → Bool) (w : World) (hr : Rd w A (tab n (bv f)))  :
    Calls Try.prog 28 #[.agg #[.int .i64 W, .int .i64 H, .slice A n c]] w (fun e w' => e = .returned (.bool (val37 W H n)) ∧ Ext w w') := by
  refine calls_enter (N := ⟨40, []⟩) [] ([]) Try.func28 rfl rfl rfl (Ow.start _) ?_
  refine gc_seq ?_
  refine gc_region ?_
  refine nx (xo_boxA rfl rfl) rfl ?_
  rintro _ _ ⟨g1, rfl, rfl⟩
  refine ne (eo_as rfl rfl) rfl ?_
  refine go_nil ?_
  refine gq_next ?_
  refine gc_seq ?_
  refine gc_region ?_
  refine ne (eo_field rfl f24_0 rfl) rfl ?_
  refine ne (eo_load 0 rfl s3 rfl rfl rfl rfl) rfl ?_
  refine ne (eo_geq rfl rfl rfl) rfl ?_
  refine ne (eo_mv rfl rfl) rfl ?_
  refine ng rfl rfl (fun h => eo_field rfl f24_0 rfl) rfl ?_
  refine ng rfl rfl (fun h => eo_load 0 rfl s3 (ev_if h rfl) rfl rfl rfl) rfl ?_
  refine ng rfl rfl (fun h => eo_leq rfl (ev_if h rfl) rfl) rfl ?_
  refine ne (eo_and rfl rfl (fun hb => ev_if hb rfl)) rfl ?_
  refine ne (eo_mv rfl rfl) rfl ?_
  refine ng rfl rfl (fun h => eo_field rfl f24_1 rfl) rfl ?_
  refine ng rfl rfl (fun h => eo_load 0 rfl s3 (ev_if h rfl) rfl rfl rfl) rfl ?_
  refine ng rfl rfl (fun h => eo_geq rfl (ev_if h rfl) rfl) rfl ?_
  refine ne (eo_and rfl rfl (fun hb => ev_if hb rfl)) rfl ?_
  refine ne (eo_mv rfl rfl) rfl ?_
  refine ng rfl rfl (fun h => eo_field rfl f24_1 rfl) rfl ?_
  refine ng rfl rfl (fun h => eo_load 0 rfl s3 (ev_if h rfl) rfl rfl rfl) rfl ?_
  refine ng rfl rfl (fun h => eo_leq rfl (ev_if h rfl) rfl) rfl ?_
  refine ne (eo_and rfl rfl (fun hb => ev_if hb rfl)) rfl ?_
  refine ne (eo_mv rfl rfl) rfl ?_
  refine ng rfl rfl (fun h => eo_field rfl f24_0 rfl) rfl ?_
  refine ng rfl rfl (fun h => eo_load 0 rfl s3 (ev_if h rfl) rfl rfl rfl) rfl ?_
  refine ng rfl rfl (fun h => eo_field rfl f24_1 rfl) rfl ?_
  refine ng rfl rfl (fun h => eo_load 0 rfl s3 (ev_if h rfl) rfl rfl rfl) rfl ?_
  refine ng rfl rfl (fun h => eo_mul rfl (ev_if h rfl) (ev_if h rfl) (by have hg0 := (and_t h).imp (fun h => (and_t h).imp (fun h => (and_t h).imp (fun h => of_decide_eq_true h) (fun h => of_decide_eq_true h)) (fun h => of_decide_eq_true h)) (fun h => of_decide_eq_true h); first | omega | (have hm := mul_in (a := W) (b := H) (by omega) (by omega) (by omega) (by omega); omega)) (by have hg0 := (and_t h).imp (fun h => (and_t h).imp (fun h => (and_t h).imp (fun h => of_decide_eq_true h) (fun h => of_decide_eq_true h)) (fun h => of_decide_eq_true h)) (fun h => of_decide_eq_true h); first | omega | (have hm := mul_in (a := W) (b := H) (by omega) (by omega) (by omega) (by omega); omega))) rfl ?_
  refine ng rfl rfl (fun h => eo_leq rfl (ev_if h rfl) rfl) rfl ?_
  refine ne (eo_and rfl rfl (fun hb => ev_if hb rfl)) rfl ?_
  refine ne (eo_mv rfl rfl) rfl ?_
  refine ng rfl rfl (fun h => eo_field rfl f24_2 rfl) rfl ?_
  refine ng rfl rfl (fun h => eo_load 0 rfl s22 (ev_if h rfl) rfl rfl rfl) rfl ?_
  refine ng rfl rfl (fun h => eo_len rfl Try.underlying22 (ev_if h rfl)) rfl ?_
  refine ng rfl rfl (fun h => eo_field rfl f24_0 rfl) rfl ?_
  refine ng rfl rfl (fun h => eo_load 0 rfl s3 (ev_if h rfl) rfl rfl rfl) rfl ?_
  refine ng rfl rfl (fun h => eo_field rfl f24_1 rfl) rfl ?_
  refine ng rfl rfl (fun h => eo_load 0 rfl s3 (ev_if h rfl) rfl rfl rfl) rfl ?_
  refine ng rfl rfl (fun h => eo_mul rfl (ev_if h rfl) (ev_if h rfl) (by have hg0 := (and_t h).imp (fun h => (and_t h).imp (fun h => (and_t h).imp (fun h => (and_t h).imp (fun h => of_decide_eq_true h) (fun h => of_decide_eq_true h)) (fun h => of_decide_eq_true h)) (fun h => of_decide_eq_true h)) (fun h => of_decide_eq_true h); first | omega | (have hm := mul_in (a := W) (b := H) (by omega) (by omega) (by omega) (by omega); omega)) (by have hg0 := (and_t h).imp (fun h => (and_t h).imp (fun h => (and_t h).imp (fun h => (and_t h).imp (fun h => of_decide_eq_true h) (fun h => of_decide_eq_true h)) (fun h => of_decide_eq_true h)) (fun h => of_decide_eq_true h)) (fun h => of_decide_eq_true h); first | omega | (have hm := mul_in (a := W) (b := H) (by omega) (by omega) (by omega) (by omega); omega))) rfl ?_
  refine ng rfl rfl (fun h => eo_eql rfl (ev_if h rfl) (ev_if h rfl)) rfl ?_
  refine ne (eo_and rfl rfl (fun hb => ev_if hb rfl)) rfl ?_
  refine ne (eo_as rfl rfl) rfl ?_
  refine go_nil ?_
  refine gq_next ?_
  refine gc_ret ?_
  refine gq_results (res1 rfl rfl) ?_
  exact fun W1 hO => ⟨ret_bool (by simp [val37, Bool.and_assoc]), hO.toExt⟩

/-- barscan/barscanlaw37.MorphologyDuality -/
theorem duality_c (W H : Int) (A : Option Addr) (n c : Nat) (f : Nat → Bool) (a : Int) (b : Int) (w : World) (hr : Rd w A (tab n (bv f))) (hnc : n ≤ c) (ha0 : 0 ≤ a) (ha1 : a ≤ 255) (hb0 : 0 ≤ b) (hb1 : b ≤ 255) :
    Calls Try.prog 10 #[.agg #[.int .i64 W, .int .i64 H, .slice A n c], .int .u8 a, .int .u8 b] w (fun e w' => e = .returned (.bool true) ∧ Ext w w') := by
  refine calls_enter (N := ⟨144, []⟩) [] ([]) Try.func10 rfl rfl rfl (Ow.start _) ?_
  refine gc_seq ?_
  refine gc_region ?_
  refine nx (xo_boxA rfl rfl) rfl ?_
  rintro _ _ ⟨g3, rfl, rfl⟩
  refine ne (eo_as rfl rfl) rfl ?_
  refine go_nil ?_
  refine gq_next ?_
  refine gc_seq ?_
  refine gc_region ?_
  refine ne (eo_mv rfl rfl) rfl ?_
  refine ne (eo_remk rfl rfl rfl (by omega) (by omega)) rfl ?_
  refine ne (eo_convi rfl rfl ⟨_, Try.underlying5⟩ Try.underlying3 (by omega) (by omega)) rfl ?_
  refine ne (eo_mv rfl rfl) rfl ?_
  refine ne (eo_remk rfl rfl rfl (by omega) (by omega)) rfl ?_
  refine ne (eo_convi rfl rfl ⟨_, Try.underlying5⟩ Try.underlying3 (by omega) (by omega)) rfl ?_
  refine ne (eo_as rfl rfl) rfl ?_
  refine ne (eo_as rfl rfl) rfl ?_
  refine go_nil ?_
  refine gq_next ?_
  refine gc_seq ?_
  refine gc_seq ?_
  refine gc_region ?_
  refine ne (eo_loadA 0 rfl a24 rfl rfl rfl rfl) rfl ?_
  refine ne (eo_call rfl en28 rfl (fun W1 hO => valid37_c _ _ _ _ _ _ W1 (hr.old0 hO) )) rfl ?_
  refine ne (eo_not rfl rfl) rfl ?_
  refine go_nil ?_
  refine gq_next ?_
  refine gc_cond rfl (fun hc0 => ?_) (fun hc0 => ?_)
  ·
    have hd0 := (not_t hc0)
    refine gc_seq ?_
    refine gc_region ?_
    refine ne (eo_call rfl en11 rfl (fun W1 hO => exam_c W1  )) rfl ?_
    refine ne (eo_as rfl rfl) rfl ?_
    refine go_nil ?_
    refine gq_next ?_
    refine gc_ret ?_
    refine gq_then_ret ?_
    refine gq_results (res1 rfl rfl) ?_
    exact fun W1 hO => ⟨rfl, hO.toExt⟩
  ·
    have hd0 := (not_f hc0)
    obtain ⟨hv, n1, n2, n3⟩ := val_vld hd0
    obtain ⟨v1, v2, v3, v4, v5, v6⟩ := vldB_iff.1 hv
    have v7 := vld_pos hv
    have hV : (⟨W, H, n, f⟩ : Pm Bool).vld = true := hv
    obtain ⟨df, d1, d2⟩ := dual_vld (W := W) (H := H) (rx := (a % 21)) (ry := (b % 21)) (by omega) (by omega) (by omega) (by omega) (by omega) (by omega) (by omega) (by omega)
    refine gc_skip ?_
    refine gq_next ?_
    refine gc_seq ?_
    refine gc_region ?_
    refine ne (eo_field rfl f24_0 rfl) rfl ?_
    refine ne (eo_load 0 rfl s3 rfl rfl rfl rfl) rfl ?_
    refine ne (eo_mv rfl rfl) rfl ?_
    refine ne (eo_mul rfl rfl rfl (by omega) (by omega)) rfl ?_
    refine ne (eo_add rfl rfl rfl (by omega) (by omega)) rfl ?_
    refine ne (eo_field rfl f24_1 rfl) rfl ?_
    refine ne (eo_load 0 rfl s3 rfl rfl rfl rfl) rfl ?_
    refine ne (eo_mv rfl rfl) rfl ?_
    refine ne (eo_mul rfl rfl rfl (by omega) (by omega)) rfl ?_
    refine ne (eo_add rfl rfl rfl (by omega) (by omega)) rfl ?_
    refine ne (eo_build rfl rfl (b24_01 _ _)) rfl ?_
    refine nx (xo_alloc rfl z24) rfl ?_
    rintro _ _ ⟨g9, rfl, rfl⟩
    refine nu (xo_storeA 0 rfl a24 rfl rfl (ones_cons (by first | rfl | exact AS.one) (ones_cons (by first | rfl | exact AS.one) (ones_cons (by first | rfl | exact AS.one) ones_nil))) rfl rfl rfl rfl) ?_
    rintro _ _ ⟨rfl, rfl⟩
    refine go_nil ?_
    refine gq_next ?_
    refine gc_seq ?_
    refine gc_seq ?_
    refine gc_region ?_
    refine ne (eo_field rfl f24_0 rfl) rfl ?_
    refine ne (eo_load 0 rfl s3 rfl rfl rfl rfl) rfl ?_
    refine ne (eo_field rfl f24_1 rfl) rfl ?_
    refine ne (eo_load 0 rfl s3 rfl rfl rfl rfl) rfl ?_
    refine ne (eo_mul rfl rfl rfl (by omega) (by omega)) rfl ?_
    refine ne (eo_mv rfl rfl) rfl ?_
    refine go_nil ?_
    refine gq_next ?_
    refine gc_block ?_
    refine loop2 (fun (k : Nat) (s : AS) => (k : Int) ≤ (W + 2 * (a % 21)) * (H + 2 * (b % 21)) ∧ s.Ok 1 k (tab k (bv (dualF ⟨W, H, n, f⟩ (a % 21) (b % 21))))) (fun (k : Nat) (s : AS) => ((W + 2 * (a % 21)) * (H + 2 * (b % 21)) - k).toNat) (fun (k : Nat) (s : AS) => [(3, .pointer (some ⟨g3, 0, none⟩)), (7, .int .i64 (a % 21)), (8, .int .i64 (b % 21)), (9, .pointer (some ⟨g9, 0, none⟩)), (42, .int .i64 ((W + (2 * (a % 21))) * (H + (2 * (b % 21))))), (43, .int .i64 (k : Int))]) (fun (k : Nat) (s : AS) => ⟨g9, 24, [.int .i64 (W + (2 * (a % 21))), .int .i64 (H + (2 * (b % 21))), s.val k]⟩ :: ⟨g3, 24, [.int .i64 W, .int .i64 H, .slice A n c]⟩ :: s.blks 4 (tab k (bv (dualF ⟨W, H, n, f⟩ (a % 21) (b % 21))))) 0 .nil ⟨by omega, AS.Ok0⟩ ⟨rfl, rfl, rfl, rfl, rfl, rfl, trivial⟩ (List.Sublist.refl _) ?_
    rintro k s ⟨hk, hs⟩
    refine gc_seq ?_
    refine gc_region ?_
    refine ne (eo_lss rfl rfl rfl) rfl ?_
    refine go_nil ?_
    refine gq_next ?_
    refine gc_seq ?_
    refine gc_cond rfl (fun hc1 => ?_) (fun hc1 => ?_)
    ·
      replace hc1 := of_decide_eq_true hc1
      have hcb := cell_b (W := W + 2 * (a % 21)) (H := H + 2 * (b % 21)) (n := ((W + 2 * (a % 21)) * (H + 2 * (b % 21))).toNat) (j := k) (by omega) (by omega) (by omega)
      refine gc_skip ?_
      refine gq_next ?_
      refine gc_seq ?_
      refine gc_block ?_
      refine gc_seq ?_
      refine gc_region ?_
      refine ne (eo_mv rfl rfl) rfl ?_
      refine ne (eo_as rfl rfl) rfl ?_
      refine go_nil ?_
      refine gq_next ?_
      refine gc_draw [] [0, 1, 2, 3, 4, 5, 6, 7, 8, 9, 10, 11, 12, 13, 14, 15, 16] [17] [18, 19, 20] (by kernel_rfl) (by kernel_rfl) ?_
      refine gp_nil ?_
      refine de rfl (eo_field rfl f24_2 rfl) rfl ?_
      refine de rfl (eo_load 0 rfl s22 rfl rfl rfl rfl) rfl ?_
      refine de rfl (eo_loadA 1 rfl a24 rfl rfl rfl rfl) rfl ?_
      refine de rfl (eo_mv rfl rfl) rfl ?_
      refine de rfl (eo_field rfl f24_0 rfl) rfl ?_
      refine de rfl (eo_load 0 rfl s3 rfl rfl rfl rfl) rfl ?_
      refine de rfl (eo_rem rfl rfl rfl (by omega) (by omega)) rfl ?_
      refine de rfl (eo_mv rfl rfl) rfl ?_
      refine de rfl (eo_sub rfl rfl rfl (by omega) (by omega)) rfl ?_
      refine de rfl (eo_mv rfl rfl) rfl ?_
      refine de rfl (eo_field rfl f24_0 rfl) rfl ?_
      refine de rfl (eo_load 0 rfl s3 rfl rfl rfl rfl) rfl ?_
      refine de rfl (eo_quo rfl rfl rfl (by omega) (by omega) (by omega)) rfl ?_
      refine de rfl (eo_mv rfl rfl) rfl ?_
      refine de rfl (eo_sub rfl rfl rfl (by omega) (by omega)) rfl ?_
      refine de rfl (eo_call rfl en29 rfl (fun W1 hO => at_c _ _ _ _ _ _ _ _ W1 (hr.old0 hO) )) rfl ?_
      refine de rfl (eo_not rfl rfl) rfl ?_
      refine ge_nil ?_
      refine da rfl (xo_lit1 rfl Try.underlying22 e4 rfl (by first | rfl | exact AS.one)) rfl ?_
      rintro _ _ ⟨g63, rfl, rfl⟩
      refine ⟨by first | exact (List.Sublist.cons _ (List.Sublist.refl _)) | exact (List.sublist_append_left _ _), ?_⟩
      refine ga_nil ?_
      refine ix rfl (xo_app1b 3 rfl rfl Try.underlying22 e4 rfl hs rfl rfl rfl (by omega)) rfl ?_
      rintro _ _ ⟨s64, hs64, rfl, rfl⟩
      refine ie rfl (eo_field rfl f24_2 rfl) rfl ?_
      refine iu rfl (xo_store 1 rfl s22 rfl rfl (by first | rfl | exact AS.one) rfl rfl (by simp)) ?_
      rintro _ _ ⟨rfl, rfl⟩
      refine gi_nil ?_
      refine gq_nq ?_
      refine gq_block_end ?_
      refine gq_next ?_
      refine gc_region ?_
      refine ne (eo_add rfl rfl rfl (by omega) (by omega)) rfl ?_
      refine ne (eo_mv rfl rfl) rfl ?_
      refine go_nil ?_
      exact round2 (k + 1) s64 ⟨by omega, hs64⟩ (by omega) ⟨rfl, rfl, rfl, rfl, rfl, rfl, trivial⟩ (List.Sublist.cons _ (List.Sublist.refl _))
    ·
      replace hc1 := of_decide_eq_false hc1
      have hkn : ((W + 2 * (a % 21)) * (H + 2 * (b % 21))).toNat = k := by omega
      subst hkn
      obtain ⟨gq, spq, cq, rfl, hcq⟩ := as_at hs (by omega)
      have c1 := chk_of (rx := (a % 21)) (ry := (b % 21)) hV (by omega) (by omega) (by omega) (by omega)
      have z1 := erode_sz c1
      simp only at z1
      have c2 := chk_of (m := ⟨W + 2 * (a % 21), H + 2 * (b % 21), ((W + 2 * (a % 21)) * (H + 2 * (b % 21))).toNat, dualF ⟨W, H, n, f⟩ (a % 21) (b % 21)⟩) (rx := (a % 21)) (ry := (b % 21)) (vld_enl df) (by omega) (by omega) (by omega) (by omega)
      have z2 := dilate_sz c2
      simp only at z2
      refine gc_exit ?_
      refine gq_then_exit ?_
      refine gq_then_exit ?_
      refine gq_block_hit ?_
      refine gq_next ?_
      refine gc_seq ?_
      refine gc_region ?_
      refine ne (eo_loadA 1 rfl a24 rfl rfl rfl rfl) rfl ?_
      refine ne (eo_mv rfl rfl) rfl ?_
      refine ne (eo_mv rfl rfl) rfl ?_
      refine nx (xo_freshT rfl en12 rfl (fun W1 hO => erode_x _ _ _ _ _ _ _ _ W1 (hr.old0 hO) hnc)) rfl ?_
      rintro _ _ ⟨S71, ⟨A71, k71, rfl, hk71, hS71⟩, rfl⟩
      refine ne (eo_mv rfl rfl) rfl ?_
      refine ne (eo_extract rfl rfl rfl) rfl ?_
      refine ne (eo_extract rfl rfl rfl) rfl ?_
      refine nx (xo_alloc rfl z24) rfl ?_
      rintro _ _ ⟨g11, rfl, rfl⟩
      refine nu (xo_storeA 0 rfl a24 rfl rfl (ones_cons (by first | rfl | exact AS.one) (ones_cons (by first | rfl | exact AS.one) (ones_cons (by first | rfl | exact AS.one) ones_nil))) rfl rfl rfl rfl) ?_
      rintro _ _ ⟨rfl, rfl⟩
      refine ne (eo_as rfl rfl) rfl ?_
      refine go_nil ?_
      refine gq_next ?_
      refine gc_seq ?_
      refine gc_region ?_
      refine ne (eo_loadA 1 rfl a24 rfl rfl rfl rfl) rfl ?_
      refine ne (eo_mv rfl rfl) rfl ?_
      refine ne (eo_mv rfl rfl) rfl ?_
      refine nx (xo_freshT rfl en14 rfl (fun W1 hO => dilate_x _ _ _ _ _ _ _ _ W1 (tabs_rd hO 3 rfl) (by omega))) rfl ?_
      rintro _ _ ⟨S78, ⟨A78, k78, rfl, hk78, hS78⟩, rfl⟩
      refine ne (eo_mv rfl rfl) rfl ?_
      refine ne (eo_extract rfl rfl rfl) rfl ?_
      refine ne (eo_extract rfl rfl rfl) rfl ?_
      refine nx (xo_alloc rfl z24) rfl ?_
      rintro _ _ ⟨g13, rfl, rfl⟩
      refine nu (xo_storeA 0 rfl a24 rfl rfl (ones_cons (by first | rfl | exact AS.one) (ones_cons (by first | rfl | exact AS.one) (ones_cons (by first | rfl | exact AS.one) ones_nil))) rfl rfl rfl rfl) ?_
      rintro _ _ ⟨rfl, rfl⟩
      refine ne (eo_as rfl rfl) rfl ?_
      refine go_nil ?_
      refine gq_next ?_
      refine gc_seq ?_
      refine gc_seq ?_
      refine gc_region ?_
      refine ne (eo_mv rfl rfl) rfl ?_
      refine ne (eo_neq rfl rfl rfl) rfl ?_
      refine ne (eo_mv rfl rfl) rfl ?_
      refine ng rfl rfl (fun h => eo_field rfl f24_0 rfl) rfl ?_
      refine ng rfl rfl (fun h => eo_load 1 rfl s3 (ev_if h rfl) rfl rfl rfl) rfl ?_
      refine ng rfl rfl (fun h => eo_field rfl f24_0 rfl) rfl ?_
      refine ng rfl rfl (fun h => eo_load 3 rfl s3 (ev_if h rfl) rfl rfl rfl) rfl ?_
      refine ng rfl rfl (fun h => eo_neq rfl (ev_if h rfl) (ev_if h rfl)) rfl ?_
      refine ne (eo_or rfl rfl (fun hb => ev_if hb rfl)) rfl ?_
      refine ne (eo_mv rfl rfl) rfl ?_
      refine ng rfl rfl (fun h => eo_field rfl f24_1 rfl) rfl ?_
      refine ng rfl rfl (fun h => eo_load 1 rfl s3 (ev_if h rfl) rfl rfl rfl) rfl ?_
      refine ng rfl rfl (fun h => eo_field rfl f24_1 rfl) rfl ?_
      refine ng rfl rfl (fun h => eo_load 3 rfl s3 (ev_if h rfl) rfl rfl rfl) rfl ?_
      refine ng rfl rfl (fun h => eo_neq rfl (ev_if h rfl) (ev_if h rfl)) rfl ?_
      refine ne (eo_or rfl rfl (fun hb => ev_if hb rfl)) rfl ?_
      refine ne (eo_mv rfl rfl) rfl ?_
      refine ng rfl rfl (fun h => eo_field rfl f24_2 rfl) rfl ?_
      refine ng rfl rfl (fun h => eo_load 1 rfl s22 (ev_if h rfl) rfl rfl rfl) rfl ?_
      refine ng rfl rfl (fun h => eo_len rfl Try.underlying22 (ev_if h rfl)) rfl ?_
      refine ng rfl rfl (fun h => eo_field rfl f24_2 rfl) rfl ?_
      refine ng rfl rfl (fun h => eo_load 3 rfl s22 (ev_if h rfl) rfl rfl rfl) rfl ?_
      refine ng rfl rfl (fun h => eo_len rfl Try.underlying22 (ev_if h rfl)) rfl ?_
      refine ng rfl rfl (fun h => eo_neq rfl (ev_if h rfl) (ev_if h rfl)) rfl ?_
      refine ne (eo_or rfl rfl (fun hb => ev_if hb rfl)) rfl ?_
      refine go_nil ?_
      refine gq_next ?_
      refine gc_cond rfl (fun hc2 => ?_) (fun hc2 => ?_)
      ·
        have hd2 := (or_t hc2).imp (fun h => (or_t h).imp (fun h => (or_t h).imp (fun h => of_decide_eq_true h) (fun h => of_decide_eq_true h)) (fun h => of_decide_eq_true h)) (fun h => of_decide_eq_true h)
        exact Bool.noConfusion (hc2.symm.trans (show (((decide ((erodeR ⟨W, H, n, f⟩ (a % 21) (b % 21)).2 ≠ 0) || decide ((erodeR ⟨W, H, n, f⟩ (a % 21) (b % 21)).1.W ≠ W)) || decide ((erodeR ⟨W, H, n, f⟩ (a % 21) (b % 21)).1.H ≠ H)) || decide ((((erodeR ⟨W, H, n, f⟩ (a % 21) (b % 21)).1.n : Nat) : Int) ≠ ((n : Nat) : Int))) = false from by rw [erode_err, c1, z1.1, z1.2.1, z1.2.2.1]; simp))
      ·
        have hd2 := (or_f hc2).imp (fun h => (or_f h).imp (fun h => (or_f h).imp (fun h => ne_f h) (fun h => ne_f h)) (fun h => ne_f h)) (fun h => ne_f h)
        refine gc_skip ?_
        refine gq_next ?_
        refine gc_seq ?_
        refine gc_seq ?_
        refine gc_region ?_
        refine ne (eo_mv rfl rfl) rfl ?_
        refine ne (eo_neq rfl rfl rfl) rfl ?_
        refine go_nil ?_
        refine gq_next ?_
        refine gc_cond rfl (fun hc3 => ?_) (fun hc3 => ?_)
        ·
          replace hc3 := of_decide_eq_true hc3
          exact absurd c2 (by rw [dilate_err] at hc3; exact hc3)
        ·
          replace hc3 := of_decide_eq_false hc3
          refine gc_skip ?_
          refine gq_next ?_
          refine gc_seq ?_
          refine gc_seq ?_
          refine gc_region ?_
          refine ne (eo_field rfl f24_2 rfl) rfl ?_
          refine ne (eo_load 1 rfl s22 rfl rfl rfl rfl) rfl ?_
          refine ne (eo_len rfl Try.underlying22 rfl) rfl ?_
          refine ne (eo_mv rfl rfl) rfl ?_
          refine go_nil ?_
          refine gq_next ?_
          refine gc_block ?_
          refine loop1 (fun (i : Nat) => i ≤ (erodeR ⟨W, H, n, f⟩ (a % 21) (b % 21)).1.n) (fun (i : Nat) => (erodeR ⟨W, H, n, f⟩ (a % 21) (b % 21)).1.n - i) (fun (i : Nat) => [(3, .pointer (some ⟨g3, 0, none⟩)), (7, .int .i64 (a % 21)), (8, .int .i64 (b % 21)), (13, .pointer (some ⟨g13, 0, none⟩)), (119, .slice A71 ((erodeR ⟨W, H, n, f⟩ (a % 21) (b % 21)).1.n) k71), (120, .int .i64 (((erodeR ⟨W, H, n, f⟩ (a % 21) (b % 21)).1.n : Nat) : Int)), (121, .int .i64 (i : Int))]) (fun (i : Nat) => ⟨g13, 24, [.int .i64 ((dilateR ⟨(W + (2 * (a % 21))), (H + (2 * (b % 21))), ((W + (2 * (a % 21))) * (H + (2 * (b % 21)))).toNat, (dualF ⟨W, H, n, f⟩ (a % 21) (b % 21))⟩ (a % 21) (b % 21)).1.W), .int .i64 ((dilateR ⟨(W + (2 * (a % 21))), (H + (2 * (b % 21))), ((W + (2 * (a % 21))) * (H + (2 * (b % 21)))).toNat, (dualF ⟨W, H, n, f⟩ (a % 21) (b % 21))⟩ (a % 21) (b % 21)).1.H), .slice A78 ((dilateR ⟨(W + (2 * (a % 21))), (H + (2 * (b % 21))), ((W + (2 * (a % 21))) * (H + (2 * (b % 21)))).toNat, (dualF ⟨W, H, n, f⟩ (a % 21) (b % 21))⟩ (a % 21) (b % 21)).1.n) k78]⟩ :: ⟨g11, 24, [.int .i64 ((erodeR ⟨W, H, n, f⟩ (a % 21) (b % 21)).1.W), .int .i64 ((erodeR ⟨W, H, n, f⟩ (a % 21) (b % 21)).1.H), .slice A71 ((erodeR ⟨W, H, n, f⟩ (a % 21) (b % 21)).1.n) k71]⟩ :: ⟨g9, 24, [.int .i64 (W + (2 * (a % 21))), .int .i64 (H + (2 * (b % 21))), .slice (some ⟨gq, 0, none⟩) (((W + (2 * (a % 21))) * (H + (2 * (b % 21)))).toNat) cq]⟩ :: ⟨g3, 24, [.int .i64 W, .int .i64 H, .slice A n c]⟩ :: ⟨gq, 4, tab (((W + (2 * (a % 21))) * (H + (2 * (b % 21)))).toNat) (bv (dualF ⟨W, H, n, f⟩ (a % 21) (b % 21))) ++ spq⟩ :: (S71 ++ S78)) 0 (by omega) ⟨rfl, rfl, rfl, rfl, rfl, rfl, rfl, trivial⟩ (List.Sublist.refl _) ?_
          intro i hI
          refine gc_seq ?_
          refine gc_region ?_
          refine ne (eo_lss rfl rfl rfl) rfl ?_
          refine go_nil ?_
          refine gq_next ?_
          refine gc_seq ?_
          refine gc_cond rfl (fun hc4 => ?_) (fun hc4 => ?_)
          ·
            replace hc4 := of_decide_eq_true hc4
            have hcb := cell_bd hv (show i < n by omega)
            refine gc_skip ?_
            refine gq_next ?_
            refine gc_seq ?_
            refine gc_block ?_
            refine gc_seq ?_
            refine gc_region ?_
            refine ne (eo_mv rfl rfl) rfl ?_
            refine ne (eo_indexS rfl sl22 rfl rfl (fun W1 hO => (hS71.rd (hO.tl 5 rfl (List.sublist_append_left _ _)))) (by simp) (by omega) (by omega)) rfl ?_
            refine ne (eo_loadS rfl s4 rfl (fun W1 hO => Rd.tabb (hS71.rd (hO.tl 5 rfl (List.sublist_append_left _ _))) (by omega))) rfl ?_
            refine ne (eo_as rfl rfl) rfl ?_
            refine ne (eo_as rfl rfl) rfl ?_
            refine go_nil ?_
            refine gq_next ?_
            refine gc_seq ?_
            refine gc_draw [] [0, 1, 2, 3, 4, 5, 6, 7, 8, 9, 10, 11, 12, 13, 14, 15] [] [] (by kernel_rfl) (by kernel_rfl) ?_
            refine gp_nil ?_
            refine de rfl (eo_loadA 0 rfl a24 rfl rfl rfl rfl) rfl ?_
            refine de rfl (eo_mv rfl rfl) rfl ?_
            refine de rfl (eo_field rfl f24_0 rfl) rfl ?_
            refine de rfl (eo_load 3 rfl s3 rfl rfl rfl rfl) rfl ?_
            refine de rfl (eo_rem rfl rfl rfl (by omega) (by omega)) rfl ?_
            refine de rfl (eo_mv rfl rfl) rfl ?_
            refine de rfl (eo_add rfl rfl rfl (by omega) (by omega)) rfl ?_
            refine de rfl (eo_mv rfl rfl) rfl ?_
            refine de rfl (eo_field rfl f24_0 rfl) rfl ?_
            refine de rfl (eo_load 3 rfl s3 rfl rfl rfl rfl) rfl ?_
            refine de rfl (eo_quo rfl rfl rfl (by omega) (by omega) (by omega)) rfl ?_
            refine de rfl (eo_mv rfl rfl) rfl ?_
            refine de rfl (eo_add rfl rfl rfl (by omega) (by omega)) rfl ?_
            refine de rfl (eo_call rfl en29 rfl (fun W1 hO => at_c _ _ _ _ _ _ _ _ W1 (hS78.rd (hO.tl 5 rfl (List.sublist_append_right _ _))) )) rfl ?_
            refine de rfl (eo_mv rfl rfl) rfl ?_
            refine de rfl (eo_beql rfl rfl rfl Try.underlying4) rfl ?_
            refine ge_nil ?_
            refine ga_nil ?_
            refine gi_nil ?_
            refine gq_nq ?_
            refine gq_next ?_
            refine gc_cond rfl (fun hc5 => ?_) (fun hc5 => ?_)
            ·
              exact Bool.noConfusion (hc5.symm.trans (beq_not (dual_law (m := ⟨W, H, n, f⟩) (rx := (a % 21)) (ry := (b % 21)) (i := i) hV c1 df (by simp only; omega))))
            ·
              refine gc_skip ?_
              refine gq_block_end ?_
              refine gq_next ?_
              refine gc_region ?_
              refine ne (eo_add rfl rfl rfl (by omega) (by omega)) rfl ?_
              refine ne (eo_mv rfl rfl) rfl ?_
              refine go_nil ?_
              exact round1 (i + 1) (by omega) (by omega) ⟨rfl, rfl, rfl, rfl, rfl, rfl, rfl, trivial⟩ (List.Sublist.refl _)
          ·
            replace hc4 := of_decide_eq_false hc4
            refine gc_exit ?_
            refine gq_then_exit ?_
            refine gq_then_exit ?_
            refine gq_block_hit ?_
            refine gq_next ?_
            refine gc_seq ?_
            refine gc_region ?_
            refine ne (eo_call rfl en11 rfl (fun W1 hO => exam_c W1  )) rfl ?_
            refine ne (eo_as rfl rfl) rfl ?_
            refine go_nil ?_
            refine gq_next ?_
            refine gc_ret ?_
            refine gq_results (res1 rfl rfl) ?_
            exact fun W1 hO => ⟨rfl, hO.toExt⟩

end Go.Proofs.Ytmkdfbaklookdaa
