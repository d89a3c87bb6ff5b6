/-
  The walks of the functions of package skew and of the document's answer (part M): what each call returns, at every argument.
-/
import Derived.Test.YtmgkpdpmjhgekaaWF
import Derived.Test.YtmgkpdpmjhgekaaSl
namespace Go.Proofs.Ytmgkpdpmjhgekaa
open Go.RowKit Go.Eng

open Go.Bs
theorem en11 : Ent Try.prog 11 := ent_of Try.func11 (by kernel_rfl) rfl
theorem en13 : Ent Try.prog 13 := ent_of Try.func13 (by kernel_rfl) rfl
theorem en26 : Ent Try.prog 26 := ent_of Try.func26 (by kernel_rfl) rfl
theorem en28 : Ent Try.prog 28 := ent_of Try.func28 (by kernel_rfl) rfl

/-- barscan/barscanlaw45.column -/
theorem col_c (W H : Int) (A : Option Addr) (n c : Nat) (f : Nat → Bool) (x : Int) (w : World) (hr : Rd w A (tab n (bv f))) (hH : H ≤ 4096) :
    Calls Try.prog 28 #[.agg #[.int .i64 W, .int .i64 H, .slice A n c], .int .i64 x] w (fun e w' => e = .returned (.int .i64 (colS W H n f x H.toNat)) ∧ Ext w w') := by
  refine calls_enter (N := ⟨20, []⟩) [] ([]) Try.func28 rfl rfl rfl (Ow.start _) ?_
  refine gc_seq ?_
  refine gc_region ?_
  refine nx (xo_boxA rfl rfl) rfl ?_
  rintro _ _ ⟨g2, rfl, rfl⟩
  refine ne (eo_as rfl rfl) rfl ?_
  refine go_nil ?_
  refine gq_next ?_
  refine gc_seq ?_
  refine gc_region ?_
  refine ne (eo_as rfl rfl) rfl ?_
  refine go_nil ?_
  refine gq_next ?_
  refine gc_seq ?_
  refine gc_seq ?_
  refine gc_region ?_
  refine ne (eo_as rfl rfl) rfl ?_
  refine go_nil ?_
  refine gq_next ?_
  refine gc_block ?_
  refine loop2 (fun (y : Nat) (q : Int) => (y : Int) ≤ max 0 H ∧ q = colS W H n f x y) (fun (y : Nat) (q : Int) => (H - y).toNat) (fun (y : Nat) (q : Int) => [(1, .int .i64 x), (2, .pointer (some ⟨g2, 0, none⟩)), (5, .int .i64 q), (6, .int .i64 (y : Int))]) (fun (y : Nat) (q : Int) => [⟨g2, 24, [.int .i64 W, .int .i64 H, .slice A n c]⟩]) 0 0 ⟨by omega, rfl⟩ ⟨rfl, rfl, rfl, rfl, trivial⟩ (List.Sublist.refl _) ?_
  rintro y q ⟨hy, hq⟩
  have hcb := colS_bd (W := W) (H := H) (n := n) (f := f) (x := x) (k := y)
  refine gc_seq ?_
  refine gc_seq ?_
  refine gc_region ?_
  refine ne (eo_mv rfl rfl) rfl ?_
  refine ne (eo_field rfl f24_1 rfl) rfl ?_
  refine ne (eo_load 0 rfl s3 rfl rfl rfl rfl) rfl ?_
  refine ne (eo_lss rfl rfl rfl) rfl ?_
  refine go_nil ?_
  refine gq_next ?_
  refine gc_cond rfl (fun hc0 => ?_) (fun hc0 => ?_)
  ·
    replace hc0 := of_decide_eq_true hc0
    refine gc_skip ?_
    refine gq_next ?_
    refine gc_seq ?_
    refine gc_block ?_
    refine gc_seq ?_
    refine gc_region ?_
    refine ne (eo_loadA 0 rfl a24 rfl rfl rfl rfl) rfl ?_
    refine ne (eo_mv rfl rfl) rfl ?_
    refine ne (eo_mv rfl rfl) rfl ?_
    refine ne (eo_call rfl en41 rfl (fun W1 hO => rat_c _ _ _ _ _ _ _ _ W1 (hr.old0 hO) )) rfl ?_
    refine go_nil ?_
    refine gq_next ?_
    refine gc_cond rfl (fun hc1 => ?_) (fun hc1 => ?_)
    ·
      refine gc_region ?_
      refine ne (eo_mv rfl rfl) rfl ?_
      refine ne (eo_add rfl rfl rfl (by omega) (by omega)) rfl ?_
      refine ne (eo_as rfl rfl) rfl ?_
      refine go_nil ?_
      refine gq_block_end ?_
      refine gq_next ?_
      refine gc_region ?_
      refine ne (eo_mv rfl rfl) rfl ?_
      refine ne (eo_add rfl rfl rfl (by omega) (by omega)) rfl ?_
      refine ne (eo_as rfl rfl) rfl ?_
      refine go_nil ?_
      exact round2 (y + 1) (q + 1) ⟨by omega, by rw [colS_succ, ← hq, if_pos hc1]⟩ (by omega) ⟨rfl, rfl, rfl, rfl, trivial⟩ (List.Sublist.refl _)
    ·
      refine gc_skip ?_
      refine gq_block_end ?_
      refine gq_next ?_
      refine gc_region ?_
      refine ne (eo_mv rfl rfl) rfl ?_
      refine ne (eo_add rfl rfl rfl (by omega) (by omega)) rfl ?_
      refine ne (eo_as rfl rfl) rfl ?_
      refine go_nil ?_
      exact round2 (y + 1) q ⟨by omega, by rw [colS_succ, ← hq, if_neg (by rw [hc1]; simp)]; omega⟩ (by omega) ⟨rfl, rfl, rfl, rfl, trivial⟩ (List.Sublist.refl _)
  ·
    replace hc0 := of_decide_eq_false hc0
    refine gc_exit ?_
    refine gq_then_exit ?_
    refine gq_then_exit ?_
    refine gq_block_hit ?_
    refine gq_next ?_
    refine gc_seq ?_
    refine gc_region ?_
    refine ne (eo_mv rfl rfl) rfl ?_
    refine ne (eo_as rfl rfl) rfl ?_
    refine go_nil ?_
    refine gq_next ?_
    refine gc_ret ?_
    refine gq_results (res1 rfl rfl) ?_
    exact fun W1 hO => ⟨ret_int (by rw [hq, show y = H.toNat by omega]), hO.toExt⟩

/-- barscan/barscanlaw45.SkewKeeps -/
theorem lkeeps_c (W H : Int) (A : Option Addr) (n c : Nat) (f : Nat → Bool) (nn : Int) (dn : Int) (w : World) (hr : Rd w A (tab n (bv f))) (hnc : n ≤ c) (n0 : -32768 ≤ nn) (n1 : nn ≤ 32767) (e0 : 0 ≤ dn) (e1 : dn ≤ 65535) :
    Calls Try.prog 10 #[.agg #[.int .i64 W, .int .i64 H, .slice A n c], .int .i16 nn, .int .u16 dn] w (fun e w' => e = .returned (.bool true) ∧ Ext w w') := by
  refine calls_enter (N := ⟨146, []⟩) [] ([]) Try.func10 rfl rfl rfl (Ow.start _) ?_
  refine gc_seq ?_
  refine gc_region ?_
  refine nx (xo_boxA rfl rfl) rfl ?_
  rintro _ _ ⟨g3, rfl, rfl⟩
  refine ne (eo_as rfl rfl) rfl ?_
  refine go_nil ?_
  refine gq_next ?_
  refine gc_seq ?_
  refine gc_region ?_
  refine ne (eo_mv rfl rfl) rfl ?_
  refine ne (eo_remk rfl rfl rfl (by first | omega | (have hvv := chk_te hg0.1.1.2; have vv := vldB_iff.1 hvv; have hmm := prod_bd (x := W) (num := max nn (0 - nn)) (by omega) (by omega) (by omega) (by omega); have hmn : 0 ≤ W * max nn (0 - nn) := Int.mul_nonneg (by omega) (by omega); omega)) (by first | omega | (have hvv := chk_te hg0.1.1.2; have vv := vldB_iff.1 hvv; have hmm := prod_bd (x := W) (num := max nn (0 - nn)) (by omega) (by omega) (by omega) (by omega); have hmn : 0 ≤ W * max nn (0 - nn) := Int.mul_nonneg (by omega) (by omega); omega))) rfl ?_
  refine ne (eo_convi rfl rfl ⟨_, Try.underlying41⟩ Try.underlying3 (by first | omega | (have hvv := chk_te hg0.1.1.2; have vv := vldB_iff.1 hvv; have hmm := prod_bd (x := W) (num := max nn (0 - nn)) (by omega) (by omega) (by omega) (by omega); have hmn : 0 ≤ W * max nn (0 - nn) := Int.mul_nonneg (by omega) (by omega); omega)) (by first | omega | (have hvv := chk_te hg0.1.1.2; have vv := vldB_iff.1 hvv; have hmm := prod_bd (x := W) (num := max nn (0 - nn)) (by omega) (by omega) (by omega) (by omega); have hmn : 0 ≤ W * max nn (0 - nn) := Int.mul_nonneg (by omega) (by omega); omega))) rfl ?_
  refine ne (eo_add rfl rfl rfl (by first | omega | (have hvv := chk_te hg0.1.1.2; have vv := vldB_iff.1 hvv; have hmm := prod_bd (x := W) (num := max nn (0 - nn)) (by omega) (by omega) (by omega) (by omega); have hmn : 0 ≤ W * max nn (0 - nn) := Int.mul_nonneg (by omega) (by omega); omega)) (by first | omega | (have hvv := chk_te hg0.1.1.2; have vv := vldB_iff.1 hvv; have hmm := prod_bd (x := W) (num := max nn (0 - nn)) (by omega) (by omega) (by omega) (by omega); have hmn : 0 ≤ W * max nn (0 - nn) := Int.mul_nonneg (by omega) (by omega); omega))) rfl ?_
  refine ne (eo_as rfl rfl) rfl ?_
  refine go_nil ?_
  refine gq_next ?_
  refine gc_seq ?_
  refine gc_seq ?_
  refine gc_region ?_
  refine ne (eo_loadA 0 rfl a24 rfl rfl rfl rfl) rfl ?_
  refine ne (eo_call rfl en11 rfl (fun W1 hO => few_c _ _ _ _ _ _ W1 (hr.old0 hO) )) rfl ?_
  refine ne (eo_not rfl rfl) rfl ?_
  refine ne (eo_mv rfl rfl) rfl ?_
  refine ng rfl rfl (fun h => eo_loadA 0 rfl a24 rfl rfl rfl rfl) rfl ?_
  refine ng rfl rfl (fun h => eo_call rfl en25 (evs_cons (ev_if h rfl) evs_nil) (fun W1 hO => rcheck_c _ _ _ _ _ W1  )) rfl ?_
  refine ng rfl rfl (fun h => eo_neq rfl (ev_if h rfl) rfl) rfl ?_
  refine ne (eo_or rfl rfl (fun hb => ev_if hb rfl)) rfl ?_
  refine ne (eo_mv rfl rfl) rfl ?_
  refine ng rfl rfl (fun h => eo_mv rfl rfl) rfl ?_
  refine ng rfl rfl (fun h => eo_convi rfl (ev_if h rfl) ⟨_, Try.underlying47⟩ Try.underlying3 (by have hg0 := (or_f h).imp (fun h => (not_f h)) (fun h => ne_f h); first | omega | (have hvv := chk_te hg0.1.1.2; have vv := vldB_iff.1 hvv; have hmm := prod_bd (x := W) (num := max nn (0 - nn)) (by omega) (by omega) (by omega) (by omega); have hmn : 0 ≤ W * max nn (0 - nn) := Int.mul_nonneg (by omega) (by omega); omega)) (by have hg0 := (or_f h).imp (fun h => (not_f h)) (fun h => ne_f h); first | omega | (have hvv := chk_te hg0.1.1.2; have vv := vldB_iff.1 hvv; have hmm := prod_bd (x := W) (num := max nn (0 - nn)) (by omega) (by omega) (by omega) (by omega); have hmn : 0 ≤ W * max nn (0 - nn) := Int.mul_nonneg (by omega) (by omega); omega))) rfl ?_
  refine ng rfl rfl (fun h => eo_gtr rfl (ev_if h rfl) rfl) rfl ?_
  refine ne (eo_or rfl rfl (fun hb => ev_if hb rfl)) rfl ?_
  refine ne (eo_mv rfl rfl) rfl ?_
  refine ng rfl rfl (fun h => eo_mv rfl rfl) rfl ?_
  refine ng rfl rfl (fun h => eo_convi rfl (ev_if h rfl) ⟨_, Try.underlying47⟩ Try.underlying3 (by have hg0 := (or_f h).imp (fun h => (or_f h).imp (fun h => (not_f h)) (fun h => ne_f h)) (fun h => of_decide_eq_false h); first | omega | (have hvv := chk_te hg0.1.1.2; have vv := vldB_iff.1 hvv; have hmm := prod_bd (x := W) (num := max nn (0 - nn)) (by omega) (by omega) (by omega) (by omega); have hmn : 0 ≤ W * max nn (0 - nn) := Int.mul_nonneg (by omega) (by omega); omega)) (by have hg0 := (or_f h).imp (fun h => (or_f h).imp (fun h => (not_f h)) (fun h => ne_f h)) (fun h => of_decide_eq_false h); first | omega | (have hvv := chk_te hg0.1.1.2; have vv := vldB_iff.1 hvv; have hmm := prod_bd (x := W) (num := max nn (0 - nn)) (by omega) (by omega) (by omega) (by omega); have hmn : 0 ≤ W * max nn (0 - nn) := Int.mul_nonneg (by omega) (by omega); omega))) rfl ?_
  refine ng rfl rfl (fun h => eo_lss rfl (ev_if h rfl) rfl) rfl ?_
  refine ne (eo_or rfl rfl (fun hb => ev_if hb rfl)) rfl ?_
  refine ne (eo_mv rfl rfl) rfl ?_
  refine ng rfl rfl (fun h => eo_field rfl f24_0 rfl) rfl ?_
  refine ng rfl rfl (fun h => eo_load 0 rfl s3 (ev_if h rfl) rfl rfl rfl) rfl ?_
  refine ng rfl rfl (fun h => eo_mv rfl rfl) rfl ?_
  refine ng rfl rfl (fun h => eo_convi rfl (ev_if h rfl) ⟨_, Try.underlying47⟩ Try.underlying3 (by have hg0 := (or_f h).imp (fun h => (or_f h).imp (fun h => (or_f h).imp (fun h => (not_f h)) (fun h => ne_f h)) (fun h => of_decide_eq_false h)) (fun h => of_decide_eq_false h); first | omega | (have hvv := chk_te hg0.1.1.2; have vv := vldB_iff.1 hvv; have hmm := prod_bd (x := W) (num := max nn (0 - nn)) (by omega) (by omega) (by omega) (by omega); have hmn : 0 ≤ W * max nn (0 - nn) := Int.mul_nonneg (by omega) (by omega); omega)) (by have hg0 := (or_f h).imp (fun h => (or_f h).imp (fun h => (or_f h).imp (fun h => (not_f h)) (fun h => ne_f h)) (fun h => of_decide_eq_false h)) (fun h => of_decide_eq_false h); first | omega | (have hvv := chk_te hg0.1.1.2; have vv := vldB_iff.1 hvv; have hmm := prod_bd (x := W) (num := max nn (0 - nn)) (by omega) (by omega) (by omega) (by omega); have hmn : 0 ≤ W * max nn (0 - nn) := Int.mul_nonneg (by omega) (by omega); omega))) rfl ?_
  refine ng rfl rfl (fun h => eo_mv rfl rfl) rfl ?_
  refine ng rfl rfl (fun h => eo_convi rfl (ev_if h rfl) ⟨_, Try.underlying47⟩ Try.underlying3 (by have hg0 := (or_f h).imp (fun h => (or_f h).imp (fun h => (or_f h).imp (fun h => (not_f h)) (fun h => ne_f h)) (fun h => of_decide_eq_false h)) (fun h => of_decide_eq_false h); first | omega | (have hvv := chk_te hg0.1.1.2; have vv := vldB_iff.1 hvv; have hmm := prod_bd (x := W) (num := max nn (0 - nn)) (by omega) (by omega) (by omega) (by omega); have hmn : 0 ≤ W * max nn (0 - nn) := Int.mul_nonneg (by omega) (by omega); omega)) (by have hg0 := (or_f h).imp (fun h => (or_f h).imp (fun h => (or_f h).imp (fun h => (not_f h)) (fun h => ne_f h)) (fun h => of_decide_eq_false h)) (fun h => of_decide_eq_false h); first | omega | (have hvv := chk_te hg0.1.1.2; have vv := vldB_iff.1 hvv; have hmm := prod_bd (x := W) (num := max nn (0 - nn)) (by omega) (by omega) (by omega) (by omega); have hmn : 0 ≤ W * max nn (0 - nn) := Int.mul_nonneg (by omega) (by omega); omega))) rfl ?_
  refine ng rfl rfl (fun h => eo_sub rfl rfl (ev_if h rfl) (by have hg0 := (or_f h).imp (fun h => (or_f h).imp (fun h => (or_f h).imp (fun h => (not_f h)) (fun h => ne_f h)) (fun h => of_decide_eq_false h)) (fun h => of_decide_eq_false h); first | omega | (have hvv := chk_te hg0.1.1.2; have vv := vldB_iff.1 hvv; have hmm := prod_bd (x := W) (num := max nn (0 - nn)) (by omega) (by omega) (by omega) (by omega); have hmn : 0 ≤ W * max nn (0 - nn) := Int.mul_nonneg (by omega) (by omega); omega)) (by have hg0 := (or_f h).imp (fun h => (or_f h).imp (fun h => (or_f h).imp (fun h => (not_f h)) (fun h => ne_f h)) (fun h => of_decide_eq_false h)) (fun h => of_decide_eq_false h); first | omega | (have hvv := chk_te hg0.1.1.2; have vv := vldB_iff.1 hvv; have hmm := prod_bd (x := W) (num := max nn (0 - nn)) (by omega) (by omega) (by omega) (by omega); have hmn : 0 ≤ W * max nn (0 - nn) := Int.mul_nonneg (by omega) (by omega); omega))) rfl ?_
  refine ng rfl rfl (fun h => eo_max rfl (ev_if h rfl) (ev_if h rfl)) rfl ?_
  refine ng rfl rfl (fun h => eo_mul rfl (ev_if h rfl) (ev_if h rfl) (by have hg0 := (or_f h).imp (fun h => (or_f h).imp (fun h => (or_f h).imp (fun h => (not_f h)) (fun h => ne_f h)) (fun h => of_decide_eq_false h)) (fun h => of_decide_eq_false h); first | omega | (have hvv := chk_te hg0.1.1.2; have vv := vldB_iff.1 hvv; have hmm := prod_bd (x := W) (num := max nn (0 - nn)) (by omega) (by omega) (by omega) (by omega); have hmn : 0 ≤ W * max nn (0 - nn) := Int.mul_nonneg (by omega) (by omega); omega)) (by have hg0 := (or_f h).imp (fun h => (or_f h).imp (fun h => (or_f h).imp (fun h => (not_f h)) (fun h => ne_f h)) (fun h => of_decide_eq_false h)) (fun h => of_decide_eq_false h); first | omega | (have hvv := chk_te hg0.1.1.2; have vv := vldB_iff.1 hvv; have hmm := prod_bd (x := W) (num := max nn (0 - nn)) (by omega) (by omega) (by omega) (by omega); have hmn : 0 ≤ W * max nn (0 - nn) := Int.mul_nonneg (by omega) (by omega); omega))) rfl ?_
  refine ng rfl rfl (fun h => eo_mv rfl rfl) rfl ?_
  refine ng rfl rfl (fun h => eo_quo rfl (ev_if h rfl) (ev_if h rfl) (by have hg0 := (or_f h).imp (fun h => (or_f h).imp (fun h => (or_f h).imp (fun h => (not_f h)) (fun h => ne_f h)) (fun h => of_decide_eq_false h)) (fun h => of_decide_eq_false h); first | omega | (have hvv := chk_te hg0.1.1.2; have vv := vldB_iff.1 hvv; have hmm := prod_bd (x := W) (num := max nn (0 - nn)) (by omega) (by omega) (by omega) (by omega); have hmn : 0 ≤ W * max nn (0 - nn) := Int.mul_nonneg (by omega) (by omega); omega)) (by have hg0 := (or_f h).imp (fun h => (or_f h).imp (fun h => (or_f h).imp (fun h => (not_f h)) (fun h => ne_f h)) (fun h => of_decide_eq_false h)) (fun h => of_decide_eq_false h); first | omega | (have hvv := chk_te hg0.1.1.2; have vv := vldB_iff.1 hvv; have hmm := prod_bd (x := W) (num := max nn (0 - nn)) (by omega) (by omega) (by omega) (by omega); have hmn : 0 ≤ W * max nn (0 - nn) := Int.mul_nonneg (by omega) (by omega); omega)) (by have hg0 := (or_f h).imp (fun h => (or_f h).imp (fun h => (or_f h).imp (fun h => (not_f h)) (fun h => ne_f h)) (fun h => of_decide_eq_false h)) (fun h => of_decide_eq_false h); first | omega | (have hvv := chk_te hg0.1.1.2; have vv := vldB_iff.1 hvv; have hmm := prod_bd (x := W) (num := max nn (0 - nn)) (by omega) (by omega) (by omega) (by omega); have hmn : 0 ≤ W * max nn (0 - nn) := Int.mul_nonneg (by omega) (by omega); omega))) rfl ?_
  refine ng rfl rfl (fun h => eo_gtr rfl (ev_if h rfl) rfl) rfl ?_
  refine ne (eo_or rfl rfl (fun hb => ev_if hb rfl)) rfl ?_
  refine go_nil ?_
  refine gq_next ?_
  refine gc_cond rfl (fun hc0 => ?_) (fun hc0 => ?_)
  ·
    have hd0 := (or_t hc0).imp (fun h => (or_t h).imp (fun h => (or_t h).imp (fun h => (or_t h).imp (fun h => (not_t h)) (fun h => of_decide_eq_true h)) (fun h => of_decide_eq_true h)) (fun h => of_decide_eq_true h)) (fun h => of_decide_eq_true h)
    refine gc_seq ?_
    refine gc_region ?_
    refine ne (eo_call rfl en13 rfl (fun W1 hO => exam45_c W1  )) rfl ?_
    refine ne (eo_as rfl rfl) rfl ?_
    refine go_nil ?_
    refine gq_next ?_
    refine gc_ret ?_
    refine gq_then_ret ?_
    refine gq_results (res1 rfl rfl) ?_
    exact fun W1 hO => ⟨rfl, hO.toExt⟩
  ·
    have hd0 := (or_f hc0).imp (fun h => (or_f h).imp (fun h => (or_f h).imp (fun h => (or_f h).imp (fun h => (not_f h)) (fun h => ne_f h)) (fun h => of_decide_eq_false h)) (fun h => of_decide_eq_false h)) (fun h => of_decide_eq_false h)
    obtain ⟨⟨⟨⟨hq0, hq1⟩, hq2⟩, hq3⟩, hq4⟩ := hd0
    have hn15 := of_decide_eq_true hq0
    have hv := chk_te hq1
    obtain ⟨v1, v2, v3, v4, v5, v6⟩ := vldB_iff.1 hv
    have v7 := vld_pos hv
    have hdp : 1 ≤ (1 + (dn % 4096)) := by omega
    have hsl : slopeB nn (1 + (dn % 4096)) = true := slopeB_iff.2 (by omega)
    have hsm := shMax_le (W := W) (num := nn) (den := (1 + (dn % 4096))) hdp v1 hq4
    have hs0 := shMax_nn (W := W) (num := nn) (den := (1 + (dn % 4096))) hdp v1
    obtain ⟨hfit, hva⟩ := keeps_fit hv hn15 hs0 hsm
    have hsh := shearR_ok (f := f) hv hsl hfit
    have hen := energyR_ok (f := f) hv hsl
    have hfl := shear_flat (f := f) hv hdp (by omega)
    have hpr : profR (shearR ⟨W, H, n, f⟩ nn (1 + (dn % 4096))).1 = (((H + shMax W nn (1 + (dn % 4096))).toNat, fun y : Nat => histN (shP W nn (1 + (dn % 4096)) f n) (fun j => (j : Int) / W) (W * (H + shMax W nn (1 + (dn % 4096)))).toNat (y : Int)), 0) := by rw [hsh]; exact profR_ok hva
    have hel : ∀ v : Nat, (profR (shearR ⟨W, H, n, f⟩ nn (1 + (dn % 4096))).1).1.2 v = histN f (keyI W nn (1 + (dn % 4096))) n v := fun v => by rw [hpr]; exact shear_prof hv hdp
    have hlen : (profR (shearR ⟨W, H, n, f⟩ nn (1 + (dn % 4096))).1).1.1 = (H + shMax W nn (1 + (dn % 4096))).toNat := by rw [hpr]
    have hlen2 : (profR ⟨(shearR ⟨W, H, n, f⟩ nn (1 + (dn % 4096))).1.W, (shearR ⟨W, H, n, f⟩ nn (1 + (dn % 4096))).1.H, (shearR ⟨W, H, n, f⟩ nn (1 + (dn % 4096))).1.n, (shearR ⟨W, H, n, f⟩ nn (1 + (dn % 4096))).1.f⟩).1.1 = (H + shMax W nn (1 + (dn % 4096))).toNat := hlen
    have haH : (shearR ⟨W, H, n, f⟩ nn (1 + (dn % 4096))).1.H = H + shMax W nn (1 + (dn % 4096)) := by rw [hsh]
    have hfb := fits_bd hfit
    have hfi := fitsB_iff.1 hfit
    refine gc_skip ?_
    refine gq_next ?_
    refine gc_seq ?_
    refine gc_region ?_
    refine ne (eo_loadA 0 rfl a24 rfl rfl rfl rfl) rfl ?_
    refine ne (eo_mv rfl rfl) rfl ?_
    refine ne (eo_convi rfl rfl ⟨_, Try.underlying47⟩ Try.underlying3 (by first | omega | (have hvv := chk_te hg0.1.1.2; have vv := vldB_iff.1 hvv; have hmm := prod_bd (x := W) (num := max nn (0 - nn)) (by omega) (by omega) (by omega) (by omega); have hmn : 0 ≤ W * max nn (0 - nn) := Int.mul_nonneg (by omega) (by omega); omega)) (by first | omega | (have hvv := chk_te hg0.1.1.2; have vv := vldB_iff.1 hvv; have hmm := prod_bd (x := W) (num := max nn (0 - nn)) (by omega) (by omega) (by omega) (by omega); have hmn : 0 ≤ W * max nn (0 - nn) := Int.mul_nonneg (by omega) (by omega); omega))) rfl ?_
    refine ne (eo_mv rfl rfl) rfl ?_
    refine nx (xo_freshT rfl en14 rfl (fun W1 hO => shear_x _ _ _ _ _ _ _ _ W1 (hr.old0 hO) )) rfl ?_
    rintro _ _ ⟨S61, ⟨A61, k61, rfl, hk61, hS61⟩, rfl⟩
    refine ne (eo_mv rfl rfl) rfl ?_
    refine ne (eo_extract rfl rfl rfl) rfl ?_
    refine ne (eo_extract rfl rfl rfl) rfl ?_
    refine nx (xo_alloc rfl z24) rfl ?_
    rintro _ _ ⟨g8, rfl, rfl⟩
    refine nu (xo_storeA 0 rfl a24 rfl rfl (ones_cons (by first | rfl | exact AS.one) (ones_cons (by first | rfl | exact AS.one) (ones_cons (by first | rfl | exact AS.one) ones_nil))) rfl rfl rfl rfl) ?_
    rintro _ _ ⟨rfl, rfl⟩
    refine ne (eo_as rfl rfl) rfl ?_
    refine go_nil ?_
    refine gq_next ?_
    refine gc_seq ?_
    refine gc_region ?_
    refine ne (eo_loadA 1 rfl a24 rfl rfl rfl rfl) rfl ?_
    refine ne (eo_mv rfl rfl) rfl ?_
    refine ne (eo_convi rfl rfl ⟨_, Try.underlying47⟩ Try.underlying3 (by first | omega | (have hvv := chk_te hg0.1.1.2; have vv := vldB_iff.1 hvv; have hmm := prod_bd (x := W) (num := max nn (0 - nn)) (by omega) (by omega) (by omega) (by omega); have hmn : 0 ≤ W * max nn (0 - nn) := Int.mul_nonneg (by omega) (by omega); omega)) (by first | omega | (have hvv := chk_te hg0.1.1.2; have vv := vldB_iff.1 hvv; have hmm := prod_bd (x := W) (num := max nn (0 - nn)) (by omega) (by omega) (by omega) (by omega); have hmn : 0 ≤ W * max nn (0 - nn) := Int.mul_nonneg (by omega) (by omega); omega))) rfl ?_
    refine ne (eo_mv rfl rfl) rfl ?_
    refine ne (eo_call rfl en17 rfl (fun W1 hO => energy_c _ _ _ _ _ _ _ _ W1 (hr.old0 hO) hnc)) rfl ?_
    refine ne (eo_mv rfl rfl) rfl ?_
    refine ne (eo_extract rfl rfl rfl) rfl ?_
    refine ne (eo_extract rfl rfl rfl) rfl ?_
    refine ne (eo_as rfl rfl) rfl ?_
    refine ne (eo_as rfl rfl) rfl ?_
    refine go_nil ?_
    refine gq_next ?_
    refine gc_seq ?_
    refine gc_region ?_
    refine ne (eo_loadA 0 rfl a24 rfl rfl rfl rfl) rfl ?_
    refine nx (xo_freshT rfl en26 rfl (fun W1 hO => prof_x _ _ _ _ _ _ W1 (hS61.rd (hO.tl 2 rfl (List.Sublist.refl _))) )) rfl ?_
    rintro _ _ ⟨S74, ⟨A74, k74, rfl, hk74, hS74⟩, rfl⟩
    refine ne (eo_mv rfl rfl) rfl ?_
    refine ne (eo_extract rfl rfl rfl) rfl ?_
    refine ne (eo_extract rfl rfl rfl) rfl ?_
    refine ne (eo_as rfl rfl) rfl ?_
    refine ne (eo_as rfl rfl) rfl ?_
    refine go_nil ?_
    refine gq_next ?_
    refine gc_seq ?_
    refine gc_region ?_
    refine ne (eo_loadA 1 rfl a24 rfl rfl rfl rfl) rfl ?_
    refine ne (eo_mv rfl rfl) rfl ?_
    refine nx (xo_freshT rfl en14 rfl (fun W1 hO => shear_x _ _ _ _ _ _ _ _ W1 (hr.old0 hO) )) rfl ?_
    rintro _ _ ⟨S80, ⟨A80, k80, rfl, hk80, hS80⟩, rfl⟩
    refine ne (eo_mv rfl rfl) rfl ?_
    refine ne (eo_extract rfl rfl rfl) rfl ?_
    refine ne (eo_extract rfl rfl rfl) rfl ?_
    refine nx (xo_alloc rfl z24) rfl ?_
    rintro _ _ ⟨g14, rfl, rfl⟩
    refine nu (xo_storeA 0 rfl a24 rfl rfl (ones_cons (by first | rfl | exact AS.one) (ones_cons (by first | rfl | exact AS.one) (ones_cons (by first | rfl | exact AS.one) ones_nil))) rfl rfl rfl rfl) ?_
    rintro _ _ ⟨rfl, rfl⟩
    refine ne (eo_as rfl rfl) rfl ?_
    refine go_nil ?_
    refine gq_next ?_
    refine gc_seq ?_
    refine gc_seq ?_
    refine gc_region ?_
    refine ne (eo_mv rfl rfl) rfl ?_
    refine ne (eo_neq rfl rfl rfl) rfl ?_
    refine ne (eo_mv rfl rfl) rfl ?_
    refine ng rfl rfl (fun h => eo_mv rfl rfl) rfl ?_
    refine ng rfl rfl (fun h => eo_neq rfl (ev_if h rfl) rfl) rfl ?_
    refine ne (eo_or rfl rfl (fun hb => ev_if hb rfl)) rfl ?_
    refine ne (eo_mv rfl rfl) rfl ?_
    refine ng rfl rfl (fun h => eo_mv rfl rfl) rfl ?_
    refine ng rfl rfl (fun h => eo_neq rfl (ev_if h rfl) rfl) rfl ?_
    refine ne (eo_or rfl rfl (fun hb => ev_if hb rfl)) rfl ?_
    refine ne (eo_mv rfl rfl) rfl ?_
    refine ng rfl rfl (fun h => eo_mv rfl rfl) rfl ?_
    refine ng rfl rfl (fun h => eo_neq rfl (ev_if h rfl) rfl) rfl ?_
    refine ne (eo_or rfl rfl (fun hb => ev_if hb rfl)) rfl ?_
    refine ne (eo_mv rfl rfl) rfl ?_
    refine ng rfl rfl (fun h => eo_field rfl f24_0 rfl) rfl ?_
    refine ng rfl rfl (fun h => eo_load 1 rfl s3 (ev_if h rfl) rfl rfl rfl) rfl ?_
    refine ng rfl rfl (fun h => eo_field rfl f24_0 rfl) rfl ?_
    refine ng rfl rfl (fun h => eo_load 2 rfl s3 (ev_if h rfl) rfl rfl rfl) rfl ?_
    refine ng rfl rfl (fun h => eo_neq rfl (ev_if h rfl) (ev_if h rfl)) rfl ?_
    refine ne (eo_or rfl rfl (fun hb => ev_if hb rfl)) rfl ?_
    refine ne (eo_mv rfl rfl) rfl ?_
    refine ng rfl rfl (fun h => eo_loadA 0 rfl a24 rfl rfl rfl rfl) rfl ?_
    refine ng rfl rfl (fun h => eo_loadA 2 rfl a24 rfl rfl rfl rfl) rfl ?_
    refine ng rfl rfl (fun h => eo_call rfl en16 (evs_cons (ev_if h rfl) (evs_cons (ev_if h rfl) evs_nil)) (fun W1 hO => requal_c _ _ _ _ _ _ _ _ _ _ _ _ W1 (Nat.le_trans shearR_le (by decide)) (hS80.rd (hO.tl 3 rfl (List.sublist_append_right _ _))) (hr.old0 hO))) rfl ?_
    refine ng rfl rfl (fun h => eo_not rfl (ev_if h rfl)) rfl ?_
    refine ne (eo_or rfl rfl (fun hb => ev_if hb rfl)) rfl ?_
    refine go_nil ?_
    refine gq_next ?_
    refine gc_cond rfl (fun hc1 => ?_) (fun hc1 => ?_)
    ·
      have hd1 := (or_t hc1).imp (fun h => (or_t h).imp (fun h => (or_t h).imp (fun h => (or_t h).imp (fun h => (or_t h).imp (fun h => of_decide_eq_true h) (fun h => of_decide_eq_true h)) (fun h => of_decide_eq_true h)) (fun h => of_decide_eq_true h)) (fun h => of_decide_eq_true h)) (fun h => (not_t h))
      exact Bool.noConfusion (hc1.symm.trans (show (((((decide ((shearR ⟨W, H, n, f⟩ nn (1 + (dn % 4096))).2 ≠ 0) || decide ((energyR ⟨W, H, n, f⟩ nn (1 + (dn % 4096))).2 ≠ 0)) || decide ((profR (shearR ⟨W, H, n, f⟩ nn (1 + (dn % 4096))).1).2 ≠ 0)) || decide ((shearR ⟨W, H, n, f⟩ 0 (1 + (dn % 4096))).2 ≠ 0)) || decide ((shearR ⟨W, H, n, f⟩ nn (1 + (dn % 4096))).1.W ≠ W)) || (!(eqP (shearR ⟨W, H, n, f⟩ 0 (1 + (dn % 4096))).1 ⟨W, H, n, f⟩))) = false from by rw [hpr, hsh, hen, hfl.1, hfl.2]; simp))
    ·
      have hd1 := (or_f hc1).imp (fun h => (or_f h).imp (fun h => (or_f h).imp (fun h => (or_f h).imp (fun h => (or_f h).imp (fun h => ne_f h) (fun h => ne_f h)) (fun h => ne_f h)) (fun h => ne_f h)) (fun h => ne_f h)) (fun h => (not_f h))
      refine gc_skip ?_
      refine gq_next ?_
      refine gc_seq ?_
      refine gc_seq ?_
      refine gc_region ?_
      refine ne (eo_as rfl rfl) rfl ?_
      refine go_nil ?_
      refine gq_next ?_
      refine gc_block ?_
      refine loop1 (fun (x : Nat) => (x : Int) ≤ W) (fun (x : Nat) => (W - x).toNat) (fun (x : Nat) => [(3, .pointer (some ⟨g3, 0, none⟩)), (8, .pointer (some ⟨g8, 0, none⟩)), (10, .int .i64 ((energyR ⟨W, H, n, f⟩ nn (1 + (dn % 4096))).1)), (12, .slice A74 ((profR (shearR ⟨W, H, n, f⟩ nn (1 + (dn % 4096))).1).1.1) k74), (16, .int .i64 (x : Int))]) (fun (x : Nat) => ⟨g14, 24, [.int .i64 ((shearR ⟨W, H, n, f⟩ 0 (1 + (dn % 4096))).1.W), .int .i64 ((shearR ⟨W, H, n, f⟩ 0 (1 + (dn % 4096))).1.H), .slice A80 ((shearR ⟨W, H, n, f⟩ 0 (1 + (dn % 4096))).1.n) k80]⟩ :: ⟨g8, 24, [.int .i64 ((shearR ⟨W, H, n, f⟩ nn (1 + (dn % 4096))).1.W), .int .i64 ((shearR ⟨W, H, n, f⟩ nn (1 + (dn % 4096))).1.H), .slice A61 ((shearR ⟨W, H, n, f⟩ nn (1 + (dn % 4096))).1.n) k61]⟩ :: ⟨g3, 24, [.int .i64 W, .int .i64 H, .slice A n c]⟩ :: ((S61 ++ S74) ++ S80)) 0 (by omega) ⟨rfl, rfl, rfl, rfl, rfl, trivial⟩ (List.Sublist.refl _) ?_
      intro x hI
      refine gc_seq ?_
      refine gc_seq ?_
      refine gc_region ?_
      refine ne (eo_mv rfl rfl) rfl ?_
      refine ne (eo_field rfl f24_0 rfl) rfl ?_
      refine ne (eo_load 2 rfl s3 rfl rfl rfl rfl) rfl ?_
      refine ne (eo_lss rfl rfl rfl) rfl ?_
      refine go_nil ?_
      refine gq_next ?_
      refine gc_cond rfl (fun hc2 => ?_) (fun hc2 => ?_)
      ·
        replace hc2 := of_decide_eq_true hc2
        refine gc_skip ?_
        refine gq_next ?_
        refine gc_seq ?_
        refine gc_block ?_
        refine gc_seq ?_
        refine gc_draw [] [0, 1, 2, 3, 4, 5, 6] [] [] (by kernel_rfl) (by kernel_rfl) ?_
        refine gp_nil ?_
        refine de rfl (eo_loadA 1 rfl a24 rfl rfl rfl rfl) rfl ?_
        refine de rfl (eo_mv rfl rfl) rfl ?_
        refine de rfl (eo_call rfl en28 rfl (fun W1 hO => col_c _ _ _ _ _ _ _ W1 (hS61.rd (hO.tl 3 rfl ((List.sublist_append_left _ _).trans (List.sublist_append_left _ _)))) (by omega))) rfl ?_
        refine de rfl (eo_loadA 2 rfl a24 rfl rfl rfl rfl) rfl ?_
        refine de rfl (eo_mv rfl rfl) rfl ?_
        refine de rfl (eo_call rfl en28 rfl (fun W1 hO => col_c _ _ _ _ _ _ _ W1 (hr.old0 hO) (by omega))) rfl ?_
        refine de rfl (eo_neq rfl rfl rfl) rfl ?_
        refine ge_nil ?_
        refine ga_nil ?_
        refine gi_nil ?_
        refine gq_nq ?_
        refine gq_next ?_
        refine gc_cond rfl (fun hc3 => ?_) (fun hc3 => ?_)
        ·
          replace hc3 := of_decide_eq_true hc3
          exact absurd (by rw [hsh]; exact (col_hist hva (by omega)).trans ((shear_col hv hdp).trans (col_hist hv (by omega)).symm)) hc3
        ·
          replace hc3 := of_decide_eq_false hc3
          refine gc_skip ?_
          refine gq_block_end ?_
          refine gq_next ?_
          refine gc_region ?_
          refine ne (eo_mv rfl rfl) rfl ?_
          refine ne (eo_add rfl rfl rfl (by first | omega | (have hvv := chk_te hg0.1.1.2; have vv := vldB_iff.1 hvv; have hmm := prod_bd (x := W) (num := max nn (0 - nn)) (by omega) (by omega) (by omega) (by omega); have hmn : 0 ≤ W * max nn (0 - nn) := Int.mul_nonneg (by omega) (by omega); omega)) (by first | omega | (have hvv := chk_te hg0.1.1.2; have vv := vldB_iff.1 hvv; have hmm := prod_bd (x := W) (num := max nn (0 - nn)) (by omega) (by omega) (by omega) (by omega); have hmn : 0 ≤ W * max nn (0 - nn) := Int.mul_nonneg (by omega) (by omega); omega))) rfl ?_
          refine ne (eo_as rfl rfl) rfl ?_
          refine go_nil ?_
          exact round1 (x + 1) (by omega) (by omega) ⟨rfl, rfl, rfl, rfl, rfl, trivial⟩ (List.Sublist.refl _)
      ·
        replace hc2 := of_decide_eq_false hc2
        refine gc_exit ?_
        refine gq_then_exit ?_
        refine gq_then_exit ?_
        refine gq_block_hit ?_
        refine gq_next ?_
        refine gc_seq ?_
        refine gc_region ?_
        refine ne (eo_as rfl rfl) rfl ?_
        refine go_nil ?_
        refine gq_next ?_
        refine gc_seq ?_
        refine gc_seq ?_
        refine gc_region ?_
        refine ne (eo_as rfl rfl) rfl ?_
        refine go_nil ?_
        refine gq_next ?_
        refine gc_block ?_
        refine loop2 (fun (r : Nat) (sm : Int) => r ≤ (H + shMax W nn (1 + (dn % 4096))).toNat ∧ sm = sumN (fun v => histN f (keyI W nn (1 + (dn % 4096))) n v * histN f (keyI W nn (1 + (dn % 4096))) n v) r) (fun (r : Nat) (sm : Int) => (H + shMax W nn (1 + (dn % 4096))).toNat - r) (fun (r : Nat) (sm : Int) => [(10, .int .i64 ((energyR ⟨W, H, n, f⟩ nn (1 + (dn % 4096))).1)), (12, .slice A74 ((profR (shearR ⟨W, H, n, f⟩ nn (1 + (dn % 4096))).1).1.1) k74), (17, .int .i64 sm), (18, .int .i64 (r : Int))]) (fun (r : Nat) (sm : Int) => ⟨g14, 24, [.int .i64 ((shearR ⟨W, H, n, f⟩ 0 (1 + (dn % 4096))).1.W), .int .i64 ((shearR ⟨W, H, n, f⟩ 0 (1 + (dn % 4096))).1.H), .slice A80 ((shearR ⟨W, H, n, f⟩ 0 (1 + (dn % 4096))).1.n) k80]⟩ :: ⟨g8, 24, [.int .i64 ((shearR ⟨W, H, n, f⟩ nn (1 + (dn % 4096))).1.W), .int .i64 ((shearR ⟨W, H, n, f⟩ nn (1 + (dn % 4096))).1.H), .slice A61 ((shearR ⟨W, H, n, f⟩ nn (1 + (dn % 4096))).1.n) k61]⟩ :: ⟨g3, 24, [.int .i64 W, .int .i64 H, .slice A n c]⟩ :: ((S61 ++ S74) ++ S80)) 0 0 ⟨by omega, rfl⟩ ⟨rfl, rfl, rfl, rfl, trivial⟩ (List.Sublist.refl _) ?_
        rintro r sm ⟨hr1, hsum⟩
        refine gc_seq ?_
        refine gc_seq ?_
        refine gc_region ?_
        refine ne (eo_mv rfl rfl) rfl ?_
        refine ne (eo_mv rfl rfl) rfl ?_
        refine ne (eo_len rfl Try.underlying44 rfl) rfl ?_
        refine ne (eo_lss rfl rfl rfl) rfl ?_
        refine go_nil ?_
        refine gq_next ?_
        refine gc_cond rfl (fun hc4 => ?_) (fun hc4 => ?_)
        ·
          replace hc4 := of_decide_eq_true hc4
          have hb1 := en_bd (p := f) (key := (keyI W nn (1 + (dn % 4096)))) (n := n) (N := r) (by omega)
          have hb2 := en_bd (p := f) (key := (keyI W nn (1 + (dn % 4096)))) (n := n) (N := r + 1) (by omega)
          have hb3 : sumN (fun v => histN f (keyI W nn (1 + (dn % 4096))) n v * histN f (keyI W nn (1 + (dn % 4096))) n v) (r + 1) = sumN (fun v => histN f (keyI W nn (1 + (dn % 4096))) n v * histN f (keyI W nn (1 + (dn % 4096))) n v) r + histN f (keyI W nn (1 + (dn % 4096))) n r * histN f (keyI W nn (1 + (dn % 4096))) n r := rfl
          have hb4 := hist_bd (p := f) (key := (keyI W nn (1 + (dn % 4096)))) (n := n) (y := ((r : Nat) : Int))
          have hfk := hel r
          have hfk2 : (profR (shearR ⟨W, H, n, f⟩ nn (1 + (dn % 4096))).1).1.2 (r : Int).toNat = histN f (keyI W nn (1 + (dn % 4096))) n r := hfk
          have hb5 : (profR (shearR ⟨W, H, n, f⟩ nn (1 + (dn % 4096))).1).1.2 r * (profR (shearR ⟨W, H, n, f⟩ nn (1 + (dn % 4096))).1).1.2 r = histN f (keyI W nn (1 + (dn % 4096))) n r * histN f (keyI W nn (1 + (dn % 4096))) n r := by rw [hfk]
          have hb6 : (profR (shearR ⟨W, H, n, f⟩ nn (1 + (dn % 4096))).1).1.2 (r : Int).toNat * (profR (shearR ⟨W, H, n, f⟩ nn (1 + (dn % 4096))).1).1.2 (r : Int).toNat = histN f (keyI W nn (1 + (dn % 4096))) n r * histN f (keyI W nn (1 + (dn % 4096))) n r := hb5
          have hb7 : (profR ⟨(shearR ⟨W, H, n, f⟩ nn (1 + (dn % 4096))).1.W, (shearR ⟨W, H, n, f⟩ nn (1 + (dn % 4096))).1.H, (shearR ⟨W, H, n, f⟩ nn (1 + (dn % 4096))).1.n, (shearR ⟨W, H, n, f⟩ nn (1 + (dn % 4096))).1.f⟩).1.2 (r : Int).toNat = histN f (keyI W nn (1 + (dn % 4096))) n r := hfk
          have hb8 : (profR ⟨(shearR ⟨W, H, n, f⟩ nn (1 + (dn % 4096))).1.W, (shearR ⟨W, H, n, f⟩ nn (1 + (dn % 4096))).1.H, (shearR ⟨W, H, n, f⟩ nn (1 + (dn % 4096))).1.n, (shearR ⟨W, H, n, f⟩ nn (1 + (dn % 4096))).1.f⟩).1.2 (r : Int).toNat * (profR ⟨(shearR ⟨W, H, n, f⟩ nn (1 + (dn % 4096))).1.W, (shearR ⟨W, H, n, f⟩ nn (1 + (dn % 4096))).1.H, (shearR ⟨W, H, n, f⟩ nn (1 + (dn % 4096))).1.n, (shearR ⟨W, H, n, f⟩ nn (1 + (dn % 4096))).1.f⟩).1.2 (r : Int).toNat = histN f (keyI W nn (1 + (dn % 4096))) n r * histN f (keyI W nn (1 + (dn % 4096))) n r := hb5
          refine gc_skip ?_
          refine gq_next ?_
          refine gc_seq ?_
          refine gc_block ?_
          refine gc_draw [] [0, 1, 2, 3, 4, 5, 6, 7, 8, 9, 10, 11] [] [] (by kernel_rfl) (by kernel_rfl) ?_
          refine gp_nil ?_
          refine de rfl (eo_mv rfl rfl) rfl ?_
          refine de rfl (eo_mv rfl rfl) rfl ?_
          refine de rfl (eo_mv rfl rfl) rfl ?_
          refine de rfl (eo_indexS rfl sl44 rfl rfl (fun W1 hO => (hS74.rd (hO.tl 3 rfl ((List.sublist_append_right _ _).trans (List.sublist_append_left _ _))))) (by simp) (by first | omega | (have hvv := chk_te hg0.1.1.2; have vv := vldB_iff.1 hvv; have hmm := prod_bd (x := W) (num := max nn (0 - nn)) (by omega) (by omega) (by omega) (by omega); have hmn : 0 ≤ W * max nn (0 - nn) := Int.mul_nonneg (by omega) (by omega); omega)) (by first | omega | (have hvv := chk_te hg0.1.1.2; have vv := vldB_iff.1 hvv; have hmm := prod_bd (x := W) (num := max nn (0 - nn)) (by omega) (by omega) (by omega) (by omega); have hmn : 0 ≤ W * max nn (0 - nn) := Int.mul_nonneg (by omega) (by omega); omega))) rfl ?_
          refine de rfl (eo_loadS rfl s3 rfl (fun W1 hO => Rd.tabi (hS74.rd (hO.tl 3 rfl ((List.sublist_append_right _ _).trans (List.sublist_append_left _ _)))) (by first | omega | (have hvv := chk_te hg0.1.1.2; have vv := vldB_iff.1 hvv; have hmm := prod_bd (x := W) (num := max nn (0 - nn)) (by omega) (by omega) (by omega) (by omega); have hmn : 0 ≤ W * max nn (0 - nn) := Int.mul_nonneg (by omega) (by omega); omega)))) rfl ?_
          refine de rfl (eo_mv rfl rfl) rfl ?_
          refine de rfl (eo_mv rfl rfl) rfl ?_
          refine de rfl (eo_indexS rfl sl44 rfl rfl (fun W1 hO => (hS74.rd (hO.tl 3 rfl ((List.sublist_append_right _ _).trans (List.sublist_append_left _ _))))) (by simp) (by first | omega | (have hvv := chk_te hg0.1.1.2; have vv := vldB_iff.1 hvv; have hmm := prod_bd (x := W) (num := max nn (0 - nn)) (by omega) (by omega) (by omega) (by omega); have hmn : 0 ≤ W * max nn (0 - nn) := Int.mul_nonneg (by omega) (by omega); omega)) (by first | omega | (have hvv := chk_te hg0.1.1.2; have vv := vldB_iff.1 hvv; have hmm := prod_bd (x := W) (num := max nn (0 - nn)) (by omega) (by omega) (by omega) (by omega); have hmn : 0 ≤ W * max nn (0 - nn) := Int.mul_nonneg (by omega) (by omega); omega))) rfl ?_
          refine de rfl (eo_loadS rfl s3 rfl (fun W1 hO => Rd.tabi (hS74.rd (hO.tl 3 rfl ((List.sublist_append_right _ _).trans (List.sublist_append_left _ _)))) (by first | omega | (have hvv := chk_te hg0.1.1.2; have vv := vldB_iff.1 hvv; have hmm := prod_bd (x := W) (num := max nn (0 - nn)) (by omega) (by omega) (by omega) (by omega); have hmn : 0 ≤ W * max nn (0 - nn) := Int.mul_nonneg (by omega) (by omega); omega)))) rfl ?_
          refine de rfl (eo_mul rfl rfl rfl (by first | omega | (have hvv := chk_te hg0.1.1.2; have vv := vldB_iff.1 hvv; have hmm := prod_bd (x := W) (num := max nn (0 - nn)) (by omega) (by omega) (by omega) (by omega); have hmn : 0 ≤ W * max nn (0 - nn) := Int.mul_nonneg (by omega) (by omega); omega)) (by first | omega | (have hvv := chk_te hg0.1.1.2; have vv := vldB_iff.1 hvv; have hmm := prod_bd (x := W) (num := max nn (0 - nn)) (by omega) (by omega) (by omega) (by omega); have hmn : 0 ≤ W * max nn (0 - nn) := Int.mul_nonneg (by omega) (by omega); omega))) rfl ?_
          refine de rfl (eo_add rfl rfl rfl (by first | omega | (have hvv := chk_te hg0.1.1.2; have vv := vldB_iff.1 hvv; have hmm := prod_bd (x := W) (num := max nn (0 - nn)) (by omega) (by omega) (by omega) (by omega); have hmn : 0 ≤ W * max nn (0 - nn) := Int.mul_nonneg (by omega) (by omega); omega)) (by first | omega | (have hvv := chk_te hg0.1.1.2; have vv := vldB_iff.1 hvv; have hmm := prod_bd (x := W) (num := max nn (0 - nn)) (by omega) (by omega) (by omega) (by omega); have hmn : 0 ≤ W * max nn (0 - nn) := Int.mul_nonneg (by omega) (by omega); omega))) rfl ?_
          refine de rfl (eo_as rfl rfl) rfl ?_
          refine ge_nil ?_
          refine ga_nil ?_
          refine gi_nil ?_
          refine gq_nq ?_
          refine gq_block_end ?_
          refine gq_next ?_
          refine gc_region ?_
          refine ne (eo_mv rfl rfl) rfl ?_
          refine ne (eo_add rfl rfl rfl (by first | omega | (have hvv := chk_te hg0.1.1.2; have vv := vldB_iff.1 hvv; have hmm := prod_bd (x := W) (num := max nn (0 - nn)) (by omega) (by omega) (by omega) (by omega); have hmn : 0 ≤ W * max nn (0 - nn) := Int.mul_nonneg (by omega) (by omega); omega)) (by first | omega | (have hvv := chk_te hg0.1.1.2; have vv := vldB_iff.1 hvv; have hmm := prod_bd (x := W) (num := max nn (0 - nn)) (by omega) (by omega) (by omega) (by omega); have hmn : 0 ≤ W * max nn (0 - nn) := Int.mul_nonneg (by omega) (by omega); omega))) rfl ?_
          refine ne (eo_as rfl rfl) rfl ?_
          refine go_nil ?_
          exact round2 (r + 1) (sm + ((((profR (shearR ⟨W, H, n, f⟩ nn (1 + (dn % 4096))).1).1.2) (r)) * (((profR (shearR ⟨W, H, n, f⟩ nn (1 + (dn % 4096))).1).1.2) (r)))) ⟨by omega, by rw [hb3, ← hsum, hb5]⟩ (by omega) ⟨rfl, rfl, rfl, rfl, trivial⟩ (List.Sublist.refl _)
        ·
          replace hc4 := of_decide_eq_false hc4
          refine gc_exit ?_
          refine gq_then_exit ?_
          refine gq_then_exit ?_
          refine gq_block_hit ?_
          refine gq_next ?_
          refine gc_seq ?_
          refine gc_region ?_
          refine ne (eo_mv rfl rfl) rfl ?_
          refine ne (eo_mv rfl rfl) rfl ?_
          refine ne (eo_eql rfl rfl rfl) rfl ?_
          refine ne (eo_mv rfl rfl) rfl ?_
          refine ng rfl rfl (fun h => eo_call rfl en13 rfl (fun W1 hO => exam45_c W1  )) rfl ?_
          refine ne (eo_and rfl rfl (fun hb => ev_if hb rfl)) rfl ?_
          refine ne (eo_as rfl rfl) rfl ?_
          refine go_nil ?_
          refine gq_next ?_
          refine gc_ret ?_
          refine gq_results (res1 rfl rfl) ?_
          exact fun W1 hO => ⟨ret_bool (show (decide (sm = (energyR ⟨W, H, n, f⟩ nn (1 + (dn % 4096))).1) && true) = true from by rw [hen, hsum, show r = (H + shMax W nn (1 + (dn % 4096))).toNat by omega]; simp [enI]), hO.toExt⟩

end Go.Proofs.Ytmgkpdpmjhgekaa
