/-
  The walks of the functions of package skew and of the document's answer (part K): what each call returns, at every argument.
-/
import Derived.Test.YtmgkpdpmjhgekaaWF
namespace Go.Proofs.Ytmgkpdpmjhgekaa
open Go.RowKit Go.Eng

open Go.Bs
theorem en11 : Ent Try.prog 11 := ent_of Try.func11 (by kernel_rfl) rfl
theorem en12 : Ent Try.prog 12 := ent_of Try.func12 (by kernel_rfl) rfl
theorem en13 : Ent Try.prog 13 := ent_of Try.func13 (by kernel_rfl) rfl

/-- barscan/barscanlaw45.wide -/
theorem wide_c (W H : Int) (A : Option Addr) (n c : Nat) (f : Nat → Bool) (num : Int) (den : Int) (w : World) (hr : Rd w A (tab n (bv f)))  :
    Calls Try.prog 12 #[.agg #[.int .i64 W, .int .i64 H, .slice A n c], .int .i64 num, .int .i64 den] w (fun e w' => e = .returned (.bool (wideB W num den)) ∧ Ext w w') := by
  refine calls_enter (N := ⟨58, []⟩) [] ([]) Try.func12 rfl rfl rfl (Ow.start _) ?_
  refine gc_seq ?_
  refine gc_region ?_
  refine nx (xo_boxA rfl rfl) rfl ?_
  rintro _ _ ⟨g3, rfl, rfl⟩
  refine ne (eo_as rfl rfl) rfl ?_
  refine go_nil ?_
  refine gq_next ?_
  refine gc_seq ?_
  refine gc_region ?_
  refine ne (eo_mv rfl rfl) rfl ?_
  refine ne (eo_gtr rfl rfl rfl) rfl ?_
  refine ne (eo_mv rfl rfl) rfl ?_
  refine ng rfl rfl (fun h => eo_mv rfl rfl) rfl ?_
  refine ng rfl rfl (fun h => eo_leq rfl (ev_if h rfl) rfl) rfl ?_
  refine ne (eo_and rfl rfl (fun hb => ev_if hb rfl)) rfl ?_
  refine ne (eo_mv rfl rfl) rfl ?_
  refine ng rfl rfl (fun h => eo_mv rfl rfl) rfl ?_
  refine ng rfl rfl (fun h => eo_geq rfl (ev_if h rfl) rfl) rfl ?_
  refine ne (eo_and rfl rfl (fun hb => ev_if hb rfl)) rfl ?_
  refine ne (eo_mv rfl rfl) rfl ?_
  refine ng rfl rfl (fun h => eo_mv rfl rfl) rfl ?_
  refine ng rfl rfl (fun h => eo_leq rfl (ev_if h rfl) rfl) rfl ?_
  refine ne (eo_and rfl rfl (fun hb => ev_if hb rfl)) rfl ?_
  refine ne (eo_mv rfl rfl) rfl ?_
  refine ng rfl rfl (fun h => eo_field rfl f24_0 rfl) rfl ?_
  refine ng rfl rfl (fun h => eo_load 0 rfl s3 (ev_if h rfl) rfl rfl rfl) rfl ?_
  refine ng rfl rfl (fun h => eo_gtr rfl (ev_if h rfl) rfl) rfl ?_
  refine ne (eo_and rfl rfl (fun hb => ev_if hb rfl)) rfl ?_
  refine ne (eo_mv rfl rfl) rfl ?_
  refine ng rfl rfl (fun h => eo_field rfl f24_0 rfl) rfl ?_
  refine ng rfl rfl (fun h => eo_load 0 rfl s3 (ev_if h rfl) rfl rfl rfl) rfl ?_
  refine ng rfl rfl (fun h => eo_leq rfl (ev_if h rfl) rfl) rfl ?_
  refine ne (eo_and rfl rfl (fun hb => ev_if hb rfl)) rfl ?_
  refine ne (eo_mv rfl rfl) rfl ?_
  refine ng rfl rfl (fun h => eo_mv rfl rfl) rfl ?_
  refine ng rfl rfl (fun h => eo_gtr rfl (ev_if h rfl) rfl) rfl ?_
  refine ng rfl rfl (fun h => eo_mv rfl (ev_if h rfl)) rfl ?_
  refine ngc rfl rfl (fun h => eo_mv rfl rfl) rfl ?_
  refine ngc rfl rfl (fun h => eo_field rfl f24_0 rfl) rfl ?_
  refine ngc rfl rfl (fun h => eo_load 0 rfl s3 (ev_if h rfl) rfl rfl rfl) rfl ?_
  refine ngc rfl rfl (fun h => eo_mul rfl (ev_if h rfl) (ev_if h rfl) (by have hg1 := of_decide_eq_true h.2; have hg0 := (and_t h.1).imp (fun h => (and_t h).imp (fun h => (and_t h).imp (fun h => (and_t h).imp (fun h => (and_t h).imp (fun h => of_decide_eq_true h) (fun h => of_decide_eq_true h)) (fun h => of_decide_eq_true h)) (fun h => of_decide_eq_true h)) (fun h => of_decide_eq_true h)) (fun h => of_decide_eq_true h); first | omega | (have hm1 := prod_bd (x := W) (num := num) (by omega) (by omega) (by omega) (by omega); rw [Int.mul_comm] at hm1; have hm0 : 0 ≤ num → 0 ≤ num * W := fun h => Int.mul_nonneg h (by omega); omega) | (have hm1 := prod_bd (x := W) (num := 0 - num) (by omega) (by omega) (by omega) (by omega); rw [Int.mul_comm] at hm1; have hm0 : 0 ≤ 0 - num → 0 ≤ (0 - num) * W := fun h => Int.mul_nonneg h (by omega); omega)) (by have hg1 := of_decide_eq_true h.2; have hg0 := (and_t h.1).imp (fun h => (and_t h).imp (fun h => (and_t h).imp (fun h => (and_t h).imp (fun h => (and_t h).imp (fun h => of_decide_eq_true h) (fun h => of_decide_eq_true h)) (fun h => of_decide_eq_true h)) (fun h => of_decide_eq_true h)) (fun h => of_decide_eq_true h)) (fun h => of_decide_eq_true h); first | omega | (have hm1 := prod_bd (x := W) (num := num) (by omega) (by omega) (by omega) (by omega); rw [Int.mul_comm] at hm1; have hm0 : 0 ≤ num → 0 ≤ num * W := fun h => Int.mul_nonneg h (by omega); omega) | (have hm1 := prod_bd (x := W) (num := 0 - num) (by omega) (by omega) (by omega) (by omega); rw [Int.mul_comm] at hm1; have hm0 : 0 ≤ 0 - num → 0 ≤ (0 - num) * W := fun h => Int.mul_nonneg h (by omega); omega))) rfl ?_
  refine ngc rfl rfl (fun h => eo_mv rfl rfl) rfl ?_
  refine ngc rfl rfl (fun h => eo_quo rfl (ev_if h rfl) (ev_if h rfl) (by have hg1 := of_decide_eq_true h.2; have hg0 := (and_t h.1).imp (fun h => (and_t h).imp (fun h => (and_t h).imp (fun h => (and_t h).imp (fun h => (and_t h).imp (fun h => of_decide_eq_true h) (fun h => of_decide_eq_true h)) (fun h => of_decide_eq_true h)) (fun h => of_decide_eq_true h)) (fun h => of_decide_eq_true h)) (fun h => of_decide_eq_true h); first | omega | (have hm1 := prod_bd (x := W) (num := num) (by omega) (by omega) (by omega) (by omega); rw [Int.mul_comm] at hm1; have hm0 : 0 ≤ num → 0 ≤ num * W := fun h => Int.mul_nonneg h (by omega); omega) | (have hm1 := prod_bd (x := W) (num := 0 - num) (by omega) (by omega) (by omega) (by omega); rw [Int.mul_comm] at hm1; have hm0 : 0 ≤ 0 - num → 0 ≤ (0 - num) * W := fun h => Int.mul_nonneg h (by omega); omega)) (by have hg1 := of_decide_eq_true h.2; have hg0 := (and_t h.1).imp (fun h => (and_t h).imp (fun h => (and_t h).imp (fun h => (and_t h).imp (fun h => (and_t h).imp (fun h => of_decide_eq_true h) (fun h => of_decide_eq_true h)) (fun h => of_decide_eq_true h)) (fun h => of_decide_eq_true h)) (fun h => of_decide_eq_true h)) (fun h => of_decide_eq_true h); first | omega | (have hm1 := prod_bd (x := W) (num := num) (by omega) (by omega) (by omega) (by omega); rw [Int.mul_comm] at hm1; have hm0 : 0 ≤ num → 0 ≤ num * W := fun h => Int.mul_nonneg h (by omega); omega) | (have hm1 := prod_bd (x := W) (num := 0 - num) (by omega) (by omega) (by omega) (by omega); rw [Int.mul_comm] at hm1; have hm0 : 0 ≤ 0 - num → 0 ≤ (0 - num) * W := fun h => Int.mul_nonneg h (by omega); omega)) (by have hg1 := of_decide_eq_true h.2; have hg0 := (and_t h.1).imp (fun h => (and_t h).imp (fun h => (and_t h).imp (fun h => (and_t h).imp (fun h => (and_t h).imp (fun h => of_decide_eq_true h) (fun h => of_decide_eq_true h)) (fun h => of_decide_eq_true h)) (fun h => of_decide_eq_true h)) (fun h => of_decide_eq_true h)) (fun h => of_decide_eq_true h); first | omega | (have hm1 := prod_bd (x := W) (num := num) (by omega) (by omega) (by omega) (by omega); rw [Int.mul_comm] at hm1; have hm0 : 0 ≤ num → 0 ≤ num * W := fun h => Int.mul_nonneg h (by omega); omega) | (have hm1 := prod_bd (x := W) (num := 0 - num) (by omega) (by omega) (by omega) (by omega); rw [Int.mul_comm] at hm1; have hm0 : 0 ≤ 0 - num → 0 ≤ (0 - num) * W := fun h => Int.mul_nonneg h (by omega); omega))) rfl ?_
  refine ngc rfl rfl (fun h => eo_gtr rfl (ev_if h rfl) rfl) rfl ?_
  refine ng rfl rfl (fun h => eo_and rfl (ev_if h rfl) (fun hb => ev_if ⟨h, hb⟩ rfl)) rfl ?_
  refine ng rfl rfl (fun h => eo_mv rfl (ev_if h rfl)) rfl ?_
  refine ngc rfl rfl (fun h => eo_mv rfl rfl) rfl ?_
  refine ngc rfl rfl (fun h => eo_lss rfl (ev_if h rfl) rfl) rfl ?_
  refine ngc rfl rfl (fun h => eo_mv rfl (ev_if h rfl)) rfl ?_
  refine ngc rfl rfl (fun h => eo_mv rfl rfl) rfl ?_
  refine ngc rfl rfl (fun h => eo_sub rfl rfl (ev_if h rfl) (by have hg2 := of_decide_eq_true h.2; have hg1 := (and_f h.1.2).imp (fun h => of_decide_eq_false h) (fun h => of_decide_eq_false h); have hg0 := (and_t h.1.1).imp (fun h => (and_t h).imp (fun h => (and_t h).imp (fun h => (and_t h).imp (fun h => (and_t h).imp (fun h => of_decide_eq_true h) (fun h => of_decide_eq_true h)) (fun h => of_decide_eq_true h)) (fun h => of_decide_eq_true h)) (fun h => of_decide_eq_true h)) (fun h => of_decide_eq_true h); first | omega | (have hm1 := prod_bd (x := W) (num := num) (by omega) (by omega) (by omega) (by omega); rw [Int.mul_comm] at hm1; have hm0 : 0 ≤ num → 0 ≤ num * W := fun h => Int.mul_nonneg h (by omega); omega) | (have hm1 := prod_bd (x := W) (num := 0 - num) (by omega) (by omega) (by omega) (by omega); rw [Int.mul_comm] at hm1; have hm0 : 0 ≤ 0 - num → 0 ≤ (0 - num) * W := fun h => Int.mul_nonneg h (by omega); omega)) (by have hg2 := of_decide_eq_true h.2; have hg1 := (and_f h.1.2).imp (fun h => of_decide_eq_false h) (fun h => of_decide_eq_false h); have hg0 := (and_t h.1.1).imp (fun h => (and_t h).imp (fun h => (and_t h).imp (fun h => (and_t h).imp (fun h => (and_t h).imp (fun h => of_decide_eq_true h) (fun h => of_decide_eq_true h)) (fun h => of_decide_eq_true h)) (fun h => of_decide_eq_true h)) (fun h => of_decide_eq_true h)) (fun h => of_decide_eq_true h); first | omega | (have hm1 := prod_bd (x := W) (num := num) (by omega) (by omega) (by omega) (by omega); rw [Int.mul_comm] at hm1; have hm0 : 0 ≤ num → 0 ≤ num * W := fun h => Int.mul_nonneg h (by omega); omega) | (have hm1 := prod_bd (x := W) (num := 0 - num) (by omega) (by omega) (by omega) (by omega); rw [Int.mul_comm] at hm1; have hm0 : 0 ≤ 0 - num → 0 ≤ (0 - num) * W := fun h => Int.mul_nonneg h (by omega); omega))) rfl ?_
  refine ngc rfl rfl (fun h => eo_field rfl f24_0 rfl) rfl ?_
  refine ngc rfl rfl (fun h => eo_load 0 rfl s3 (ev_if h rfl) rfl rfl rfl) rfl ?_
  refine ngc rfl rfl (fun h => eo_mul rfl (ev_if h rfl) (ev_if h rfl) (by have hg2 := of_decide_eq_true h.2; have hg1 := (and_f h.1.2).imp (fun h => of_decide_eq_false h) (fun h => of_decide_eq_false h); have hg0 := (and_t h.1.1).imp (fun h => (and_t h).imp (fun h => (and_t h).imp (fun h => (and_t h).imp (fun h => (and_t h).imp (fun h => of_decide_eq_true h) (fun h => of_decide_eq_true h)) (fun h => of_decide_eq_true h)) (fun h => of_decide_eq_true h)) (fun h => of_decide_eq_true h)) (fun h => of_decide_eq_true h); first | omega | (have hm1 := prod_bd (x := W) (num := num) (by omega) (by omega) (by omega) (by omega); rw [Int.mul_comm] at hm1; have hm0 : 0 ≤ num → 0 ≤ num * W := fun h => Int.mul_nonneg h (by omega); omega) | (have hm1 := prod_bd (x := W) (num := 0 - num) (by omega) (by omega) (by omega) (by omega); rw [Int.mul_comm] at hm1; have hm0 : 0 ≤ 0 - num → 0 ≤ (0 - num) * W := fun h => Int.mul_nonneg h (by omega); omega)) (by have hg2 := of_decide_eq_true h.2; have hg1 := (and_f h.1.2).imp (fun h => of_decide_eq_false h) (fun h => of_decide_eq_false h); have hg0 := (and_t h.1.1).imp (fun h => (and_t h).imp (fun h => (and_t h).imp (fun h => (and_t h).imp (fun h => (and_t h).imp (fun h => of_decide_eq_true h) (fun h => of_decide_eq_true h)) (fun h => of_decide_eq_true h)) (fun h => of_decide_eq_true h)) (fun h => of_decide_eq_true h)) (fun h => of_decide_eq_true h); first | omega | (have hm1 := prod_bd (x := W) (num := num) (by omega) (by omega) (by omega) (by omega); rw [Int.mul_comm] at hm1; have hm0 : 0 ≤ num → 0 ≤ num * W := fun h => Int.mul_nonneg h (by omega); omega) | (have hm1 := prod_bd (x := W) (num := 0 - num) (by omega) (by omega) (by omega) (by omega); rw [Int.mul_comm] at hm1; have hm0 : 0 ≤ 0 - num → 0 ≤ (0 - num) * W := fun h => Int.mul_nonneg h (by omega); omega))) rfl ?_
  refine ngc rfl rfl (fun h => eo_mv rfl rfl) rfl ?_
  refine ngc rfl rfl (fun h => eo_quo rfl (ev_if h rfl) (ev_if h rfl) (by have hg2 := of_decide_eq_true h.2; have hg1 := (and_f h.1.2).imp (fun h => of_decide_eq_false h) (fun h => of_decide_eq_false h); have hg0 := (and_t h.1.1).imp (fun h => (and_t h).imp (fun h => (and_t h).imp (fun h => (and_t h).imp (fun h => (and_t h).imp (fun h => of_decide_eq_true h) (fun h => of_decide_eq_true h)) (fun h => of_decide_eq_true h)) (fun h => of_decide_eq_true h)) (fun h => of_decide_eq_true h)) (fun h => of_decide_eq_true h); first | omega | (have hm1 := prod_bd (x := W) (num := num) (by omega) (by omega) (by omega) (by omega); rw [Int.mul_comm] at hm1; have hm0 : 0 ≤ num → 0 ≤ num * W := fun h => Int.mul_nonneg h (by omega); omega) | (have hm1 := prod_bd (x := W) (num := 0 - num) (by omega) (by omega) (by omega) (by omega); rw [Int.mul_comm] at hm1; have hm0 : 0 ≤ 0 - num → 0 ≤ (0 - num) * W := fun h => Int.mul_nonneg h (by omega); omega)) (by have hg2 := of_decide_eq_true h.2; have hg1 := (and_f h.1.2).imp (fun h => of_decide_eq_false h) (fun h => of_decide_eq_false h); have hg0 := (and_t h.1.1).imp (fun h => (and_t h).imp (fun h => (and_t h).imp (fun h => (and_t h).imp (fun h => (and_t h).imp (fun h => of_decide_eq_true h) (fun h => of_decide_eq_true h)) (fun h => of_decide_eq_true h)) (fun h => of_decide_eq_true h)) (fun h => of_decide_eq_true h)) (fun h => of_decide_eq_true h); first | omega | (have hm1 := prod_bd (x := W) (num := num) (by omega) (by omega) (by omega) (by omega); rw [Int.mul_comm] at hm1; have hm0 : 0 ≤ num → 0 ≤ num * W := fun h => Int.mul_nonneg h (by omega); omega) | (have hm1 := prod_bd (x := W) (num := 0 - num) (by omega) (by omega) (by omega) (by omega); rw [Int.mul_comm] at hm1; have hm0 : 0 ≤ 0 - num → 0 ≤ (0 - num) * W := fun h => Int.mul_nonneg h (by omega); omega)) (by have hg2 := of_decide_eq_true h.2; have hg1 := (and_f h.1.2).imp (fun h => of_decide_eq_false h) (fun h => of_decide_eq_false h); have hg0 := (and_t h.1.1).imp (fun h => (and_t h).imp (fun h => (and_t h).imp (fun h => (and_t h).imp (fun h => (and_t h).imp (fun h => of_decide_eq_true h) (fun h => of_decide_eq_true h)) (fun h => of_decide_eq_true h)) (fun h => of_decide_eq_true h)) (fun h => of_decide_eq_true h)) (fun h => of_decide_eq_true h); first | omega | (have hm1 := prod_bd (x := W) (num := num) (by omega) (by omega) (by omega) (by omega); rw [Int.mul_comm] at hm1; have hm0 : 0 ≤ num → 0 ≤ num * W := fun h => Int.mul_nonneg h (by omega); omega) | (have hm1 := prod_bd (x := W) (num := 0 - num) (by omega) (by omega) (by omega) (by omega); rw [Int.mul_comm] at hm1; have hm0 : 0 ≤ 0 - num → 0 ≤ (0 - num) * W := fun h => Int.mul_nonneg h (by omega); omega))) rfl ?_
  refine ngc rfl rfl (fun h => eo_gtr rfl (ev_if h rfl) rfl) rfl ?_
  refine ngc rfl rfl (fun h => eo_and rfl (ev_if h rfl) (fun hb => ev_if ⟨h, hb⟩ rfl)) rfl ?_
  refine ng rfl rfl (fun h => eo_or rfl (ev_if h rfl) (fun hb => ev_if ⟨h, hb⟩ rfl)) rfl ?_
  refine ne (eo_and rfl rfl (fun hb => ev_if hb rfl)) rfl ?_
  refine ne (eo_as rfl rfl) rfl ?_
  refine go_nil ?_
  refine gq_next ?_
  refine gc_ret ?_
  refine gq_results (res1 rfl rfl) ?_
  exact fun W1 hO => ⟨rfl, hO.toExt⟩

/-- barscan/barscanlaw45.SkewShears -/
theorem lshears_c (W H : Int) (A : Option Addr) (n c : Nat) (f : Nat → Bool) (num : Int) (den : Int) (w : World) (hr : Rd w A (tab n (bv f)))  :
    Calls Try.prog 3 #[.agg #[.int .i64 W, .int .i64 H, .slice A n c], .int .i64 num, .int .i64 den] w (fun e w' => e = .returned (.bool true) ∧ Ext w w') := by
  refine calls_enter (N := ⟨54, []⟩) [] ([]) Try.func3 rfl rfl rfl (Ow.start _) ?_
  refine gc_seq ?_
  refine gc_region ?_
  refine nx (xo_boxA rfl rfl) rfl ?_
  rintro _ _ ⟨g3, rfl, rfl⟩
  refine ne (eo_as rfl rfl) rfl ?_
  refine go_nil ?_
  refine gq_next ?_
  refine gc_seq ?_
  refine gc_seq ?_
  refine gc_region ?_
  refine ne (eo_loadA 0 rfl a24 rfl rfl rfl rfl) rfl ?_
  refine ne (eo_call rfl en11 rfl (fun W1 hO => few_c _ _ _ _ _ _ W1 (hr.old0 hO) )) rfl ?_
  refine ne (eo_not rfl rfl) rfl ?_
  refine ne (eo_mv rfl rfl) rfl ?_
  refine ng rfl rfl (fun h => eo_loadA 0 rfl a24 rfl rfl rfl rfl) rfl ?_
  refine ng rfl rfl (fun h => eo_mv rfl rfl) rfl ?_
  refine ng rfl rfl (fun h => eo_mv rfl rfl) rfl ?_
  refine ng rfl rfl (fun h => eo_call rfl en12 (evs_cons (ev_if h rfl) (evs_cons (ev_if h rfl) (evs_cons (ev_if h rfl) evs_nil))) (fun W1 hO => wide_c _ _ _ _ _ _ _ _ W1 (hr.old0 hO) )) rfl ?_
  refine ng rfl rfl (fun h => eo_mv rfl (ev_if h rfl)) rfl ?_
  refine ngc rfl rfl (fun h => eo_mv rfl rfl) rfl ?_
  refine ngc rfl rfl (fun h => eo_gtr rfl (ev_if h rfl) rfl) rfl ?_
  refine ng rfl rfl (fun h => eo_and rfl (ev_if h rfl) (fun hb => ev_if ⟨h, hb⟩ rfl)) rfl ?_
  refine ng rfl rfl (fun h => eo_mv rfl (ev_if h rfl)) rfl ?_
  refine ngc rfl rfl (fun h => eo_mv rfl rfl) rfl ?_
  refine ngc rfl rfl (fun h => eo_lss rfl (ev_if h rfl) rfl) rfl ?_
  refine ng rfl rfl (fun h => eo_and rfl (ev_if h rfl) (fun hb => ev_if ⟨h, hb⟩ rfl)) rfl ?_
  refine ne (eo_or rfl rfl (fun hb => ev_if hb rfl)) rfl ?_
  refine go_nil ?_
  refine gq_next ?_
  refine gc_cond rfl (fun hc0 => ?_) (fun hc0 => ?_)
  ·
    have hd0 := (or_t hc0).imp (fun h => (not_t h)) (fun h => (and_t h).imp (fun h => (and_t h).imp (fun h => h) (fun h => of_decide_eq_true h)) (fun h => of_decide_eq_true h))
    refine gc_seq ?_
    refine gc_region ?_
    refine ne (eo_call rfl en13 rfl (fun W1 hO => exam45_c W1  )) rfl ?_
    refine ne (eo_as rfl rfl) rfl ?_
    refine go_nil ?_
    refine gq_next ?_
    refine gc_ret ?_
    refine gq_then_ret ?_
    refine gq_results (res1 rfl rfl) ?_
    exact fun W1 hO => ⟨rfl, hO.toExt⟩
  ·
    have hd0 := (or_f hc0).imp (fun h => (not_f h)) (fun h => (and_f h).imp (fun h => (and_f h).imp (fun h => h) (fun h => of_decide_eq_false h)) (fun h => of_decide_eq_false h))
    refine gc_skip ?_
    refine gq_next ?_
    refine gc_seq ?_
    refine gc_region ?_
    refine ne (eo_loadA 0 rfl a24 rfl rfl rfl rfl) rfl ?_
    refine ne (eo_mv rfl rfl) rfl ?_
    refine ne (eo_mv rfl rfl) rfl ?_
    refine nx (xo_freshT rfl en14 rfl (fun W1 hO => shear_x _ _ _ _ _ _ _ _ W1 (hr.old0 hO) )) rfl ?_
    rintro _ _ ⟨S33, ⟨A33, k33, rfl, hk33, hS33⟩, rfl⟩
    refine ne (eo_mv rfl rfl) rfl ?_
    refine ne (eo_extract rfl rfl rfl) rfl ?_
    refine ne (eo_extract rfl rfl rfl) rfl ?_
    refine nx (xo_alloc rfl z24) rfl ?_
    rintro _ _ ⟨g7, rfl, rfl⟩
    refine nu (xo_storeA 0 rfl a24 rfl rfl (ones_cons (by first | rfl | exact AS.one) (ones_cons (by first | rfl | exact AS.one) (ones_cons (by first | rfl | exact AS.one) ones_nil))) rfl rfl rfl rfl) ?_
    rintro _ _ ⟨rfl, rfl⟩
    refine ne (eo_as rfl rfl) rfl ?_
    refine go_nil ?_
    refine gq_next ?_
    refine gc_seq ?_
    refine gc_region ?_
    refine ne (eo_loadA 1 rfl a24 rfl rfl rfl rfl) rfl ?_
    refine ne (eo_mv rfl rfl) rfl ?_
    refine ne (eo_mv rfl rfl) rfl ?_
    refine nx (xo_freshT rfl en15 rfl (fun W1 hO => rshear_x _ _ _ _ _ _ _ _ W1 (hr.old0 hO) )) rfl ?_
    rintro _ _ ⟨S40, ⟨A40, k40, rfl, hk40, hS40⟩, rfl⟩
    refine ne (eo_mv rfl rfl) rfl ?_
    refine ne (eo_extract rfl rfl rfl) rfl ?_
    refine ne (eo_extract rfl rfl rfl) rfl ?_
    refine nx (xo_alloc rfl z24) rfl ?_
    rintro _ _ ⟨g9, rfl, rfl⟩
    refine nu (xo_storeA 0 rfl a24 rfl rfl (ones_cons (by first | rfl | exact AS.one) (ones_cons (by first | rfl | exact AS.one) (ones_cons (by first | rfl | exact AS.one) ones_nil))) rfl rfl rfl rfl) ?_
    rintro _ _ ⟨rfl, rfl⟩
    refine ne (eo_as rfl rfl) rfl ?_
    refine go_nil ?_
    refine gq_next ?_
    refine gc_seq ?_
    refine gc_region ?_
    refine ne (eo_mv rfl rfl) rfl ?_
    refine ne (eo_mv rfl rfl) rfl ?_
    refine ne (eo_eql rfl rfl rfl) rfl ?_
    refine ne (eo_mv rfl rfl) rfl ?_
    refine ng rfl rfl (fun h => eo_loadA 1 rfl a24 rfl rfl rfl rfl) rfl ?_
    refine ng rfl rfl (fun h => eo_loadA 0 rfl a24 rfl rfl rfl rfl) rfl ?_
    refine ng rfl rfl (fun h => eo_call rfl en16 (evs_cons (ev_if h rfl) (evs_cons (ev_if h rfl) evs_nil)) (fun W1 hO => requal_c _ _ _ _ _ _ _ _ _ _ _ _ W1 (Nat.le_trans shearR_le (by decide)) (hS33.rd (hO.tl 3 rfl (List.sublist_append_left _ _))) (hS40.rd (hO.tl 3 rfl (List.sublist_append_right _ _))))) rfl ?_
    refine ne (eo_and rfl rfl (fun hb => ev_if hb rfl)) rfl ?_
    refine ne (eo_mv rfl rfl) rfl ?_
    refine ng rfl rfl (fun h => eo_call rfl en13 rfl (fun W1 hO => exam45_c W1  )) rfl ?_
    refine ne (eo_and rfl rfl (fun hb => ev_if hb rfl)) rfl ?_
    refine ne (eo_as rfl rfl) rfl ?_
    refine go_nil ?_
    refine gq_next ?_
    refine gc_ret ?_
    refine gq_results (res1 rfl rfl) ?_
    exact fun W1 hO => ⟨ret_bool (show ((decide ((shearR ⟨W, H, n, f⟩ num den).2 = (shearR ⟨W, H, n, f⟩ num den).2) && (eqP (shearR ⟨W, H, n, f⟩ num den).1 (shearR ⟨W, H, n, f⟩ num den).1)) && true) = true from by simp [eqP_rf]), hO.toExt⟩

end Go.Proofs.Ytmgkpdpmjhgekaa
