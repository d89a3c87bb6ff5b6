/-
  The walks of the functions of packages bigint and threshold and of the document's answers (part E): what each call returns, at every argument.
-/
import Derived.Test.YtcdhbikginpogaaWD
namespace Go.Proofs.Ytcdhbikginpogaa
open Go.RowKit Go.Eng

open Go.Bs
theorem litv52_2 {x0 x1 : Int} (W : World) : (Instr.buildSlice 52 2 #[(0, .int .u32 x0), (1, .int .u32 x1)]).run Try.prog W = .ok (.slice (some ⟨W.heap.size, 0, none⟩) 2 2) (W.alloc (.cells #[.int .u32 x0, .int .u32 x1] 72)) := by kernel_rfl
theorem en46 : Ent Try.prog 46 := ent_of Try.func46 (by kernel_rfl) rfl
theorem en49 : Ent Try.prog 49 := ent_of Try.func49 (by kernel_rfl) rfl
theorem en48 : Ent Try.prog 48 := ent_of Try.func48 (by kernel_rfl) rfl
theorem en47 : Ent Try.prog 47 := ent_of Try.func47 (by kernel_rfl) rfl

/-- barscan/barscanref02.FromInt -/
theorem rfromint_x (n : Int) (w : World)  (n0 : -9223372036854775808 ≤ n) (n1 : n ≤ 9223372036854775807) :
    Calls Try.prog 36 #[.int .i64 n] w (fun e w' => ∃ v Hn, e = .returned v ∧ RI n v Hn ∧ Ow [] w w' Hn) := by
  refine calls_enter (N := ⟨23, []⟩) [] ([]) Try.func36 rfl rfl rfl (Ow.start _) ?_
  refine gc_seq ?_
  refine gc_region ?_
  refine nx (xo_alloc rfl z54) rfl ?_
  rintro _ _ ⟨g2, rfl, rfl⟩
  refine go_nil ?_
  refine gq_next ?_
  refine gc_seq ?_
  refine gc_region ?_
  refine ne (eo_mv rfl rfl) rfl ?_
  refine ne (eo_wide rfl rfl ⟨_, Try.underlying3⟩ Try.underlying67) rfl ?_
  refine ne (eo_as rfl rfl) rfl ?_
  refine go_nil ?_
  refine gq_next ?_
  refine gc_seq ?_
  refine gc_seq ?_
  refine gc_region ?_
  refine ne (eo_mv rfl rfl) rfl ?_
  refine ne (eo_lss rfl rfl rfl) rfl ?_
  refine go_nil ?_
  refine gq_next ?_
  refine gc_cond rfl (fun hc0 => ?_) (fun hc0 => ?_)
  ·
    replace hc0 := of_decide_eq_true hc0
    refine gc_region ?_
    refine ne (eo_mv rfl rfl) rfl ?_
    refine ne (eo_add rfl rfl rfl (by omega) (by omega)) rfl ?_
    refine ne (eo_neg rfl rfl (by omega) (by omega)) rfl ?_
    refine ne (eo_convk rfl rfl ⟨_, Try.underlying3⟩ Try.underlying67 (u64_in (by omega) (by omega))) rfl ?_
    refine ne (eo_addk rfl rfl rfl (u64_in (by omega) (by omega))) rfl ?_
    refine ne (eo_as rfl rfl) rfl ?_
    refine go_nil ?_
    refine gq_next ?_
    refine gc_seq ?_
    have hwl := word_sg (u := ((-(n + 1)) + 1)) (z := n) (by omega) (by omega) (by unfold nab; split <;> omega)
    refine gc_region ?_
    refine ne (eo_mv rfl rfl) rfl ?_
    refine ne (eo_lss rfl rfl rfl) rfl ?_
    refine ne (eo_mv rfl rfl) rfl ?_
    refine ne (eo_remk rfl rfl rfl (by omega) (by omega)) rfl ?_
    refine ne (eo_convk rfl rfl ⟨_, Try.underlying67⟩ Try.underlying72 (u32_in (by omega) (by omega))) rfl ?_
    refine ne (eo_mv rfl rfl) rfl ?_
    refine ne (eo_quow rfl rfl rfl (by omega) (by decide) (by omega)) rfl ?_
    refine ne (eo_convk rfl rfl ⟨_, Try.underlying67⟩ Try.underlying72 (u32_in (by omega) (by omega))) rfl ?_
    refine nx (xo_lit rfl rfl litv52_2) rfl ?_
    rintro _ _ ⟨g21, rfl, rfl⟩
    refine nx (xo_freshT rfl en45 rfl (fun W1 hO => signed_x n _ _ _ _ _ W1 (show Rd _ _ (tab 2 (iv .u32 (litF 0 [(((-(n + 1)) + 1) % 4294967296), (((-(n + 1)) + 1) / 4294967296)]))) from Rd.own_all hO (i := 0) rfl) hwl.1 hwl.2 (fun _ => rfl) (by omega) (by omega))) rfl ?_
    rintro _ _ ⟨S22, ⟨p22, rfl, hp22⟩, rfl⟩
    refine nu (xo_storeA 1 rfl a54 rfl rfl (ones_cons (by first | rfl | exact AS.one) (ones_cons (by first | rfl | exact AS.one) ones_nil)) rfl rfl rfl rfl) ?_
    rintro _ _ ⟨rfl, rfl⟩
    refine go_nil ?_
    refine gq_next ?_
    refine gc_ret ?_
    refine gq_results (resC 1 rfl a54 rfl rfl rfl rfl) ?_
    exact fun W1 hO => ri_pass (hO.tl 2 rfl (List.Sublist.refl _)) hp22 rfl
  ·
    replace hc0 := of_decide_eq_false hc0
    rw [show n % 18446744073709551616 = n by omega]
    refine gc_skip ?_
    refine gq_next ?_
    refine gc_seq ?_
    have hwl := word_sg (u := n) (z := n) (by omega) (by omega) (by unfold nab; split <;> omega)
    refine gc_region ?_
    refine ne (eo_mv rfl rfl) rfl ?_
    refine ne (eo_lss rfl rfl rfl) rfl ?_
    refine ne (eo_mv rfl rfl) rfl ?_
    refine ne (eo_remk rfl rfl rfl (by omega) (by omega)) rfl ?_
    refine ne (eo_convk rfl rfl ⟨_, Try.underlying67⟩ Try.underlying72 (u32_in (by omega) (by omega))) rfl ?_
    refine ne (eo_mv rfl rfl) rfl ?_
    refine ne (eo_quow rfl rfl rfl (by omega) (by decide) (by omega)) rfl ?_
    refine ne (eo_convk rfl rfl ⟨_, Try.underlying67⟩ Try.underlying72 (u32_in (by omega) (by omega))) rfl ?_
    refine nx (xo_lit rfl rfl litv52_2) rfl ?_
    rintro _ _ ⟨g21, rfl, rfl⟩
    refine nx (xo_freshT rfl en45 rfl (fun W1 hO => signed_x n _ _ _ _ _ W1 (show Rd _ _ (tab 2 (iv .u32 (litF 0 [(n % 4294967296), (n / 4294967296)]))) from Rd.own_all hO (i := 0) rfl) hwl.1 hwl.2 (fun _ => rfl) (by omega) (by omega))) rfl ?_
    rintro _ _ ⟨S22, ⟨p22, rfl, hp22⟩, rfl⟩
    refine nu (xo_storeA 1 rfl a54 rfl rfl (ones_cons (by first | rfl | exact AS.one) (ones_cons (by first | rfl | exact AS.one) ones_nil)) rfl rfl rfl rfl) ?_
    rintro _ _ ⟨rfl, rfl⟩
    refine go_nil ?_
    refine gq_next ?_
    refine gc_ret ?_
    refine gq_results (resC 1 rfl a54 rfl rfl rfl rfl) ?_
    exact fun W1 hO => ri_pass (hO.tl 2 rfl (List.Sublist.refl _)) hp22 rfl

/-- barscan/barscanref02.Cmp -/
theorem rCmp_c (z : Int) (p : NS) (y : Int) (q : NS) (w : World) (hrp : Rd w p.A (tab p.m (iv .u32 p.f))) (hnp : Nm (nab z) p.m p.f) (hrq : Rd w q.A (tab q.m (iv .u32 q.f))) (hnq : Nm (nab y) q.m q.f) (h1 : p.m ≤ 512) (h2 : q.m ≤ 512) :
    Calls Try.prog 38 #[.agg #[.bool (decide (z < 0)), .slice p.A p.m p.c], .agg #[.bool (decide (y < 0)), .slice q.A q.m q.c]] w (fun e w' => e = .returned (.int .i64 (cmpZ z y)) ∧ Ext w w') := by
  refine calls_enter (N := ⟨32, []⟩) [] ([]) Try.func38 rfl rfl rfl (Ow.start _) ?_
  refine gc_seq ?_
  refine gc_region ?_
  refine nx (xo_boxA rfl rfl) rfl ?_
  rintro _ _ ⟨g2, rfl, rfl⟩
  refine nx (xo_boxA rfl rfl) rfl ?_
  rintro _ _ ⟨g3, rfl, rfl⟩
  refine ne (eo_as rfl rfl) rfl ?_
  refine go_nil ?_
  refine gq_next ?_
  refine gc_seq ?_
  refine gc_seq ?_
  refine gc_region ?_
  refine ne (eo_loadA 1 rfl a54 rfl rfl rfl rfl) rfl ?_
  refine ne (eo_call rfl en46 rfl (fun W1 hO => rvalid_c _ _ W1 (hrp.old0 hO) hnp (by omega))) rfl ?_
  refine ne (eo_not rfl rfl) rfl ?_
  refine ne (eo_mv rfl rfl) rfl ?_
  refine ng rfl rfl (fun h => eo_loadA 0 rfl a54 rfl rfl rfl rfl) rfl ?_
  refine ng rfl rfl (fun h => eo_call rfl en46 (evs_cons (ev_if h rfl) evs_nil) (fun W1 hO => rvalid_c _ _ W1 (hrq.old0 hO) hnq (by omega))) rfl ?_
  refine ng rfl rfl (fun h => eo_not rfl (ev_if h rfl)) rfl ?_
  refine ne (eo_or rfl rfl (fun hb => ev_if hb rfl)) rfl ?_
  refine go_nil ?_
  refine gq_next ?_
  refine gc_cond rfl (fun hc0 => ?_) (fun hc0 => ?_)
  ·
    have hd0 := (or_t hc0).imp (fun h => (not_t h)) (fun h => (not_t h))
    exact absurd hc0 (by decide)
  ·
    have hd0 := (or_f hc0).imp (fun h => (not_f h)) (fun h => (not_f h))
    refine gc_skip ?_
    refine gq_next ?_
    refine gc_seq ?_
    refine gc_seq ?_
    refine gc_region ?_
    refine ne (eo_field rfl f54_0 rfl) rfl ?_
    refine ne (eo_load 1 rfl s4 rfl rfl rfl rfl) rfl ?_
    refine ne (eo_field rfl f54_0 rfl) rfl ?_
    refine ne (eo_load 0 rfl s4 rfl rfl rfl rfl) rfl ?_
    refine ne (eo_bneq rfl rfl rfl Try.underlying4) rfl ?_
    refine go_nil ?_
    refine gq_next ?_
    refine gc_cond rfl (fun hc1 => ?_) (fun hc1 => ?_)
    ·
      have hsg := sg_ne hc1
      refine gc_seq ?_
      refine gc_seq ?_
      refine gc_region ?_
      refine ne (eo_field rfl f54_0 rfl) rfl ?_
      refine ne (eo_load 1 rfl s4 rfl rfl rfl rfl) rfl ?_
      refine go_nil ?_
      refine gq_next ?_
      refine gc_cond rfl (fun hc2 => ?_) (fun hc2 => ?_)
      ·
        have hd2 := of_decide_eq_true hc2
        refine gc_seq ?_
        refine gc_region ?_
        refine ne (eo_as rfl rfl) rfl ?_
        refine go_nil ?_
        refine gq_next ?_
        refine gc_ret ?_
        refine gq_then_ret ?_
        refine gq_then_ret ?_
        refine gq_results (res1 rfl rfl) ?_
        exact fun W1 hO => ⟨ret_int (cmpZ_lt (by omega)).symm, hO.toExt⟩
      ·
        have hd2 := of_decide_eq_false hc2
        refine gc_skip ?_
        refine gq_next ?_
        refine gc_seq ?_
        refine gc_region ?_
        refine ne (eo_as rfl rfl) rfl ?_
        refine go_nil ?_
        refine gq_next ?_
        refine gc_ret ?_
        refine gq_then_ret ?_
        refine gq_results (res1 rfl rfl) ?_
        exact fun W1 hO => ⟨ret_int (cmpZ_gt (by omega)).symm, hO.toExt⟩
    ·
      have hsg := sg_eq hc1
      refine gc_skip ?_
      refine gq_next ?_
      refine gc_seq ?_
      refine gc_seq ?_
      refine gc_region ?_
      refine ne (eo_field rfl f54_0 rfl) rfl ?_
      refine ne (eo_load 1 rfl s4 rfl rfl rfl rfl) rfl ?_
      refine go_nil ?_
      refine gq_next ?_
      refine gc_cond rfl (fun hc3 => ?_) (fun hc3 => ?_)
      ·
        have hd3 := of_decide_eq_true hc3
        refine gc_seq ?_
        refine gc_region ?_
        refine ne (eo_field rfl f54_1 rfl) rfl ?_
        refine ne (eo_load 0 rfl s52 rfl rfl rfl rfl) rfl ?_
        refine ne (eo_field rfl f54_1 rfl) rfl ?_
        refine ne (eo_load 1 rfl s52 rfl rfl rfl rfl) rfl ?_
        refine ne (eo_call rfl en49 rfl (fun W1 hO => order_c _ _ _ _ W1 (hrq.old0 hO) (hrp.old0 hO) hnq hnp (by omega) (by omega))) rfl ?_
        refine ne (eo_as rfl rfl) rfl ?_
        refine go_nil ?_
        refine gq_next ?_
        refine gc_ret ?_
        refine gq_then_ret ?_
        refine gq_results (res1 rfl rfl) ?_
        exact fun W1 hO => ⟨ret_int (cmp_nn (by omega) (by omega)), hO.toExt⟩
      ·
        have hd3 := of_decide_eq_false hc3
        refine gc_skip ?_
        refine gq_next ?_
        refine gc_seq ?_
        refine gc_region ?_
        refine ne (eo_field rfl f54_1 rfl) rfl ?_
        refine ne (eo_load 1 rfl s52 rfl rfl rfl rfl) rfl ?_
        refine ne (eo_field rfl f54_1 rfl) rfl ?_
        refine ne (eo_load 0 rfl s52 rfl rfl rfl rfl) rfl ?_
        refine ne (eo_call rfl en49 rfl (fun W1 hO => order_c _ _ _ _ W1 (hrp.old0 hO) (hrq.old0 hO) hnp hnq (by omega) (by omega))) rfl ?_
        refine ne (eo_as rfl rfl) rfl ?_
        refine go_nil ?_
        refine gq_next ?_
        refine gc_ret ?_
        refine gq_results (res1 rfl rfl) ?_
        exact fun W1 hO => ⟨ret_int (cmp_pp (by omega) (by omega)), hO.toExt⟩

/-- barscan/barscanref02.Mul -/
theorem rmul_x (z : Int) (p : NS) (y : Int) (q : NS) (w : World) (hrp : Rd w p.A (tab p.m (iv .u32 p.f))) (hnp : Nm (nab z) p.m p.f) (hrq : Rd w q.A (tab q.m (iv .u32 q.f))) (hnq : Nm (nab y) q.m q.f) (hz : nab z ≤ 10000000000000000000000000000000000000000) (hy : nab y ≤ 10000000000000000000000000000000000000000) (hzy : nab (z * y) ≤ 10000000000000000000000000000000000000000) :
    Calls Try.prog 37 #[.agg #[.bool (decide (z < 0)), .slice p.A p.m p.c], .agg #[.bool (decide (y < 0)), .slice q.A q.m q.c]] w (fun e w' => ∃ v Hn, e = .returned v ∧ RIE (z * y) v Hn ∧ Ow [] w w' Hn) := by
  have hpm := hnp.few hz
  have hqm := hnq.few hy
  have hzy2 := hzy
  rw [← nab_mul] at hzy2
  refine calls_enter (N := ⟨28, []⟩) [] ([]) Try.func37 rfl rfl rfl (Ow.start _) ?_
  refine gc_seq ?_
  refine gc_region ?_
  refine nx (xo_boxA rfl rfl) rfl ?_
  rintro _ _ ⟨g2, rfl, rfl⟩
  refine nx (xo_boxA rfl rfl) rfl ?_
  rintro _ _ ⟨g3, rfl, rfl⟩
  refine nx (xo_alloc rfl z54) rfl ?_
  rintro _ _ ⟨g4, rfl, rfl⟩
  refine ne (eo_as rfl rfl) rfl ?_
  refine go_nil ?_
  refine gq_next ?_
  refine gc_seq ?_
  refine gc_seq ?_
  refine gc_region ?_
  refine ne (eo_loadA 2 rfl a54 rfl rfl rfl rfl) rfl ?_
  refine ne (eo_call rfl en46 rfl (fun W1 hO => rvalid_c _ _ W1 (hrp.old0 hO) hnp (by omega))) rfl ?_
  refine ne (eo_not rfl rfl) rfl ?_
  refine ne (eo_mv rfl rfl) rfl ?_
  refine ng rfl rfl (fun h => eo_loadA 1 rfl a54 rfl rfl rfl rfl) rfl ?_
  refine ng rfl rfl (fun h => eo_call rfl en46 (evs_cons (ev_if h rfl) evs_nil) (fun W1 hO => rvalid_c _ _ W1 (hrq.old0 hO) hnq (by omega))) rfl ?_
  refine ng rfl rfl (fun h => eo_not rfl (ev_if h rfl)) rfl ?_
  refine ne (eo_or rfl rfl (fun hb => ev_if hb rfl)) rfl ?_
  refine go_nil ?_
  refine gq_next ?_
  refine gc_cond rfl (fun hc0 => ?_) (fun hc0 => ?_)
  ·
    have hd0 := (or_t hc0).imp (fun h => (not_t h)) (fun h => (not_t h))
    exact absurd hc0 (by decide)
  ·
    have hd0 := (or_f hc0).imp (fun h => (not_f h)) (fun h => (not_f h))
    refine gc_skip ?_
    refine gq_next ?_
    refine gc_seq ?_
    refine gc_drawK (H0 := [⟨g3, 54, [.bool (decide (y < 0)), .slice q.A q.m q.c]⟩, ⟨g2, 54, [.bool (decide (z < 0)), .slice p.A p.m p.c]⟩]) [(0, true), (1, true), (2, true), (3, true), (4, true), (5, true), (6, true), (7, false), (8, false), (9, false), (10, false), (11, true), (12, false), (13, false), (14, false)] (List.Sublist.cons _ (List.Sublist.cons_cons _ (List.Sublist.cons_cons _ (List.nil_sublist _)))) (by kernel_rfl) (by kernel_rfl) ?_
    refine me rfl (eo_field rfl f54_0 rfl) rfl ?_
    refine me rfl (eo_load 1 rfl s4 rfl rfl rfl rfl) rfl ?_
    refine me rfl (eo_field rfl f54_0 rfl) rfl ?_
    refine me rfl (eo_load 0 rfl s4 rfl rfl rfl rfl) rfl ?_
    refine me rfl (eo_bneq rfl rfl rfl Try.underlying4) rfl ?_
    refine me rfl (eo_field rfl f54_1 rfl) rfl ?_
    refine me rfl (eo_load 1 rfl s52 rfl rfl rfl rfl) rfl ?_
    refine ma rfl (xo_of_eo (eo_field rfl f54_1 rfl)) rfl ?_
    rintro _ _ ⟨rfl, rfl⟩
    refine ⟨(List.Sublist.cons _ (List.Sublist.cons_cons _ (List.Sublist.cons_cons _ (List.nil_sublist _)))), ?_⟩
    refine ma rfl (xo_of_eo (eo_load 1 rfl s52 rfl rfl rfl rfl)) rfl ?_
    rintro _ _ ⟨rfl, rfl⟩
    refine ⟨(List.Sublist.cons _ (List.Sublist.cons_cons _ (List.Sublist.cons_cons _ (List.nil_sublist _)))), ?_⟩
    refine ma rfl (xo_freshT rfl en48 rfl (fun W1 hO => times_x _ _ _ _ W1 (hrp.old0 hO) (hrq.old0 hO) hnp hnq (by omega) (by omega))) rfl ?_
    rintro _ _ ⟨S24, ⟨p24, rfl, hp24⟩, rfl⟩
    refine ⟨(List.Sublist.cons _ (List.Sublist.cons_cons _ (List.Sublist.cons_cons _ (List.nil_sublist _)))), ?_⟩
    refine ma rfl (xo_freshT rfl en47 rfl (fun W1 hO => limit_x (z * y) _ _ _ _ _ W1 (hp24.rd.rd (hO.tl 3 rfl (List.Sublist.refl _))) hp24.nm.lm (hp24.nm.eq.trans nab_mul) sign_mul hp24.le (Nat.le_trans (hp24.nm.few hzy2) (by decide)) hzy)) rfl ?_
    rintro _ _ ⟨S25, ⟨p25, rfl, hp25⟩, rfl⟩
    refine ⟨(List.Sublist.cons _ (List.Sublist.cons_cons _ (List.Sublist.cons_cons _ (List.nil_sublist _)))), ?_⟩
    refine me rfl (eo_extract rfl rfl rfl) rfl ?_
    refine ma rfl (xo_of_eo (eo_extract rfl rfl rfl)) rfl ?_
    rintro _ _ ⟨rfl, rfl⟩
    refine ⟨(List.Sublist.cons _ (List.Sublist.cons_cons _ (List.Sublist.cons_cons _ (List.nil_sublist _)))), ?_⟩
    refine mu rfl (xo_storeA 0 rfl a54 rfl rfl (ones_cons (by first | rfl | exact AS.one) (ones_cons (by first | rfl | exact AS.one) ones_nil)) rfl rfl rfl rfl) ?_
    rintro _ _ ⟨rfl, rfl⟩
    refine ⟨(List.Sublist.cons _ (List.Sublist.cons_cons _ (List.Sublist.cons_cons _ (List.nil_sublist _)))), ?_⟩
    refine ma rfl (xo_of_eo (eo_as rfl rfl)) rfl ?_
    rintro _ _ ⟨rfl, rfl⟩
    refine ⟨(List.Sublist.cons _ (List.Sublist.cons_cons _ (List.Sublist.cons_cons _ (List.nil_sublist _)))), ?_⟩
    refine gm_nil ?_
    refine gq_nq ?_
    refine gq_next ?_
    refine gc_ret ?_
    refine gq_results (resCT 0 rfl a54 rfl rfl rfl rfl rfl) ?_
    exact fun W1 hO => rie_pass (hO.tl 3 rfl (List.sublist_append_right _ _)) hp25 rfl

end Go.Proofs.Ytcdhbikginpogaa
