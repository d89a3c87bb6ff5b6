/-
  The walks of the functions of packages bigint and threshold and of the document's answers (part F): what each call returns, at every argument.
-/
import Derived.Test.YtcdhbikginpogaaWE
import Derived.Test.YtcdhbikginpogaaTh
namespace Go.Proofs.Ytcdhbikginpogaa
open Go.RowKit Go.Eng

open Go.Bs
theorem z56 : TyZ Try.prog 56 [.bool false, .slice none 0 0, .bool false, .slice none 0 0] := .inl (by kernel_rfl)
theorem en33 : Ent Try.prog 33 := ent_of Try.func33 (by kernel_rfl) rfl
theorem b56_01 (x0_0 : Bool) (x0_1A : Option Addr) (x0_1n x0_1c : Nat) (x1_0 : Bool) (x1_1A : Option Addr) (x1_1n x1_1c : Nat) (W : World) : (Instr.build 56 #[(0, .agg #[.bool x0_0, .slice x0_1A x0_1n x0_1c]), (1, .agg #[.bool x1_0, .slice x1_1A x1_1n x1_1c])]).run Try.prog W = .ok (.agg #[.bool x0_0, .slice x0_1A x0_1n x0_1c, .bool x1_0, .slice x1_1A x1_1n x1_1c]) W := by kernel_rfl
theorem a56 : TyA Try.prog 56 4 := ⟨⟨_, Try.underlying56, rfl⟩, by kernel_rfl⟩
theorem en34 : Ent Try.prog 34 := ent_of Try.func34 (by kernel_rfl) rfl
theorem f56_0 : FieldAt Try.prog 56 0 0 := ⟨_, _, 1, Try.underlying56, rfl, by kernel_rfl, rfl⟩
theorem f56_1 : FieldAt Try.prog 56 1 2 := ⟨_, _, 1, Try.underlying56, rfl, by kernel_rfl, rfl⟩
theorem en35 : Ent Try.prog 35 := ent_of Try.func35 (by kernel_rfl) rfl
theorem en36 : Ent Try.prog 36 := ent_of Try.func36 (by kernel_rfl) rfl
theorem en37 : Ent Try.prog 37 := ent_of Try.func37 (by kernel_rfl) rfl
theorem en38 : Ent Try.prog 38 := ent_of Try.func38 (by kernel_rfl) rfl

/-- barscan/threshold.varianceOf -/
theorem var_x (n0 : Int) (s0 : Int) (n1 : Int) (s1 : Int) (w : World)  (a0 : 0 ≤ n0) (a1 : n0 ≤ 2000) (b0 : 0 ≤ s0) (b1 : s0 ≤ 510000) (c0 : 0 ≤ n1) (c1 : n1 ≤ 2000) (d0 : 0 ≤ s1) (d1 : s1 ≤ 510000) :
    Calls Try.prog 29 #[.int .i64 n0, .int .i64 s0, .int .i64 n1, .int .i64 s1] w (fun e w' => ∃ v Hn, e = .returned v ∧ RV (vnum n0 s0 n1 s1) (vden n0 n1) v Hn ∧ Ow [] w w' Hn) := by
  obtain ⟨e1, e2, e3, e4⟩ := var_bd a0 a1 b0 b1 c0 c1 d0 d1
  have k1 : nab ((n1 * s0) - (n0 * s1)) ≤ 10000000000000000000000000000000000000000 := nab_bd (by omega)
  have k2 : nab (((n1 * s0) - (n0 * s1)) * ((n1 * s0) - (n0 * s1))) ≤ 10000000000000000000000000000000000000000 := nab_bd (by omega)
  refine calls_enter (N := ⟨41, []⟩) [] ([]) Try.func29 rfl rfl rfl (Ow.start _) ?_
  refine gc_seq ?_
  refine gc_region ?_
  refine nx (xo_alloc rfl z56) rfl ?_
  rintro _ _ ⟨g8, rfl, rfl⟩
  refine go_nil ?_
  refine gq_next ?_
  refine gc_seq ?_
  refine gc_seq ?_
  refine gc_region ?_
  refine ne (eo_mv rfl rfl) rfl ?_
  refine ne (eo_eql rfl rfl rfl) rfl ?_
  refine ne (eo_mv rfl rfl) rfl ?_
  refine ng rfl rfl (fun h => eo_mv rfl rfl) rfl ?_
  refine ng rfl rfl (fun h => eo_eql rfl (ev_if h rfl) rfl) rfl ?_
  refine ne (eo_or rfl rfl (fun hb => ev_if hb rfl)) rfl ?_
  refine go_nil ?_
  refine gq_next ?_
  refine gc_cond rfl (fun hc0 => ?_) (fun hc0 => ?_)
  ·
    have hd0 := (or_t hc0).imp (fun h => of_decide_eq_true h) (fun h => of_decide_eq_true h)
    refine gc_seq ?_
    refine gc_region ?_
    refine nx (xo_freshT rfl en33 rfl (fun W1 hO => fromint_x _ W1 (by omega) (by omega))) rfl ?_
    rintro _ _ ⟨S18, ⟨p18, rfl, hp18⟩, rfl⟩
    refine nx (xo_freshT rfl en33 rfl (fun W1 hO => fromint_x _ W1 (by omega) (by omega))) rfl ?_
    rintro _ _ ⟨S19, ⟨p19, rfl, hp19⟩, rfl⟩
    refine ne (eo_build rfl rfl (b56_01 _ _ _ _ _ _ _ _)) rfl ?_
    refine nu (xo_storeA 0 rfl a56 rfl rfl (ones_cons (by first | rfl | exact AS.one) (ones_cons (by first | rfl | exact AS.one) (ones_cons (by first | rfl | exact AS.one) (ones_cons (by first | rfl | exact AS.one) ones_nil)))) rfl rfl rfl rfl) ?_
    rintro _ _ ⟨rfl, rfl⟩
    refine go_nil ?_
    refine gq_next ?_
    refine gc_ret ?_
    refine gq_then_ret ?_
    refine gq_results (resC 0 rfl a56 rfl rfl rfl rfl) ?_
    exact fun W1 hO => rv_two (hO.tl 1 rfl (List.Sublist.refl _)) (hp18.sub (List.sublist_append_left _ _)) (hp19.sub (List.sublist_append_right _ _)) (if_pos (by first | exact hd0 | omega)).symm (if_pos (by first | exact hd0 | omega)).symm
  ·
    have hd0 := (or_f hc0).imp (fun h => of_decide_eq_false h) (fun h => of_decide_eq_false h)
    refine gc_skip ?_
    refine gq_next ?_
    refine gc_seq ?_
    refine gc_region ?_
    refine ne (eo_mv rfl rfl) rfl ?_
    refine ne (eo_mv rfl rfl) rfl ?_
    refine ne (eo_mul rfl rfl rfl (by omega) (by omega)) rfl ?_
    refine ne (eo_mv rfl rfl) rfl ?_
    refine ne (eo_mv rfl rfl) rfl ?_
    refine ne (eo_mul rfl rfl rfl (by omega) (by omega)) rfl ?_
    refine ne (eo_sub rfl rfl rfl (by omega) (by omega)) rfl ?_
    refine nx (xo_freshT rfl en33 rfl (fun W1 hO => fromint_x _ W1 (by omega) (by omega))) rfl ?_
    rintro _ _ ⟨S28, ⟨p28, rfl, hp28⟩, rfl⟩
    refine nx (xo_alloc rfl z54) rfl ?_
    rintro _ _ ⟨g9, rfl, rfl⟩
    refine nu (xo_storeA 0 rfl a54 rfl rfl (ones_cons (by first | rfl | exact AS.one) (ones_cons (by first | rfl | exact AS.one) ones_nil)) rfl rfl rfl rfl) ?_
    rintro _ _ ⟨rfl, rfl⟩
    refine go_nil ?_
    refine gq_next ?_
    refine gc_seq ?_
    refine gc_region ?_
    refine ne (eo_loadA 0 rfl a54 rfl rfl rfl rfl) rfl ?_
    refine ne (eo_loadA 0 rfl a54 rfl rfl rfl rfl) rfl ?_
    refine nx (xo_freshT rfl en34 rfl (fun W1 hO => mul_x _ _ _ _ W1 (hp28.rd.rd (hO.tl 2 rfl (List.Sublist.refl _))) hp28.nm (hp28.rd.rd (hO.tl 2 rfl (List.Sublist.refl _))) hp28.nm (by assumption) (by assumption) (by assumption))) rfl ?_
    rintro _ _ ⟨S32, ⟨p32, rfl, hp32⟩, rfl⟩
    refine ne (eo_mv rfl rfl) rfl ?_
    refine ne (eo_extract rfl rfl rfl) rfl ?_
    refine ne (eo_extract rfl rfl rfl) rfl ?_
    refine nx (xo_alloc rfl z54) rfl ?_
    rintro _ _ ⟨g10, rfl, rfl⟩
    refine nu (xo_storeA 0 rfl a54 rfl rfl (ones_cons (by first | rfl | exact AS.one) (ones_cons (by first | rfl | exact AS.one) ones_nil)) rfl rfl rfl rfl) ?_
    rintro _ _ ⟨rfl, rfl⟩
    refine ne (eo_as rfl rfl) rfl ?_
    refine go_nil ?_
    refine gq_next ?_
    refine gc_seq ?_
    refine gc_draw [] [0, 1, 2, 3] [4, 5] [6] (by kernel_rfl) (by kernel_rfl) ?_
    refine gp_nil ?_
    refine de rfl (eo_loadA 0 rfl a54 rfl rfl rfl rfl) rfl ?_
    refine de rfl (eo_mv rfl rfl) rfl ?_
    refine de rfl (eo_mv rfl rfl) rfl ?_
    refine de rfl (eo_mul rfl rfl rfl (by omega) (by omega)) rfl ?_
    refine ge_nil ?_
    refine da rfl (xo_freshT rfl en33 rfl (fun W1 hO => fromint_x _ W1 (by omega) (by omega))) rfl ?_
    rintro _ _ ⟨S39, ⟨p39, rfl, hp39⟩, rfl⟩
    refine ⟨by first | exact (List.sublist_append_left _ _) | exact (List.sublist_append_left _ _), ?_⟩
    refine da rfl (xo_of_eo (eo_build rfl rfl (b56_01 _ _ _ _ _ _ _ _))) rfl ?_
    rintro _ _ ⟨rfl, rfl⟩
    refine ⟨by first | exact (List.sublist_append_left _ _) | exact (List.sublist_append_left _ _), ?_⟩
    refine ga_nil ?_
    refine iu rfl (xo_storeA 2 rfl a56 rfl rfl (ones_cons (by first | rfl | exact AS.one) (ones_cons (by first | rfl | exact AS.one) (ones_cons (by first | rfl | exact AS.one) (ones_cons (by first | rfl | exact AS.one) ones_nil)))) rfl rfl rfl rfl) ?_
    rintro _ _ ⟨rfl, rfl⟩
    refine gi_nil ?_
    refine gq_nq ?_
    refine gq_next ?_
    refine gc_ret ?_
    refine gq_results (resC 2 rfl a56 rfl rfl rfl rfl) ?_
    exact fun W1 hO => rv_two (hO.tl 3 rfl (List.Sublist.refl _)) (hp32.sub ((List.sublist_append_right _ _).trans (List.sublist_append_left _ _))) (hp39.sub (List.sublist_append_right _ _)) (if_neg (by first | exact hd0 | omega)).symm (if_neg (by first | exact hd0 | omega)).symm

/-- (barscan/threshold.variance).greater -/
theorem great_c (zn : Int) (p : NS) (zd : Int) (q : NS) (yn : Int) (p1 : NS) (yd : Int) (q1 : NS) (w : World) (hrp : Rd w p.A (tab p.m (iv .u32 p.f))) (hnp : Nm (nab zn) p.m p.f) (hrq : Rd w q.A (tab q.m (iv .u32 q.f))) (hnq : Nm (nab zd) q.m q.f) (hrp1 : Rd w p1.A (tab p1.m (iv .u32 p1.f))) (hnp1 : Nm (nab yn) p1.m p1.f) (hrq1 : Rd w q1.A (tab q1.m (iv .u32 q1.f))) (hnq1 : Nm (nab yd) q1.m q1.f) (k1 : nab zn ≤ 10000000000000000000000000000000000000000) (k2 : nab yd ≤ 10000000000000000000000000000000000000000) (k3 : nab (zn * yd) ≤ 10000000000000000000000000000000000000000) (k4 : nab yn ≤ 10000000000000000000000000000000000000000) (k5 : nab zd ≤ 10000000000000000000000000000000000000000) (k6 : nab (yn * zd) ≤ 10000000000000000000000000000000000000000) :
    Calls Try.prog 30 #[.agg #[.bool (decide (zn < 0)), .slice p.A p.m p.c, .bool (decide (zd < 0)), .slice q.A q.m q.c], .agg #[.bool (decide (yn < 0)), .slice p1.A p1.m p1.c, .bool (decide (yd < 0)), .slice q1.A q1.m q1.c]] w (fun e w' => e = .returned (.bool (decide (yn * zd < zn * yd))) ∧ Ext w w') := by
  refine calls_enter (N := ⟨29, []⟩) [] ([]) Try.func30 rfl rfl rfl (Ow.start _) ?_
  refine gc_seq ?_
  refine gc_region ?_
  refine nx (xo_boxA rfl rfl) rfl ?_
  rintro _ _ ⟨g2, rfl, rfl⟩
  refine nx (xo_boxA rfl rfl) rfl ?_
  rintro _ _ ⟨g3, rfl, rfl⟩
  refine ne (eo_as rfl rfl) rfl ?_
  refine go_nil ?_
  refine gq_next ?_
  refine gc_seq ?_
  refine gc_region ?_
  refine ne (eo_field rfl f56_0 rfl) rfl ?_
  refine ne (eo_loadM (cs := [.bool (decide (zn < 0)), .slice p.A p.m p.c]) 1 rfl a54 rfl rfl rfl rfl (by intro j hj; rcases j with _ | j; (· rfl); rcases j with _ | j; (· rfl); exact absurd hj (by omega))) rfl ?_
  refine ne (eo_field rfl f56_1 rfl) rfl ?_
  refine ne (eo_loadM (cs := [.bool (decide (yd < 0)), .slice q1.A q1.m q1.c]) 0 rfl a54 rfl rfl rfl rfl (by intro j hj; rcases j with _ | j; (· rfl); rcases j with _ | j; (· rfl); exact absurd hj (by omega))) rfl ?_
  refine nx (xo_freshT rfl en34 rfl (fun W1 hO => mul_x _ _ _ _ W1 (hrp.old0 hO) hnp (hrq1.old0 hO) hnq1 (by assumption) (by assumption) (by assumption))) rfl ?_
  rintro _ _ ⟨S14, ⟨p14, rfl, hp14⟩, rfl⟩
  refine ne (eo_mv rfl rfl) rfl ?_
  refine ne (eo_extract rfl rfl rfl) rfl ?_
  refine ne (eo_extract rfl rfl rfl) rfl ?_
  refine nx (xo_alloc rfl z54) rfl ?_
  rintro _ _ ⟨g5, rfl, rfl⟩
  refine nu (xo_storeA 0 rfl a54 rfl rfl (ones_cons (by first | rfl | exact AS.one) (ones_cons (by first | rfl | exact AS.one) ones_nil)) rfl rfl rfl rfl) ?_
  rintro _ _ ⟨rfl, rfl⟩
  refine ne (eo_as rfl rfl) rfl ?_
  refine go_nil ?_
  refine gq_next ?_
  refine gc_seq ?_
  refine gc_region ?_
  refine ne (eo_field rfl f56_0 rfl) rfl ?_
  refine ne (eo_loadM (cs := [.bool (decide (yn < 0)), .slice p1.A p1.m p1.c]) 1 rfl a54 rfl rfl rfl rfl (by intro j hj; rcases j with _ | j; (· rfl); rcases j with _ | j; (· rfl); exact absurd hj (by omega))) rfl ?_
  refine ne (eo_field rfl f56_1 rfl) rfl ?_
  refine ne (eo_loadM (cs := [.bool (decide (zd < 0)), .slice q.A q.m q.c]) 2 rfl a54 rfl rfl rfl rfl (by intro j hj; rcases j with _ | j; (· rfl); rcases j with _ | j; (· rfl); exact absurd hj (by omega))) rfl ?_
  refine nx (xo_freshT rfl en34 rfl (fun W1 hO => mul_x _ _ _ _ W1 (hrp1.old0 hO) hnp1 (hrq.old0 hO) hnq (by assumption) (by assumption) (by assumption))) rfl ?_
  rintro _ _ ⟨S22, ⟨p22, rfl, hp22⟩, rfl⟩
  refine ne (eo_mv rfl rfl) rfl ?_
  refine ne (eo_extract rfl rfl rfl) rfl ?_
  refine ne (eo_extract rfl rfl rfl) rfl ?_
  refine nx (xo_alloc rfl z54) rfl ?_
  rintro _ _ ⟨g7, rfl, rfl⟩
  refine nu (xo_storeA 0 rfl a54 rfl rfl (ones_cons (by first | rfl | exact AS.one) (ones_cons (by first | rfl | exact AS.one) ones_nil)) rfl rfl rfl rfl) ?_
  rintro _ _ ⟨rfl, rfl⟩
  refine ne (eo_as rfl rfl) rfl ?_
  refine go_nil ?_
  refine gq_next ?_
  refine gc_seq ?_
  refine gc_region ?_
  refine ne (eo_loadA 1 rfl a54 rfl rfl rfl rfl) rfl ?_
  refine ne (eo_loadA 0 rfl a54 rfl rfl rfl rfl) rfl ?_
  refine ne (eo_call rfl en35 rfl (fun W1 hO => Cmp_c _ _ _ _ W1 (hp14.rd.rd (hO.tl 4 rfl (List.sublist_append_left _ _))) hp14.nm (hp22.rd.rd (hO.tl 4 rfl (List.sublist_append_right _ _))) hp22.nm (Nat.le_trans (hp14.nm.few (by assumption)) (by decide)) (Nat.le_trans (hp22.nm.few (by assumption)) (by decide)))) rfl ?_
  refine ne (eo_gtr rfl rfl rfl) rfl ?_
  refine ne (eo_as rfl rfl) rfl ?_
  refine go_nil ?_
  refine gq_next ?_
  refine gc_ret ?_
  refine gq_results (res1 rfl rfl) ?_
  exact fun W1 hO => ⟨ret_bool cmp_pos, hO.toExt⟩

/-- barscan/barscanref36.greater -/
theorem rgreat_c (a : Int) (p : Int) (b : Int) (q : Int) (w : World)  (ha : nab a ≤ 10000000000000000000000000000000000000000) (hb : nab b ≤ 10000000000000000000000000000000000000000) (haa : nab (a * a) ≤ 10000000000000000000000000000000000000000) (hbb : nab (b * b) ≤ 10000000000000000000000000000000000000000) (hp : nab p ≤ 10000000000000000000000000000000000000000) (hq : nab q ≤ 10000000000000000000000000000000000000000) (h1 : nab (a * a * q) ≤ 10000000000000000000000000000000000000000) (h2 : nab (b * b * p) ≤ 10000000000000000000000000000000000000000) (ra1 : -9223372036854775808 ≤ a) (ra2 : a ≤ 9223372036854775807) (rb1 : -9223372036854775808 ≤ b) (rb2 : b ≤ 9223372036854775807) (rp1 : -9223372036854775808 ≤ p) (rp2 : p ≤ 9223372036854775807) (rq1 : -9223372036854775808 ≤ q) (rq2 : q ≤ 9223372036854775807) :
    Calls Try.prog 31 #[.int .i64 a, .int .i64 p, .int .i64 b, .int .i64 q] w (fun e w' => e = .returned (.bool (decide (b * b * p < a * a * q))) ∧ Ext w w') := by
  refine calls_enter (N := ⟨45, []⟩) [] ([]) Try.func31 rfl rfl rfl (Ow.start _) ?_
  refine gc_seq ?_
  refine gc_region ?_
  refine ne (eo_as rfl rfl) rfl ?_
  refine go_nil ?_
  refine gq_next ?_
  refine gc_seq ?_
  refine gc_region ?_
  refine ne (eo_mv rfl rfl) rfl ?_
  refine nx (xo_freshT rfl en36 rfl (fun W1 hO => rfromint_x _ W1 (by omega) (by omega))) rfl ?_
  rintro _ H12 ⟨S12, ⟨p12, rfl, hp12⟩, hH12⟩
  obtain rfl : S12 = H12 := hH12.symm
  refine ne (eo_mv rfl rfl) rfl ?_
  refine nx (xo_freshT rfl en36 rfl (fun W1 hO => rfromint_x _ W1 (by omega) (by omega))) rfl ?_
  rintro _ _ ⟨S14, ⟨p14, rfl, hp14⟩, rfl⟩
  refine nx (xo_alloc rfl z54) rfl ?_
  rintro _ _ ⟨g9, rfl, rfl⟩
  refine nx (xo_alloc rfl z54) rfl ?_
  rintro _ _ ⟨g10, rfl, rfl⟩
  refine nu (xo_storeA 1 rfl a54 rfl rfl (ones_cons (by first | rfl | exact AS.one) (ones_cons (by first | rfl | exact AS.one) ones_nil)) rfl rfl rfl rfl) ?_
  rintro _ _ ⟨rfl, rfl⟩
  refine nu (xo_storeA 0 rfl a54 rfl rfl (ones_cons (by first | rfl | exact AS.one) (ones_cons (by first | rfl | exact AS.one) ones_nil)) rfl rfl rfl rfl) ?_
  rintro _ _ ⟨rfl, rfl⟩
  refine go_nil ?_
  refine gq_next ?_
  refine gc_seq ?_
  refine gc_region ?_
  refine ne (eo_loadA 1 rfl a54 rfl rfl rfl rfl) rfl ?_
  refine ne (eo_loadA 1 rfl a54 rfl rfl rfl rfl) rfl ?_
  refine nx (xo_freshT rfl en37 rfl (fun W1 hO => rmul_x _ _ _ _ W1 (hp12.rd.rd (hO.tl 2 rfl (List.sublist_append_left _ _))) hp12.nm (hp12.rd.rd (hO.tl 2 rfl (List.sublist_append_left _ _))) hp12.nm (by assumption) (by assumption) (by assumption))) rfl ?_
  rintro _ _ ⟨S18, ⟨p18, rfl, hp18⟩, rfl⟩
  refine ne (eo_mv rfl rfl) rfl ?_
  refine ne (eo_extract rfl rfl rfl) rfl ?_
  refine ne (eo_extract rfl rfl rfl) rfl ?_
  refine nu (xo_storeA 1 rfl a54 rfl rfl (ones_cons (by first | rfl | exact AS.one) (ones_cons (by first | rfl | exact AS.one) ones_nil)) rfl rfl rfl rfl) ?_
  rintro _ _ ⟨rfl, rfl⟩
  refine go_nil ?_
  refine gq_next ?_
  refine gc_seq ?_
  refine gc_region ?_
  refine ne (eo_loadA 0 rfl a54 rfl rfl rfl rfl) rfl ?_
  refine ne (eo_loadA 0 rfl a54 rfl rfl rfl rfl) rfl ?_
  refine nx (xo_freshT rfl en37 rfl (fun W1 hO => rmul_x _ _ _ _ W1 (hp14.rd.rd (hO.tl 2 rfl ((List.sublist_append_right _ _).trans (List.sublist_append_left _ _)))) hp14.nm (hp14.rd.rd (hO.tl 2 rfl ((List.sublist_append_right _ _).trans (List.sublist_append_left _ _)))) hp14.nm (by assumption) (by assumption) (by assumption))) rfl ?_
  rintro _ _ ⟨S24, ⟨p24, rfl, hp24⟩, rfl⟩
  refine ne (eo_mv rfl rfl) rfl ?_
  refine ne (eo_extract rfl rfl rfl) rfl ?_
  refine ne (eo_extract rfl rfl rfl) rfl ?_
  refine nu (xo_storeA 0 rfl a54 rfl rfl (ones_cons (by first | rfl | exact AS.one) (ones_cons (by first | rfl | exact AS.one) ones_nil)) rfl rfl rfl rfl) ?_
  rintro _ _ ⟨rfl, rfl⟩
  refine go_nil ?_
  refine gq_next ?_
  refine gc_seq ?_
  refine gc_drawP [0, 1] [2, 3, 4] [5, 6] [7] (by kernel_rfl) (by kernel_rfl) ?_
  refine de rfl (eo_loadA 1 rfl a54 rfl rfl rfl rfl) rfl ?_
  refine de rfl (eo_mv rfl rfl) rfl ?_
  refine ge_nil ?_
  refine da rfl (xo_freshT rfl en36 rfl (fun W1 hO => rfromint_x _ W1 (by omega) (by omega))) rfl ?_
  rintro _ _ ⟨S30, ⟨p30, rfl, hp30⟩, rfl⟩
  refine ⟨by first | exact (List.sublist_append_left _ _) | exact (List.sublist_append_left _ _), ?_⟩
  refine da rfl (xo_freshT rfl en37 rfl (fun W1 hO => rmul_x _ _ _ _ W1 (hp18.rd.rd (hO.tl 2 rfl (((List.sublist_append_right _ _).trans (List.sublist_append_left _ _)).trans (List.sublist_append_left _ _)))) hp18.nm (hp30.rd.rd (hO.tl 2 rfl (List.sublist_append_right _ _))) hp30.nm (by assumption) (by assumption) (by assumption))) rfl ?_
  rintro _ _ ⟨S31, ⟨p31, rfl, hp31⟩, rfl⟩
  refine ⟨by first | exact ((List.sublist_append_left _ _).trans (List.sublist_append_left _ _)) | exact (List.sublist_append_left _ _), ?_⟩
  refine da rfl (xo_of_eo (eo_mv rfl rfl)) rfl ?_
  rintro _ _ ⟨rfl, rfl⟩
  refine ⟨by first | exact ((List.sublist_append_left _ _).trans (List.sublist_append_left _ _)) | exact (List.sublist_append_left _ _), ?_⟩
  refine ga_nil ?_
  refine dp rfl (po_extract rfl rfl rfl) rfl ?_
  refine dp rfl (po_extract rfl rfl rfl) rfl ?_
  refine gp_nil ?_
  refine iu rfl (xo_storeA 1 rfl a54 rfl rfl (ones_cons (by first | rfl | exact AS.one) (ones_cons (by first | rfl | exact AS.one) ones_nil)) rfl rfl rfl rfl) ?_
  rintro _ _ ⟨rfl, rfl⟩
  refine gi_nil ?_
  refine gq_nq ?_
  refine gq_next ?_
  refine gc_seq ?_
  refine gc_drawP [0, 1] [2, 3, 4] [5, 6] [7] (by kernel_rfl) (by kernel_rfl) ?_
  refine de rfl (eo_loadA 0 rfl a54 rfl rfl rfl rfl) rfl ?_
  refine de rfl (eo_mv rfl rfl) rfl ?_
  refine ge_nil ?_
  refine da rfl (xo_freshT rfl en36 rfl (fun W1 hO => rfromint_x _ W1 (by omega) (by omega))) rfl ?_
  rintro _ _ ⟨S37, ⟨p37, rfl, hp37⟩, rfl⟩
  refine ⟨by first | exact (List.sublist_append_left _ _) | exact (List.sublist_append_left _ _), ?_⟩
  refine da rfl (xo_freshT rfl en37 rfl (fun W1 hO => rmul_x _ _ _ _ W1 (hp24.rd.rd (hO.tl 2 rfl ((((List.sublist_append_right _ _).trans (List.sublist_append_left _ _)).trans (List.sublist_append_left _ _)).trans (List.sublist_append_left _ _)))) hp24.nm (hp37.rd.rd (hO.tl 2 rfl (List.sublist_append_right _ _))) hp37.nm (by assumption) (by assumption) (by assumption))) rfl ?_
  rintro _ _ ⟨S38, ⟨p38, rfl, hp38⟩, rfl⟩
  refine ⟨by first | exact ((List.sublist_append_left _ _).trans (List.sublist_append_left _ _)) | exact (List.sublist_append_left _ _), ?_⟩
  refine da rfl (xo_of_eo (eo_mv rfl rfl)) rfl ?_
  rintro _ _ ⟨rfl, rfl⟩
  refine ⟨by first | exact ((List.sublist_append_left _ _).trans (List.sublist_append_left _ _)) | exact (List.sublist_append_left _ _), ?_⟩
  refine ga_nil ?_
  refine dp rfl (po_extract rfl rfl rfl) rfl ?_
  refine dp rfl (po_extract rfl rfl rfl) rfl ?_
  refine gp_nil ?_
  refine iu rfl (xo_storeA 0 rfl a54 rfl rfl (ones_cons (by first | rfl | exact AS.one) (ones_cons (by first | rfl | exact AS.one) ones_nil)) rfl rfl rfl rfl) ?_
  rintro _ _ ⟨rfl, rfl⟩
  refine gi_nil ?_
  refine gq_nq ?_
  refine gq_next ?_
  refine gc_seq ?_
  refine gc_region ?_
  refine ne (eo_loadA 1 rfl a54 rfl rfl rfl rfl) rfl ?_
  refine ne (eo_loadA 0 rfl a54 rfl rfl rfl rfl) rfl ?_
  refine ne (eo_call rfl en38 rfl (fun W1 hO => rCmp_c _ _ _ _ W1 (hp31.rd.rd (hO.tl 2 rfl (((List.sublist_append_right _ _).trans (List.sublist_append_left _ _)).trans (List.sublist_append_left _ _)))) hp31.nm (hp38.rd.rd (hO.tl 2 rfl (List.sublist_append_right _ _))) hp38.nm (Nat.le_trans (hp31.nm.few (by assumption)) (by decide)) (Nat.le_trans (hp38.nm.few (by assumption)) (by decide)))) rfl ?_
  refine ne (eo_gtr rfl rfl rfl) rfl ?_
  refine ne (eo_as rfl rfl) rfl ?_
  refine go_nil ?_
  refine gq_next ?_
  refine gc_ret ?_
  refine gq_results (res1 rfl rfl) ?_
  exact fun W1 hO => ⟨ret_bool cmp_pos, hO.toExt⟩

end Go.Proofs.Ytcdhbikginpogaa
