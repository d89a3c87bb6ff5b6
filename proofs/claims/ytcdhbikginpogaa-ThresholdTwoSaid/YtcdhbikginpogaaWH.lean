/-
  The walks of the functions of packages bigint and threshold and of the document's answers (part H): what each call returns, at every argument.
-/
import Derived.Test.YtcdhbikginpogaaWG
namespace Go.Proofs.Ytcdhbikginpogaa
open Go.RowKit Go.Eng

open Go.Bs
theorem en11 : Ent Try.prog 11 := ent_of Try.func11 (by kernel_rfl) rfl
theorem en29 : Ent Try.prog 29 := ent_of Try.func29 (by kernel_rfl) rfl
theorem en30 : Ent Try.prog 30 := ent_of Try.func30 (by kernel_rfl) rfl
theorem en12 : Ent Try.prog 12 := ent_of Try.func12 (by kernel_rfl) rfl
theorem en31 : Ent Try.prog 31 := ent_of Try.func31 (by kernel_rfl) rfl

/-- barscan/threshold.Otsu -/
theorem otsu_c (W H : Int) (A : Option Addr) (n c : Nat) (f : Nat → Int) (w : World) (hr : Rd w A (tab n (iv .u8 f))) (hp : PixOk n f) (hn : n ≤ 2000) :
    Calls Try.prog 13 #[.agg #[.int .i64 W, .int .i64 H, .slice A n c]] w (fun e w' => e = .returned (.tuple #[.int .i64 (otsR ⟨W, H, n, f⟩).1, .int .i64 (otsR ⟨W, H, n, f⟩).2]) ∧ Ext w w') := by
  refine calls_enter (N := ⟨81, []⟩) [] ([]) Try.func13 rfl rfl rfl (Ow.start _) ?_
  refine gc_seq ?_
  refine gc_region ?_
  refine nx (xo_boxA rfl rfl) rfl ?_
  rintro _ _ ⟨g1, rfl, rfl⟩
  refine ne (eo_as rfl rfl) rfl ?_
  refine ne (eo_as rfl rfl) rfl ?_
  refine go_nil ?_
  refine gq_next ?_
  refine gc_seq ?_
  refine gc_region ?_
  refine ne (eo_loadA 0 rfl a24 rfl rfl rfl rfl) rfl ?_
  refine ne (eo_call rfl en11 rfl (fun W1 hO => hist_c _ _ _ _ _ _ W1 (hr.old0 hO) (by assumption) (by omega))) rfl ?_
  refine ne (eo_mv rfl rfl) rfl ?_
  refine ne (eo_extract rfl rfl rfl) rfl ?_
  refine ne (eo_extract rfl rfl rfl) rfl ?_
  refine nx (xo_alloc rfl z27) rfl ?_
  rintro _ _ ⟨g4, rfl, rfl⟩
  refine nu (xo_storeA 0 rfl a27 rfl rfl tab_onei0 (by simp) rfl rfl (by simp)) ?_
  rintro _ _ ⟨rfl, rfl⟩
  refine ne (eo_as rfl rfl) rfl ?_
  refine go_nil ?_
  refine gq_next ?_
  refine gc_seq ?_
  refine gc_seq ?_
  refine gc_region ?_
  refine ne (eo_mv rfl rfl) rfl ?_
  refine ne (eo_neq rfl rfl rfl) rfl ?_
  refine go_nil ?_
  refine gq_next ?_
  refine gc_cond rfl (fun hc0 => ?_) (fun hc0 => ?_)
  ·
    replace hc0 := of_decide_eq_true hc0
    refine gc_seq ?_
    refine gc_region ?_
    refine ne (eo_mv rfl rfl) rfl ?_
    refine ne (eo_as rfl rfl) rfl ?_
    refine ne (eo_as rfl rfl) rfl ?_
    refine go_nil ?_
    refine gq_next ?_
    refine gc_ret ?_
    refine gq_then_ret ?_
    refine gq_results (res2 rfl rfl rfl) ?_
    exact fun W1 hO => ⟨ret_i2 (by rw [(hisR_err hc0).2, otsR_no (hisR_err hc0).1]), hO.toExt⟩
  ·
    replace hc0 := of_decide_eq_false hc0
    have hv := hisR_zero hc0
    rw [hisR_fst hv]
    refine gc_skip ?_
    refine gq_next ?_
    refine gc_seq ?_
    refine gc_region ?_
    refine ne (eo_as rfl rfl) rfl ?_
    refine ne (eo_as rfl rfl) rfl ?_
    refine ne (eo_as rfl rfl) rfl ?_
    refine ne (eo_as rfl rfl) rfl ?_
    refine go_nil ?_
    refine gq_next ?_
    refine gc_seq ?_
    refine gc_seq ?_
    refine gc_region ?_
    refine ne (eo_loadA 0 rfl a27 rfl rfl rfl (by simp)) rfl ?_
    refine ne (eo_mv rfl rfl) rfl ?_
    refine go_nil ?_
    refine gq_next ?_
    refine gc_block ?_
    refine loop3 (fun (v : Nat) (m1 : Int) (m2 : Int) => v ≤ 256 ∧ m1 = nT f n v ∧ m2 = sT f n v) (fun (v : Nat) (m1 : Int) (m2 : Int) => 256 - v) (fun (v : Nat) (m1 : Int) (m2 : Int) => [(4, .pointer (some ⟨g4, 0, none⟩)), (6, .int .i64 0), (7, .int .i64 0), (8, .int .i64 m1), (9, .int .i64 m2), (25, .agg (tab 256 (iv .i64 (cntP f n)) ++ []).toArray), (26, .int .i64 (v : Int))]) (fun (v : Nat) (m1 : Int) (m2 : Int) => [⟨g4, 27, tab 256 (iv .i64 (cntP f n)) ++ []⟩, ⟨g1, 24, [.int .i64 W, .int .i64 H, .slice A n c]⟩]) 0 0 0 ⟨by omega, (nT_none hp).1.symm, (nT_none hp).2.symm⟩ ⟨rfl, rfl, rfl, rfl, rfl, rfl, rfl, trivial⟩ (List.Sublist.refl _) ?_
    rintro v m1 m2 ⟨hv2, hm1, hm2⟩
    refine gc_seq ?_
    refine gc_region ?_
    refine ne (eo_lss rfl rfl rfl) rfl ?_
    refine go_nil ?_
    refine gq_next ?_
    refine gc_seq ?_
    refine gc_cond rfl (fun hc1 => ?_) (fun hc1 => ?_)
    ·
      replace hc1 := of_decide_eq_true hc1
      have cb := cnt_bd (f := f) (n := n) (v := (v : Int).toNat)
      have nb := nT_bd (f := f) (n := n) (t := v)
      have sb := sT_bd (t := v) hp
      have pb := mul_le2 (a := (v : Int)) (b := cntP f n (v : Int).toNat) (A := 256) (B := 2000) (by omega) (by omega) (by omega) (by omega)
      refine gc_skip ?_
      refine gq_next ?_
      refine gc_seq ?_
      refine gc_block ?_
      refine gc_seq ?_
      refine gc_region ?_
      refine ne (eo_mv rfl rfl) rfl ?_
      refine ne (eo_indexV rfl Try.underlying27 (by kernel_rfl) sz3 rfl rfl (by omega) (by omega)) rfl ?_
      refine ne (eo_as rfl rfl) rfl ?_
      refine ne (eo_as rfl rfl) rfl ?_
      refine go_nil ?_
      refine gq_next ?_
      refine gc_seq ?_
      refine gc_region ?_
      refine ne (eo_mv rfl rfl) rfl ?_
      refine ne (eo_mv rfl rfl) rfl ?_
      refine ne (eo_add rfl rfl rfl (by omega) (by omega)) rfl ?_
      refine ne (eo_as rfl rfl) rfl ?_
      refine go_nil ?_
      refine gq_next ?_
      refine gc_region ?_
      refine ne (eo_mv rfl rfl) rfl ?_
      refine ne (eo_mv rfl rfl) rfl ?_
      refine ne (eo_mv rfl rfl) rfl ?_
      refine ne (eo_mul rfl rfl rfl (by omega) (by omega)) rfl ?_
      refine ne (eo_add rfl rfl rfl (by omega) (by omega)) rfl ?_
      refine ne (eo_as rfl rfl) rfl ?_
      refine go_nil ?_
      refine gq_block_end ?_
      refine gq_next ?_
      refine gc_region ?_
      refine ne (eo_add rfl rfl rfl (by omega) (by omega)) rfl ?_
      refine ne (eo_mv rfl rfl) rfl ?_
      refine go_nil ?_
      exact round3 (v + 1) (m1 + ((cntP f n) v)) (m2 + ((v : Int) * ((cntP f n) v))) ⟨by omega, by rw [hm1, ← nT_succ], by rw [hm2, ← sT_succ]⟩ (by omega) ⟨rfl, rfl, rfl, rfl, rfl, rfl, rfl, trivial⟩ (List.Sublist.refl _)
    ·
      replace hc1 := of_decide_eq_false hc1
      obtain rfl : v = 256 := by omega
      rw [nT_all hp] at hm1
      subst hm1
      subst hm2
      obtain ⟨⟨x1, x2⟩, ⟨x3, x4⟩, ⟨x5, x6⟩, ⟨x7, x8⟩⟩ := parts_bd (t := 0) hp hn
      refine gc_exit ?_
      refine gq_then_exit ?_
      refine gq_then_exit ?_
      refine gq_block_hit ?_
      refine gq_next ?_
      refine gc_seq ?_
      refine gc_weak (L' := [(4, .pointer (some ⟨g4, 0, none⟩)), (6, .int .i64 (nT f n 0)), (7, .int .i64 (sT f n 0)), (8, .int .i64 ((n : Int) - nT f n 0)), (9, .int .i64 (sT f n 256 - sT f n 0))]) (H' := [⟨g4, 27, tab 256 (iv .i64 (cntP f n)) ++ []⟩, ⟨g1, 24, [.int .i64 W, .int .i64 H, .slice A n c]⟩]) ⟨rfl, (look_int rfl (by have := nT_none hp; omega)), (look_int rfl (by have := nT_none hp; omega)), (look_int rfl (by have := nT_none hp; omega)), (look_int rfl (by have := nT_none hp; omega)), trivial⟩ (List.Sublist.refl _) ?_
      refine gc_region ?_
      refine ne (eo_mv rfl rfl) rfl ?_
      refine ne (eo_mv rfl rfl) rfl ?_
      refine ne (eo_mv rfl rfl) rfl ?_
      refine ne (eo_mv rfl rfl) rfl ?_
      refine nx (xo_freshT rfl en29 rfl (fun W1 hO => var_x _ _ _ _ W1 (by omega) (by omega) (by omega) (by omega) (by omega) (by omega) (by omega) (by omega))) rfl ?_
      rintro _ _ ⟨S43, ⟨p43, q43, rfl, hp43, hq43⟩, rfl⟩
      refine nx (xo_alloc rfl z56) rfl ?_
      rintro _ _ ⟨g13, rfl, rfl⟩
      refine ne (eo_as rfl rfl) rfl ?_
      refine nu (xo_storeA 0 rfl a56 rfl rfl (ones_cons (by first | rfl | exact AS.one) (ones_cons (by first | rfl | exact AS.one) (ones_cons (by first | rfl | exact AS.one) (ones_cons (by first | rfl | exact AS.one) ones_nil)))) rfl rfl rfl rfl) ?_
      rintro _ _ ⟨rfl, rfl⟩
      refine go_nil ?_
      refine gq_next ?_
      refine gc_seq ?_
      refine gc_seq ?_
      refine gc_region ?_
      refine ne (eo_as rfl rfl) rfl ?_
      refine go_nil ?_
      refine gq_next ?_
      refine gc_block ?_
      refine loop3 (fun (k : Nat) (best : Nat) (V : VS) => k ≤ 255 ∧ best = bst f n k ∧ (V.p.Ok (nab (vN f n best)) V.S ∧ V.q.Ok (nab (vD f n best)) V.S)) (fun (k : Nat) (best : Nat) (V : VS) => 255 - k) (fun (k : Nat) (best : Nat) (V : VS) => [(4, .pointer (some ⟨g4, 0, none⟩)), (6, .int .i64 (nT f n k)), (7, .int .i64 (sT f n k)), (8, .int .i64 ((n : Int) - nT f n k)), (9, .int .i64 (sT f n 256 - sT f n k)), (12, .int .i64 (best : Int)), (13, .pointer (some ⟨g13, 0, none⟩)), (14, .int .i64 ((k : Int) + 1))]) (fun (k : Nat) (best : Nat) (V : VS) => ⟨g13, 56, [.bool (decide ((vN f n best) < 0)), .slice V.p.A V.p.m V.p.c, .bool (decide ((vD f n best) < 0)), .slice V.q.A V.q.m V.q.c]⟩ :: ⟨g4, 27, tab 256 (iv .i64 (cntP f n)) ++ []⟩ :: ⟨g1, 24, [.int .i64 W, .int .i64 H, .slice A n c]⟩ :: V.S) 0 0 (⟨p43, q43, S43⟩) ⟨by omega, rfl, hp43, hq43⟩ ⟨rfl, rfl, rfl, rfl, rfl, rfl, rfl, (look_int rfl (by omega)), trivial⟩ (List.Sublist.refl _) ?_
      rintro k best V ⟨hk, hb, hV⟩
      refine gc_seq ?_
      refine gc_seq ?_
      refine gc_region ?_
      refine ne (eo_mv rfl rfl) rfl ?_
      refine ne (eo_lss rfl rfl rfl) rfl ?_
      refine go_nil ?_
      refine gq_next ?_
      refine gc_cond rfl (fun hc2 => ?_) (fun hc2 => ?_)
      ·
        replace hc2 := of_decide_eq_true hc2
        have ek : (0 + ((k : Int) + 1 - 1).toNat * 1) = k := by omega
        have y1 : nT f n k + cntP f n (0 + ((k : Int) + 1 - 1).toNat * 1) = nT f n (k + 1) := by rw [ek]; exact nT_succ
        have y2 : sT f n k + ((k : Int) + 1 - 1) * cntP f n (0 + ((k : Int) + 1 - 1).toNat * 1) = sT f n (k + 1) := by rw [ek, show (k : Int) + 1 - 1 = k by omega]; exact sT_succ
        have cb := cnt_bd (f := f) (n := n) (v := (0 + ((k : Int) + 1 - 1).toNat * 1))
        have pb := mul_le2 (a := (k : Int) + 1 - 1) (b := cntP f n (0 + ((k : Int) + 1 - 1).toNat * 1)) (A := 256) (B := 2000) (by omega) (by omega) (by omega) (by omega)
        obtain ⟨⟨x1, x2⟩, ⟨x3, x4⟩, ⟨x5, x6⟩, ⟨x7, x8⟩⟩ := parts_bd (t := k) hp hn
        obtain ⟨⟨w1, w2⟩, ⟨w3, w4⟩, ⟨w5, w6⟩, ⟨w7, w8⟩⟩ := parts_bd (t := k + 1) hp hn
        have kb := vNB (t := k + 1) hp hn
        have kc := vNB (t := best) hp hn
        obtain ⟨k1, k2, k3⟩ := cross_bd kb.1 kc.2
        obtain ⟨k4, k5, k6⟩ := cross_bd kc.1 kb.2
        refine gc_skip ?_
        refine gq_next ?_
        refine gc_seq ?_
        refine gc_block ?_
        refine gc_seq ?_
        refine gc_region ?_
        refine ne (eo_mv rfl rfl) rfl ?_
        refine ne (eo_sub rfl rfl rfl (by omega) (by omega)) rfl ?_
        refine ne (eo_indexArr rfl Try.underlying27 sz3 rfl rfl (by omega) (by omega)) rfl ?_
        refine ne (eo_geti 1 rfl s3 rfl rfl (by omega)) rfl ?_
        refine ne (eo_as rfl rfl) rfl ?_
        refine go_nil ?_
        refine gq_next ?_
        refine gc_seq ?_
        refine gc_region ?_
        refine ne (eo_mv rfl rfl) rfl ?_
        refine ne (eo_mv rfl rfl) rfl ?_
        refine ne (eo_add rfl rfl rfl (by omega) (by omega)) rfl ?_
        refine ne (eo_mv rfl rfl) rfl ?_
        refine ne (eo_mv rfl rfl) rfl ?_
        refine ne (eo_sub rfl rfl rfl (by omega) (by omega)) rfl ?_
        refine ne (eo_mv rfl rfl) rfl ?_
        refine ne (eo_mul rfl rfl rfl (by omega) (by omega)) rfl ?_
        refine ne (eo_add rfl rfl rfl (by omega) (by omega)) rfl ?_
        refine ne (eo_as rfl rfl) rfl ?_
        refine ne (eo_as rfl rfl) rfl ?_
        refine go_nil ?_
        refine gq_next ?_
        refine gc_seq ?_
        refine gc_region ?_
        refine ne (eo_mv rfl rfl) rfl ?_
        refine ne (eo_mv rfl rfl) rfl ?_
        refine ne (eo_sub rfl rfl rfl (by omega) (by omega)) rfl ?_
        refine ne (eo_mv rfl rfl) rfl ?_
        refine ne (eo_mv rfl rfl) rfl ?_
        refine ne (eo_sub rfl rfl rfl (by omega) (by omega)) rfl ?_
        refine ne (eo_mv rfl rfl) rfl ?_
        refine ne (eo_mul rfl rfl rfl (by omega) (by omega)) rfl ?_
        refine ne (eo_sub rfl rfl rfl (by omega) (by omega)) rfl ?_
        refine ne (eo_as rfl rfl) rfl ?_
        refine ne (eo_as rfl rfl) rfl ?_
        refine go_nil ?_
        refine gq_next ?_
        refine gc_seq ?_
        refine gc_weak (L' := [(4, .pointer (some ⟨g4, 0, none⟩)), (6, .int .i64 (nT f n (k + 1))), (7, .int .i64 (sT f n (k + 1))), (8, .int .i64 ((n : Int) - nT f n (k + 1))), (9, .int .i64 (sT f n 256 - sT f n (k + 1))), (12, .int .i64 (best : Int)), (13, .pointer (some ⟨g13, 0, none⟩)), (14, .int .i64 ((k : Int) + 1))]) (H' := ⟨g13, 56, [.bool (decide ((vN f n best) < 0)), .slice V.p.A V.p.m V.p.c, .bool (decide ((vD f n best) < 0)), .slice V.q.A V.q.m V.q.c]⟩ :: ⟨g4, 27, tab 256 (iv .i64 (cntP f n)) ++ []⟩ :: ⟨g1, 24, [.int .i64 W, .int .i64 H, .slice A n c]⟩ :: V.S) ⟨rfl, (look_int rfl (by omega)), (look_int rfl (by omega)), (look_int rfl (by omega)), (look_int rfl (by omega)), rfl, rfl, rfl, trivial⟩ (List.Sublist.refl _) ?_
        refine gc_region ?_
        refine ne (eo_mv rfl rfl) rfl ?_
        refine ne (eo_mv rfl rfl) rfl ?_
        refine ne (eo_mv rfl rfl) rfl ?_
        refine ne (eo_mv rfl rfl) rfl ?_
        refine nx (xo_freshT rfl en29 rfl (fun W1 hO => var_x _ _ _ _ W1 (by omega) (by omega) (by omega) (by omega) (by omega) (by omega) (by omega) (by omega))) rfl ?_
        rintro _ _ ⟨S74, ⟨p74, q74, rfl, hp74, hq74⟩, rfl⟩
        refine nx (xo_alloc rfl z56) rfl ?_
        rintro _ _ ⟨g16, rfl, rfl⟩
        refine nu (xo_storeA 0 rfl a56 rfl rfl (ones_cons (by first | rfl | exact AS.one) (ones_cons (by first | rfl | exact AS.one) (ones_cons (by first | rfl | exact AS.one) (ones_cons (by first | rfl | exact AS.one) ones_nil)))) rfl rfl rfl rfl) ?_
        rintro _ _ ⟨rfl, rfl⟩
        refine go_nil ?_
        refine gq_next ?_
        refine gc_seq ?_
        refine gc_region ?_
        refine ne (eo_loadA 0 rfl a56 rfl rfl rfl rfl) rfl ?_
        refine ne (eo_loadA 1 rfl a56 rfl rfl rfl rfl) rfl ?_
        refine ne (eo_call rfl en30 rfl (fun W1 hO => great_c _ _ _ _ _ _ _ _ W1 (hp74.rd.rd (hO.tl 4 rfl (List.sublist_append_right _ _))) hp74.nm (hq74.rd.rd (hO.tl 4 rfl (List.sublist_append_right _ _))) hq74.nm (hV.1.rd.rd (hO.tl 4 rfl (List.sublist_append_left _ _))) hV.1.nm (hV.2.rd.rd (hO.tl 4 rfl (List.sublist_append_left _ _))) hV.2.nm k1 k2 k3 k4 k5 k6)) rfl ?_
        refine go_nil ?_
        refine gq_next ?_
        refine gc_cond rfl (fun hc3 => ?_) (fun hc3 => ?_)
        ·
          have hd3 := of_decide_eq_true hc3
          refine gc_draw [] [0, 1, 2] [] [3] (by kernel_rfl) (by kernel_rfl) ?_
          refine gp_nil ?_
          refine de rfl (eo_mv rfl rfl) rfl ?_
          refine de rfl (eo_loadA 0 rfl a56 rfl rfl rfl rfl) rfl ?_
          refine de rfl (eo_as rfl rfl) rfl ?_
          refine ge_nil ?_
          refine ga_nil ?_
          refine iu rfl (xo_storeA 1 rfl a56 rfl rfl (ones_cons (by first | rfl | exact AS.one) (ones_cons (by first | rfl | exact AS.one) (ones_cons (by first | rfl | exact AS.one) (ones_cons (by first | rfl | exact AS.one) ones_nil)))) rfl rfl rfl rfl) ?_
          rintro _ _ ⟨rfl, rfl⟩
          refine gi_nil ?_
          refine gq_nq ?_
          refine gq_block_end ?_
          refine gq_next ?_
          refine gc_region ?_
          refine ne (eo_mv rfl rfl) rfl ?_
          refine ne (eo_add rfl rfl rfl (by omega) (by omega)) rfl ?_
          refine ne (eo_as rfl rfl) rfl ?_
          refine go_nil ?_
          exact round3 (k + 1) (k + 1) ⟨p74, q74, V.S ++ S74⟩ ⟨by omega, bst_yes hb hd3, hp74.sub (List.sublist_append_right _ _), hq74.sub (List.sublist_append_right _ _)⟩ (by omega) ⟨rfl, rfl, rfl, rfl, rfl, rfl, rfl, (look_int rfl (by omega)), trivial⟩ (List.Sublist.cons _ (List.Sublist.refl _))
        ·
          have hd3 := of_decide_eq_false hc3
          refine gc_skip ?_
          refine gq_block_end ?_
          refine gq_next ?_
          refine gc_region ?_
          refine ne (eo_mv rfl rfl) rfl ?_
          refine ne (eo_add rfl rfl rfl (by omega) (by omega)) rfl ?_
          refine ne (eo_as rfl rfl) rfl ?_
          refine go_nil ?_
          exact round3 (k + 1) best ⟨V.p, V.q, V.S ++ S74⟩ ⟨by omega, bst_no hb hd3, hV.1.sub (List.sublist_append_left _ _), hV.2.sub (List.sublist_append_left _ _)⟩ (by omega) ⟨rfl, rfl, rfl, rfl, rfl, rfl, rfl, (look_int rfl (by omega)), trivial⟩ (List.Sublist.cons _ (List.Sublist.refl _))
      ·
        replace hc2 := of_decide_eq_false hc2
        refine gc_exit ?_
        refine gq_then_exit ?_
        refine gq_then_exit ?_
        refine gq_block_hit ?_
        refine gq_next ?_
        refine gc_seq ?_
        refine gc_region ?_
        refine ne (eo_mv rfl rfl) rfl ?_
        refine ne (eo_as rfl rfl) rfl ?_
        refine ne (eo_as rfl rfl) rfl ?_
        refine go_nil ?_
        refine gq_next ?_
        refine gc_ret ?_
        refine gq_results (res2 rfl rfl rfl) ?_
        exact fun W1 hO => ⟨ret_i2 (by rw [otsR_ok hv, hb, show k = 255 by omega]), hO.toExt⟩

/-- barscan/barscanref36.Otsu -/
theorem rotsu_c (W H : Int) (A : Option Addr) (n c : Nat) (f : Nat → Int) (w : World) (hr : Rd w A (tab n (iv .u8 f))) (hp : PixOk n f) (hn : n ≤ 2000) :
    Calls Try.prog 14 #[.agg #[.int .i64 W, .int .i64 H, .slice A n c]] w (fun e w' => e = .returned (.tuple #[.int .i64 (otsR ⟨W, H, n, f⟩).1, .int .i64 (otsR ⟨W, H, n, f⟩).2]) ∧ Ext w w') := by
  refine calls_enter (N := ⟨89, []⟩) [] ([]) Try.func14 rfl rfl rfl (Ow.start _) ?_
  refine gc_seq ?_
  refine gc_region ?_
  refine nx (xo_boxA rfl rfl) rfl ?_
  rintro _ _ ⟨g1, rfl, rfl⟩
  refine ne (eo_as rfl rfl) rfl ?_
  refine ne (eo_as rfl rfl) rfl ?_
  refine go_nil ?_
  refine gq_next ?_
  refine gc_seq ?_
  refine gc_region ?_
  refine ne (eo_loadA 0 rfl a24 rfl rfl rfl rfl) rfl ?_
  refine ne (eo_call rfl en12 rfl (fun W1 hO => rhist_c _ _ _ _ _ _ W1 (hr.old0 hO) (by assumption) (by omega))) rfl ?_
  refine ne (eo_mv rfl rfl) rfl ?_
  refine ne (eo_extract rfl rfl rfl) rfl ?_
  refine ne (eo_extract rfl rfl rfl) rfl ?_
  refine nx (xo_alloc rfl z27) rfl ?_
  rintro _ _ ⟨g4, rfl, rfl⟩
  refine nu (xo_storeA 0 rfl a27 rfl rfl tab_onei0 (by simp) rfl rfl (by simp)) ?_
  rintro _ _ ⟨rfl, rfl⟩
  refine ne (eo_as rfl rfl) rfl ?_
  refine go_nil ?_
  refine gq_next ?_
  refine gc_seq ?_
  refine gc_seq ?_
  refine gc_region ?_
  refine ne (eo_mv rfl rfl) rfl ?_
  refine ne (eo_neq rfl rfl rfl) rfl ?_
  refine go_nil ?_
  refine gq_next ?_
  refine gc_cond rfl (fun hc0 => ?_) (fun hc0 => ?_)
  ·
    replace hc0 := of_decide_eq_true hc0
    refine gc_seq ?_
    refine gc_region ?_
    refine ne (eo_mv rfl rfl) rfl ?_
    refine ne (eo_as rfl rfl) rfl ?_
    refine ne (eo_as rfl rfl) rfl ?_
    refine go_nil ?_
    refine gq_next ?_
    refine gc_ret ?_
    refine gq_then_ret ?_
    refine gq_results (res2 rfl rfl rfl) ?_
    exact fun W1 hO => ⟨ret_i2 (by rw [(hisR_err hc0).2, otsR_no (hisR_err hc0).1]), hO.toExt⟩
  ·
    replace hc0 := of_decide_eq_false hc0
    have hv := hisR_zero hc0
    rw [hisR_fst hv]
    refine gc_skip ?_
    refine gq_next ?_
    refine gc_seq ?_
    refine gc_region ?_
    refine ne (eo_as rfl rfl) rfl ?_
    refine ne (eo_as rfl rfl) rfl ?_
    refine go_nil ?_
    refine gq_next ?_
    refine gc_seq ?_
    refine gc_seq ?_
    refine gc_region ?_
    refine ne (eo_as rfl rfl) rfl ?_
    refine go_nil ?_
    refine gq_next ?_
    refine gc_block ?_
    refine loop3 (fun (v : Nat) (m1 : Int) (m2 : Int) => v ≤ 256 ∧ m1 = nT f n v ∧ m2 = sT f n v) (fun (v : Nat) (m1 : Int) (m2 : Int) => 256 - v) (fun (v : Nat) (m1 : Int) (m2 : Int) => [(4, .pointer (some ⟨g4, 0, none⟩)), (6, .int .i64 m1), (7, .int .i64 m2), (8, .int .i64 (v : Int))]) (fun (v : Nat) (m1 : Int) (m2 : Int) => [⟨g4, 27, tab 256 (iv .i64 (cntP f n)) ++ []⟩, ⟨g1, 24, [.int .i64 W, .int .i64 H, .slice A n c]⟩]) 0 0 0 ⟨by omega, (nT_none hp).1.symm, (nT_none hp).2.symm⟩ ⟨rfl, rfl, rfl, rfl, trivial⟩ (List.Sublist.refl _) ?_
    rintro v m1 m2 ⟨hv2, hm1, hm2⟩
    refine gc_seq ?_
    refine gc_seq ?_
    refine gc_region ?_
    refine ne (eo_mv rfl rfl) rfl ?_
    refine ne (eo_lss rfl rfl rfl) rfl ?_
    refine go_nil ?_
    refine gq_next ?_
    refine gc_cond rfl (fun hc1 => ?_) (fun hc1 => ?_)
    ·
      replace hc1 := of_decide_eq_true hc1
      have cb := cnt_bd (f := f) (n := n) (v := (0 + (v : Int).toNat * 1))
      have nb := nT_bd (f := f) (n := n) (t := v)
      have sb := sT_bd (t := v) hp
      have pb := mul_le2 (a := (v : Int)) (b := cntP f n (0 + (v : Int).toNat * 1)) (A := 256) (B := 2000) (by omega) (by omega) (by omega) (by omega)
      refine gc_skip ?_
      refine gq_next ?_
      refine gc_seq ?_
      refine gc_block ?_
      refine gc_seq ?_
      refine gc_region ?_
      refine ne (eo_mv rfl rfl) rfl ?_
      refine ne (eo_mv rfl rfl) rfl ?_
      refine ne (eo_indexArr rfl Try.underlying27 sz3 rfl rfl (by omega) (by omega)) rfl ?_
      refine ne (eo_geti 0 rfl s3 rfl rfl (by omega)) rfl ?_
      refine ne (eo_add rfl rfl rfl (by omega) (by omega)) rfl ?_
      refine ne (eo_as rfl rfl) rfl ?_
      refine go_nil ?_
      refine gq_next ?_
      refine gc_region ?_
      refine ne (eo_mv rfl rfl) rfl ?_
      refine ne (eo_mv rfl rfl) rfl ?_
      refine ne (eo_mv rfl rfl) rfl ?_
      refine ne (eo_indexArr rfl Try.underlying27 sz3 rfl rfl (by omega) (by omega)) rfl ?_
      refine ne (eo_geti 0 rfl s3 rfl rfl (by omega)) rfl ?_
      refine ne (eo_mul rfl rfl rfl (by omega) (by omega)) rfl ?_
      refine ne (eo_add rfl rfl rfl (by omega) (by omega)) rfl ?_
      refine ne (eo_as rfl rfl) rfl ?_
      refine go_nil ?_
      refine gq_block_end ?_
      refine gq_next ?_
      refine gc_region ?_
      refine ne (eo_mv rfl rfl) rfl ?_
      refine ne (eo_add rfl rfl rfl (by omega) (by omega)) rfl ?_
      refine ne (eo_as rfl rfl) rfl ?_
      refine go_nil ?_
      exact round3 (v + 1) (m1 + ((cntP f n) (0 + v * 1))) (m2 + ((v : Int) * ((cntP f n) (0 + v * 1)))) ⟨by omega, by rw [hm1, ← nT_succ]; simp, by rw [hm2, ← sT_succ]; simp⟩ (by omega) ⟨rfl, rfl, rfl, rfl, trivial⟩ (List.Sublist.refl _)
    ·
      replace hc1 := of_decide_eq_false hc1
      obtain rfl : v = 256 := by omega
      rw [nT_all hp] at hm1
      subst hm1
      subst hm2
      obtain ⟨⟨x1, x2⟩, ⟨x3, x4⟩, ⟨x5, x6⟩, ⟨x7, x8⟩⟩ := parts_bd (t := 0) hp hn
      refine gc_exit ?_
      refine gq_then_exit ?_
      refine gq_then_exit ?_
      refine gq_block_hit ?_
      refine gq_next ?_
      refine gc_seq ?_
      refine gc_region ?_
      refine ne (eo_as rfl rfl) rfl ?_
      refine ne (eo_as rfl rfl) rfl ?_
      refine ne (eo_as rfl rfl) rfl ?_
      refine go_nil ?_
      refine gq_next ?_
      refine gc_seq ?_
      refine gc_region ?_
      refine ne (eo_as rfl rfl) rfl ?_
      refine ne (eo_as rfl rfl) rfl ?_
      refine go_nil ?_
      refine gq_next ?_
      refine gc_seq ?_
      refine gc_seq ?_
      refine gc_region ?_
      refine ne (eo_as rfl rfl) rfl ?_
      refine go_nil ?_
      refine gq_next ?_
      refine gc_block ?_
      refine loop4 (fun (k : Nat) (best : Nat) (a : Int) (p : Int) => k ≤ 255 ∧ best = bst f n k ∧ a * a = vN f n best ∧ p = vD f n best ∧ (-1020000000 ≤ a ∧ a ≤ 1020000000)) (fun (k : Nat) (best : Nat) (a : Int) (p : Int) => 255 - k) (fun (k : Nat) (best : Nat) (a : Int) (p : Int) => [(4, .pointer (some ⟨g4, 0, none⟩)), (6, .int .i64 (n : Int)), (7, .int .i64 (sT f n 256)), (9, .int .i64 (best : Int)), (10, .int .i64 a), (11, .int .i64 p), (12, .int .i64 (nT f n k)), (13, .int .i64 (sT f n k)), (14, .int .i64 ((k : Int) + 1))]) (fun (k : Nat) (best : Nat) (a : Int) (p : Int) => [⟨g4, 27, tab 256 (iv .i64 (cntP f n)) ++ []⟩, ⟨g1, 24, [.int .i64 W, .int .i64 H, .slice A n c]⟩]) 0 0 0 1 ⟨by omega, rfl, (vN_zero hp).1.symm, (vN_zero hp).2.symm, by omega⟩ ⟨rfl, rfl, rfl, rfl, rfl, rfl, (look_int rfl (by have := nT_none hp; omega)), (look_int rfl (by have := nT_none hp; omega)), (look_int rfl (by omega)), trivial⟩ (List.Sublist.refl _) ?_
      rintro k best a p ⟨hk, hb, ha, hq, hab⟩
      refine gc_seq ?_
      refine gc_seq ?_
      refine gc_region ?_
      refine ne (eo_mv rfl rfl) rfl ?_
      refine ne (eo_lss rfl rfl rfl) rfl ?_
      refine go_nil ?_
      refine gq_next ?_
      refine gc_cond rfl (fun hc2 => ?_) (fun hc2 => ?_)
      ·
        replace hc2 := of_decide_eq_true hc2
        have ek : (0 + ((k : Int) + 1 - 1).toNat * 1) = k := by omega
        have y1 : nT f n k + cntP f n (0 + ((k : Int) + 1 - 1).toNat * 1) = nT f n (k + 1) := by rw [ek]; exact nT_succ
        have y2 : sT f n k + ((k : Int) + 1 - 1) * cntP f n (0 + ((k : Int) + 1 - 1).toNat * 1) = sT f n (k + 1) := by rw [ek, show (k : Int) + 1 - 1 = k by omega]; exact sT_succ
        have cb := cnt_bd (f := f) (n := n) (v := (0 + ((k : Int) + 1 - 1).toNat * 1))
        have pb := mul_le2 (a := (k : Int) + 1 - 1) (b := cntP f n (0 + ((k : Int) + 1 - 1).toNat * 1)) (A := 256) (B := 2000) (by omega) (by omega) (by omega) (by omega)
        obtain ⟨⟨x1, x2⟩, ⟨x3, x4⟩, ⟨x5, x6⟩, ⟨x7, x8⟩⟩ := parts_bd (t := k) hp hn
        obtain ⟨⟨w1, w2⟩, ⟨w3, w4⟩, ⟨w5, w6⟩, ⟨w7, w8⟩⟩ := parts_bd (t := k + 1) hp hn
        obtain ⟨y3, y4, y5, y6⟩ := var_bd w1 w2 w3 w4 w5 w6 w7 w8
        have kc := vNB (t := best) hp hn
        have m1 := mul_le2 y6.1 y6.2 (show 0 ≤ p by omega) (show p ≤ 4000000 by omega)
        have m2 := mul_le2 (show 0 ≤ a * a by omega) (show a * a ≤ 1040400000000000000 by omega) y5.1 y5.2
        have u1 : nab (((n : Int) - nT f n (k + 1)) * sT f n (k + 1) - nT f n (k + 1) * (sT f n 256 - sT f n (k + 1))) ≤ 10000000000000000000000000000000000000000 := nab_bd (by omega)
        have u2 : nab a ≤ 10000000000000000000000000000000000000000 := nab_bd (by omega)
        have u3 : nab ((((n : Int) - nT f n (k + 1)) * sT f n (k + 1) - nT f n (k + 1) * (sT f n 256 - sT f n (k + 1))) * (((n : Int) - nT f n (k + 1)) * sT f n (k + 1) - nT f n (k + 1) * (sT f n 256 - sT f n (k + 1)))) ≤ 10000000000000000000000000000000000000000 := nab_bd (by omega)
        have u4 : nab (a * a) ≤ 10000000000000000000000000000000000000000 := nab_bd (by omega)
        have u5 : nab (nT f n (k + 1) * ((n : Int) - nT f n (k + 1))) ≤ 10000000000000000000000000000000000000000 := nab_bd (by omega)
        have u6 : nab p ≤ 10000000000000000000000000000000000000000 := nab_bd (by omega)
        have u7 : nab ((((n : Int) - nT f n (k + 1)) * sT f n (k + 1) - nT f n (k + 1) * (sT f n 256 - sT f n (k + 1))) * (((n : Int) - nT f n (k + 1)) * sT f n (k + 1) - nT f n (k + 1) * (sT f n 256 - sT f n (k + 1))) * p) ≤ 10000000000000000000000000000000000000000 := nab_bd (by omega)
        have u8 : nab (a * a * (nT f n (k + 1) * ((n : Int) - nT f n (k + 1)))) ≤ 10000000000000000000000000000000000000000 := nab_bd (by omega)
        refine gc_skip ?_
        refine gq_next ?_
        refine gc_seq ?_
        refine gc_block ?_
        refine gc_seq ?_
        refine gc_region ?_
        refine ne (eo_mv rfl rfl) rfl ?_
        refine ne (eo_mv rfl rfl) rfl ?_
        refine ne (eo_sub rfl rfl rfl (by omega) (by omega)) rfl ?_
        refine ne (eo_indexArr rfl Try.underlying27 sz3 rfl rfl (by omega) (by omega)) rfl ?_
        refine ne (eo_geti 0 rfl s3 rfl rfl (by omega)) rfl ?_
        refine ne (eo_add rfl rfl rfl (by omega) (by omega)) rfl ?_
        refine ne (eo_as rfl rfl) rfl ?_
        refine go_nil ?_
        refine gq_next ?_
        refine gc_seq ?_
        refine gc_region ?_
        refine ne (eo_mv rfl rfl) rfl ?_
        refine ne (eo_mv rfl rfl) rfl ?_
        refine ne (eo_sub rfl rfl rfl (by omega) (by omega)) rfl ?_
        refine ne (eo_mv rfl rfl) rfl ?_
        refine ne (eo_sub rfl rfl rfl (by omega) (by omega)) rfl ?_
        refine ne (eo_indexArr rfl Try.underlying27 sz3 rfl rfl (by omega) (by omega)) rfl ?_
        refine ne (eo_geti 0 rfl s3 rfl rfl (by omega)) rfl ?_
        refine ne (eo_mul rfl rfl rfl (by omega) (by omega)) rfl ?_
        refine ne (eo_add rfl rfl rfl (by omega) (by omega)) rfl ?_
        refine ne (eo_as rfl rfl) rfl ?_
        refine go_nil ?_
        refine gq_next ?_
        refine gc_seq ?_
        refine gc_weak (L' := [(4, .pointer (some ⟨g4, 0, none⟩)), (6, .int .i64 (n : Int)), (7, .int .i64 (sT f n 256)), (9, .int .i64 (best : Int)), (10, .int .i64 a), (11, .int .i64 p), (12, .int .i64 (nT f n (k + 1))), (13, .int .i64 (sT f n (k + 1))), (14, .int .i64 ((k : Int) + 1))]) (H' := [⟨g4, 27, tab 256 (iv .i64 (cntP f n)) ++ []⟩, ⟨g1, 24, [.int .i64 W, .int .i64 H, .slice A n c]⟩]) ⟨rfl, rfl, rfl, rfl, rfl, rfl, (look_int rfl (by omega)), (look_int rfl (by omega)), rfl, trivial⟩ (List.Sublist.refl _) ?_
        refine gc_region ?_
        refine ne (eo_mv rfl rfl) rfl ?_
        refine ne (eo_mv rfl rfl) rfl ?_
        refine ne (eo_sub rfl rfl rfl (by omega) (by omega)) rfl ?_
        refine ne (eo_mv rfl rfl) rfl ?_
        refine ne (eo_mul rfl rfl rfl (by omega) (by omega)) rfl ?_
        refine ne (eo_mv rfl rfl) rfl ?_
        refine ne (eo_mv rfl rfl) rfl ?_
        refine ne (eo_mv rfl rfl) rfl ?_
        refine ne (eo_sub rfl rfl rfl (by omega) (by omega)) rfl ?_
        refine ne (eo_mul rfl rfl rfl (by omega) (by omega)) rfl ?_
        refine ne (eo_sub rfl rfl rfl (by omega) (by omega)) rfl ?_
        refine ne (eo_mv rfl rfl) rfl ?_
        refine ne (eo_mv rfl rfl) rfl ?_
        refine ne (eo_mv rfl rfl) rfl ?_
        refine ne (eo_sub rfl rfl rfl (by omega) (by omega)) rfl ?_
        refine ne (eo_mul rfl rfl rfl (by omega) (by omega)) rfl ?_
        refine ne (eo_as rfl rfl) rfl ?_
        refine ne (eo_as rfl rfl) rfl ?_
        refine go_nil ?_
        refine gq_next ?_
        refine gc_seq ?_
        refine gc_region ?_
        refine ne (eo_mv rfl rfl) rfl ?_
        refine ne (eo_gtr rfl rfl rfl) rfl ?_
        refine ne (eo_mv rfl rfl) rfl ?_
        refine ng rfl rfl (fun h => eo_mv rfl rfl) rfl ?_
        refine ng rfl rfl (fun h => eo_mv rfl rfl) rfl ?_
        refine ng rfl rfl (fun h => eo_mv rfl rfl) rfl ?_
        refine ng rfl rfl (fun h => eo_mv rfl rfl) rfl ?_
        refine ng rfl rfl (fun h => eo_call rfl en31 (evs_cons (ev_if h rfl) (evs_cons (ev_if h rfl) (evs_cons (ev_if h rfl) (evs_cons (ev_if h rfl) evs_nil)))) (fun W1 hO => rgreat_c _ _ _ _ W1 u1 u2 u3 u4 u5 u6 u7 u8 (by omega) (by omega) (by omega) (by omega) (by omega) (by omega) (by omega) (by omega))) rfl ?_
        refine ne (eo_and rfl rfl (fun hb => ev_if hb rfl)) rfl ?_
        refine go_nil ?_
        refine gq_next ?_
        refine gc_cond rfl (fun hc3 => ?_) (fun hc3 => ?_)
        ·
          have hd3 := (and_t hc3).imp (fun h => of_decide_eq_true h) (fun h => of_decide_eq_true h)
          refine gc_region ?_
          refine ne (eo_mv rfl rfl) rfl ?_
          refine ne (eo_mv rfl rfl) rfl ?_
          refine ne (eo_mv rfl rfl) rfl ?_
          refine ne (eo_as rfl rfl) rfl ?_
          refine ne (eo_as rfl rfl) rfl ?_
          refine ne (eo_as rfl rfl) rfl ?_
          refine go_nil ?_
          refine gq_block_end ?_
          refine gq_next ?_
          refine gc_region ?_
          refine ne (eo_mv rfl rfl) rfl ?_
          refine ne (eo_add rfl rfl rfl (by omega) (by omega)) rfl ?_
          refine ne (eo_as rfl rfl) rfl ?_
          refine go_nil ?_
          exact round4 (k + 1) (k + 1) ((((n : Int) - (nT f n (k + 1))) * (sT f n (k + 1))) - ((nT f n (k + 1)) * ((sT f n 256) - (sT f n (k + 1))))) ((nT f n (k + 1)) * ((n : Int) - (nT f n (k + 1)))) ⟨by omega, rb_yes hb ha hq hd3.1 hd3.2, (vN_pos hd3.1).1.symm, (vN_pos hd3.1).2.symm, by omega⟩ (by omega) ⟨rfl, rfl, rfl, rfl, rfl, rfl, rfl, rfl, (look_int rfl (by omega)), trivial⟩ (List.Sublist.refl _)
        ·
          have hd3 := (and_f hc3).imp (fun h => of_decide_eq_false h) (fun h => of_decide_eq_false h)
          refine gc_skip ?_
          refine gq_block_end ?_
          refine gq_next ?_
          refine gc_region ?_
          refine ne (eo_mv rfl rfl) rfl ?_
          refine ne (eo_add rfl rfl rfl (by omega) (by omega)) rfl ?_
          refine ne (eo_as rfl rfl) rfl ?_
          refine go_nil ?_
          exact round4 (k + 1) best a p ⟨by omega, rb_no hp hn hb ha hq hd3, ha, hq, hab⟩ (by omega) ⟨rfl, rfl, rfl, rfl, rfl, rfl, rfl, rfl, (look_int rfl (by omega)), trivial⟩ (List.Sublist.refl _)
      ·
        replace hc2 := of_decide_eq_false hc2
        refine gc_exit ?_
        refine gq_then_exit ?_
        refine gq_then_exit ?_
        refine gq_block_hit ?_
        refine gq_next ?_
        refine gc_seq ?_
        refine gc_region ?_
        refine ne (eo_mv rfl rfl) rfl ?_
        refine ne (eo_as rfl rfl) rfl ?_
        refine ne (eo_as rfl rfl) rfl ?_
        refine go_nil ?_
        refine gq_next ?_
        refine gc_ret ?_
        refine gq_results (res2 rfl rfl rfl) ?_
        exact fun W1 hO => ⟨ret_i2 (by rw [otsR_ok hv, hb, show k = 255 by omega]), hO.toExt⟩

end Go.Proofs.Ytcdhbikginpogaa
