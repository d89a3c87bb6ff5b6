/-
  The walks of the functions of package regions and of the document's answers (part P): what each call returns, at every argument.
-/
import Derived.Test.YtnmiljloifbjeaaWN
import Derived.Test.YtnmiljloifbjeaaRu
namespace Go.Proofs.Ytnmiljloifbjeaa
open Go.RowKit Go.Eng

open Go.Bs
theorem en8 : Ent Try.prog 8 := ent_of Try.func8 (by kernel_rfl) rfl
theorem en10 : Ent Try.prog 10 := ent_of Try.func10 (by kernel_rfl) rfl

/-- barscan/barscanlaw46.RegionsSmoothed -/
theorem smoothed_c (W H : Int) (A : Option Addr) (n c : Nat) (f : Nat → Bool) (gap : Int) (w : World) (hr : Rd w A (tab n (bv f)))  :
    Calls Try.prog 4 #[.agg #[.int .i64 W, .int .i64 H, .slice A n c], .int .i64 gap] w (fun e w' => e = .returned (.bool true) ∧ Ext w w') := by
  refine calls_enter (N := ⟨97, []⟩) [] ([]) Try.func4 rfl rfl rfl (Ow.start _) ?_
  refine gc_seq ?_
  refine gc_region ?_
  refine nx (xo_boxA rfl rfl) rfl ?_
  rintro _ _ ⟨g2, rfl, rfl⟩
  refine ne (eo_as rfl rfl) rfl ?_
  refine go_nil ?_
  refine gq_next ?_
  refine gc_seq ?_
  refine gc_seq ?_
  refine gc_region ?_
  refine ne (eo_loadA 0 rfl a24 rfl rfl rfl rfl) rfl ?_
  refine ne (eo_call rfl en8 rfl (fun W1 hO => few_c _ _ _ _ _ _ W1 (hr.old0 hO) )) rfl ?_
  refine ne (eo_not rfl rfl) rfl ?_
  refine ne (eo_mv rfl rfl) rfl ?_
  refine ng rfl rfl (fun h => eo_loadA 0 rfl a24 rfl rfl rfl rfl) rfl ?_
  refine ng rfl rfl (fun h => eo_call rfl en9 (evs_cons (ev_if h rfl) evs_nil) (fun W1 hO => sound20_c _ _ _ _ _ _ W1 (hr.old0 hO) )) rfl ?_
  refine ng rfl rfl (fun h => eo_not rfl (ev_if h rfl)) rfl ?_
  refine ne (eo_or rfl rfl (fun hb => ev_if hb rfl)) rfl ?_
  refine go_nil ?_
  refine gq_next ?_
  refine gc_cond rfl (fun hc0 => ?_) (fun hc0 => ?_)
  ·
    have hd0 := (or_t hc0).imp (fun h => of_decide_eq_false (not_t h)) (fun h => (not_t h))
    refine gc_seq ?_
    refine gc_region ?_
    refine ne (eo_call rfl en10 rfl (fun W1 hO => alive46_c W1  )) rfl ?_
    refine ne (eo_as rfl rfl) rfl ?_
    refine go_nil ?_
    refine gq_next ?_
    refine gc_ret ?_
    refine gq_then_ret ?_
    refine gq_results (res1 rfl rfl) ?_
    exact fun W1 hO => ⟨rfl, hO.toExt⟩
  ·
    have hd0 := (or_f hc0).imp (fun h => of_decide_eq_true (not_f h)) (fun h => (not_f h))
    have hv := hd0.2
    have v7 := vld_pos hv
    refine gc_skip ?_
    refine gq_next ?_
    refine gc_seq ?_
    refine gc_region ?_
    refine ne (eo_loadA 0 rfl a24 rfl rfl rfl rfl) rfl ?_
    refine ne (eo_mv rfl rfl) rfl ?_
    refine nx (xo_freshT rfl en13 rfl (fun W1 hO => smooth_x _ _ _ _ _ _ _ W1 (hr.old0 hO) (by omega))) rfl ?_
    rintro _ _ ⟨S22, ⟨A22, k22, rfl, hk22, hS22⟩, rfl⟩
    refine ne (eo_mv rfl rfl) rfl ?_
    refine ne (eo_extract rfl rfl rfl) rfl ?_
    refine ne (eo_extract rfl rfl rfl) rfl ?_
    refine nx (xo_alloc rfl z24) rfl ?_
    rintro _ _ ⟨g5, rfl, rfl⟩
    refine nu (xo_storeA 0 rfl a24 rfl rfl (ones_cons (by first | rfl | exact AS.one) (ones_cons (by first | rfl | exact AS.one) (ones_cons (by first | rfl | exact AS.one) ones_nil))) rfl rfl rfl rfl) ?_
    rintro _ _ ⟨rfl, rfl⟩
    refine ne (eo_as rfl rfl) rfl ?_
    refine go_nil ?_
    refine gq_next ?_
    refine gc_seq ?_
    refine gc_seq ?_
    refine gc_region ?_
    refine ne (eo_mv rfl rfl) rfl ?_
    refine ne (eo_neq rfl rfl rfl) rfl ?_
    refine go_nil ?_
    refine gq_next ?_
    refine gc_cond rfl (fun hc1 => ?_) (fun hc1 => ?_)
    ·
      replace hc1 := of_decide_eq_true hc1
      have hg := smR_two (f := f) hv (by omega)
      refine gc_seq ?_
      refine gc_region ?_
      refine ne (eo_mv rfl rfl) rfl ?_
      refine ne (eo_lss rfl rfl rfl) rfl ?_
      refine ne (eo_mv rfl rfl) rfl ?_
      refine ng rfl rfl (fun h => eo_mv rfl rfl) rfl ?_
      refine ng rfl rfl (fun h => eo_gtr rfl (ev_if h rfl) rfl) rfl ?_
      refine ne (eo_or rfl rfl (fun hb => ev_if hb rfl)) rfl ?_
      refine ne (eo_mv rfl rfl) rfl ?_
      refine ng rfl rfl (fun h => eo_call rfl en10 rfl (fun W1 hO => alive46_c W1  )) rfl ?_
      refine ne (eo_and rfl rfl (fun hb => ev_if hb rfl)) rfl ?_
      refine ne (eo_as rfl rfl) rfl ?_
      refine go_nil ?_
      refine gq_next ?_
      refine gc_ret ?_
      refine gq_then_ret ?_
      refine gq_results (res1 rfl rfl) ?_
      exact fun W1 hO => ⟨ret_bool (show ((decide (gap < 0) || decide (4096 < gap)) && true) = true from by simp; omega), hO.toExt⟩
    ·
      replace hc1 := of_decide_eq_false hc1
      have hz1 : ¬ (smR ⟨W, H, n, f⟩ gap).2 ≠ 0 := by omega
      have hg := smR_fine hz1 hv
      obtain ⟨ha1, ha2, ha3, ha4⟩ := sm_law (f := f) hv hg
      refine gc_skip ?_
      refine gq_next ?_
      refine gc_seq ?_
      refine gc_region ?_
      refine ne (eo_loadA 0 rfl a24 rfl rfl rfl rfl) rfl ?_
      refine ne (eo_mv rfl rfl) rfl ?_
      refine nx (xo_freshT rfl en13 rfl (fun W1 hO => smooth_x _ _ _ _ _ _ _ W1 (hS22.rd (hO.tl 2 rfl (List.Sublist.refl _))) (by omega))) rfl ?_
      rintro _ _ ⟨S39, ⟨A39, k39, rfl, hk39, hS39⟩, rfl⟩
      refine ne (eo_mv rfl rfl) rfl ?_
      refine ne (eo_extract rfl rfl rfl) rfl ?_
      refine ne (eo_extract rfl rfl rfl) rfl ?_
      refine nx (xo_alloc rfl z24) rfl ?_
      rintro _ _ ⟨g7, rfl, rfl⟩
      refine nu (xo_storeA 0 rfl a24 rfl rfl (ones_cons (by first | rfl | exact AS.one) (ones_cons (by first | rfl | exact AS.one) (ones_cons (by first | rfl | exact AS.one) ones_nil))) rfl rfl rfl rfl) ?_
      rintro _ _ ⟨rfl, rfl⟩
      refine ne (eo_as rfl rfl) rfl ?_
      refine go_nil ?_
      refine gq_next ?_
      refine gc_seq ?_
      refine gc_seq ?_
      refine gc_region ?_
      refine ne (eo_mv rfl rfl) rfl ?_
      refine ne (eo_neq rfl rfl rfl) rfl ?_
      refine ne (eo_mv rfl rfl) rfl ?_
      refine ng rfl rfl (fun h => eo_loadA 1 rfl a24 rfl rfl rfl rfl) rfl ?_
      refine ng rfl rfl (fun h => eo_loadA 0 rfl a24 rfl rfl rfl rfl) rfl ?_
      refine ng rfl rfl (fun h => eo_call rfl en14 (evs_cons (ev_if h rfl) (evs_cons (ev_if h rfl) evs_nil)) (fun W1 hO => calls_bool (b' := true) ha4 (same20_c _ _ _ _ _ _ _ _ _ _ _ _ W1 (hS22.rd (hO.tl 3 rfl (List.sublist_append_left _ _))) (hS39.rd (hO.tl 3 rfl (List.sublist_append_right _ _))) (Nat.le_trans smR_le (by decide))))) rfl ?_
      refine ng rfl rfl (fun h => eo_not rfl (ev_if h rfl)) rfl ?_
      refine ne (eo_or rfl rfl (fun hb => ev_if hb rfl)) rfl ?_
      refine ne (eo_mv rfl rfl) rfl ?_
      refine ng rfl rfl (fun h => eo_field rfl f24_2 rfl) rfl ?_
      refine ng rfl rfl (fun h => eo_load 1 rfl s22 (ev_if h rfl) rfl rfl rfl) rfl ?_
      refine ng rfl rfl (fun h => eo_len rfl Try.underlying22 (ev_if h rfl)) rfl ?_
      refine ng rfl rfl (fun h => eo_field rfl f24_2 rfl) rfl ?_
      refine ng rfl rfl (fun h => eo_load 2 rfl s22 (ev_if h rfl) rfl rfl rfl) rfl ?_
      refine ng rfl rfl (fun h => eo_len rfl Try.underlying22 (ev_if h rfl)) rfl ?_
      refine ng rfl rfl (fun h => eo_neq rfl (ev_if h rfl) (ev_if h rfl)) rfl ?_
      refine ne (eo_or rfl rfl (fun hb => ev_if hb rfl)) rfl ?_
      refine go_nil ?_
      refine gq_next ?_
      refine gc_cond rfl (fun hc2 => ?_) (fun hc2 => ?_)
      ·
        have hd2 := (or_t hc2).imp (fun h => (or_t h).imp (fun h => of_decide_eq_true h) (fun h => (not_t h))) (fun h => of_decide_eq_true h)
        exfalso
        rcases hd2 with (q | q) | q
        · exact q ha3
        · cases q
        · exact q (by rw [ha1])
      ·
        have hd2 := (or_f hc2).imp (fun h => (or_f h).imp (fun h => ne_f h) (fun h => (not_f h))) (fun h => ne_f h)
        refine gc_skip ?_
        refine gq_next ?_
        refine gc_seq ?_
        refine gc_seq ?_
        refine gc_region ?_
        refine ne (eo_field rfl f24_2 rfl) rfl ?_
        refine ne (eo_load 2 rfl s22 rfl rfl rfl rfl) rfl ?_
        refine ne (eo_len rfl Try.underlying22 rfl) rfl ?_
        refine ne (eo_mv rfl rfl) rfl ?_
        refine go_nil ?_
        refine gq_next ?_
        refine gc_block ?_
        refine loop1 (fun (i : Nat) => i ≤ n) (fun (i : Nat) => n - i) (fun (i : Nat) => [(1, .int .i64 gap), (2, .pointer (some ⟨g2, 0, none⟩)), (5, .pointer (some ⟨g5, 0, none⟩)), (61, .int .i64 ((n : Nat) : Int)), (62, .int .i64 (i : Int))]) (fun (i : Nat) => ⟨g7, 24, [.int .i64 ((smR (smR ⟨W, H, n, f⟩ gap).1 gap).1.W), .int .i64 ((smR (smR ⟨W, H, n, f⟩ gap).1 gap).1.H), .slice A39 ((smR (smR ⟨W, H, n, f⟩ gap).1 gap).1.n) k39]⟩ :: ⟨g5, 24, [.int .i64 ((smR ⟨W, H, n, f⟩ gap).1.W), .int .i64 ((smR ⟨W, H, n, f⟩ gap).1.H), .slice A22 ((smR ⟨W, H, n, f⟩ gap).1.n) k22]⟩ :: ⟨g2, 24, [.int .i64 W, .int .i64 H, .slice A n c]⟩ :: (S22 ++ S39)) 0 (by omega) ⟨rfl, rfl, rfl, rfl, rfl, trivial⟩ (List.Sublist.refl _) ?_
        intro i hi
        refine gc_seq ?_
        refine gc_region ?_
        refine ne (eo_lss rfl rfl rfl) rfl ?_
        refine go_nil ?_
        refine gq_next ?_
        refine gc_seq ?_
        refine gc_cond rfl (fun hc3 => ?_) (fun hc3 => ?_)
        ·
          replace hc3 := of_decide_eq_true hc3
          refine gc_skip ?_
          refine gq_next ?_
          refine gc_seq ?_
          refine gc_block ?_
          refine gc_seq ?_
          refine gc_region ?_
          refine ne (eo_mv rfl rfl) rfl ?_
          refine ne (eo_as rfl rfl) rfl ?_
          refine go_nil ?_
          refine gq_next ?_
          refine gc_seq ?_
          refine gc_draw [] [0, 1, 2, 3, 4, 5, 6, 7, 8, 9, 10, 11, 12, 13, 14, 15, 16, 17, 18, 19, 20, 21, 22, 23, 24, 25, 26, 27, 28, 29] [] [] (by kernel_rfl) (by kernel_rfl) ?_
          refine gp_nil ?_
          refine de rfl (eo_field rfl f24_2 rfl) rfl ?_
          refine de rfl (eo_load 2 rfl s22 rfl rfl rfl rfl) rfl ?_
          refine de rfl (eo_mv rfl rfl) rfl ?_
          refine de rfl (eo_indexR rfl sl22 rfl rfl hr (by simp) (by omega) (by omega)) rfl ?_
          refine de rfl (eo_load_old rfl s4 rfl (Rd.tabb hr (by omega)) (by simp)) rfl ?_
          refine de rfl (eo_mv rfl rfl) rfl ?_
          refine dg rfl rfl rfl (fun h => eo_field rfl f24_2 rfl) rfl ?_
          refine dg rfl rfl rfl (fun h => eo_load 1 rfl s22 (ev_if h rfl) rfl rfl rfl) rfl ?_
          refine dg rfl rfl rfl (fun h => eo_mv rfl rfl) rfl ?_
          refine dg rfl rfl rfl (fun h => eo_indexS rfl sl22 (ev_if h rfl) (ev_if h rfl) (fun W1 hO => (hS22.rd (hO.tl 3 rfl (List.sublist_append_left _ _)))) (by simp) (by omega) (by omega)) rfl ?_
          refine dg rfl rfl rfl (fun h => eo_loadS rfl s4 (ev_if h rfl) (fun W1 hO => Rd.tabb (hS22.rd (hO.tl 3 rfl (List.sublist_append_left _ _))) (by omega))) rfl ?_
          refine dg rfl rfl rfl (fun h => eo_not rfl (ev_if h rfl)) rfl ?_
          refine de rfl (eo_and rfl rfl (fun hb => ev_if hb rfl)) rfl ?_
          refine de rfl (eo_mv rfl rfl) rfl ?_
          refine dg rfl rfl rfl (fun h => eo_mv rfl rfl) rfl ?_
          refine dg rfl rfl rfl (fun h => eo_eql rfl (ev_if h rfl) rfl) rfl ?_
          refine dg rfl rfl rfl (fun h => eo_mv rfl (ev_if h rfl)) rfl ?_
          refine dgc rfl rfl rfl (fun h => eo_field rfl f24_2 rfl) rfl ?_
          refine dgc rfl rfl rfl (fun h => eo_load 1 rfl s22 (ev_if h rfl) rfl rfl rfl) rfl ?_
          refine dgc rfl rfl rfl (fun h => eo_mv rfl rfl) rfl ?_
          refine dgc rfl rfl rfl (fun h => eo_indexS rfl sl22 (ev_if h rfl) (ev_if h rfl) (fun W1 hO => (hS22.rd (hO.tl 3 rfl (List.sublist_append_left _ _)))) (by simp) (by have hg1 := of_decide_eq_true h.2; have hg0 := (and_f h.1).imp (fun h => h) (fun h => (not_f h)); omega) (by have hg1 := of_decide_eq_true h.2; have hg0 := (and_f h.1).imp (fun h => h) (fun h => (not_f h)); omega)) rfl ?_
          refine dgc rfl rfl rfl (fun h => eo_loadS rfl s4 (ev_if h rfl) (fun W1 hO => Rd.tabb (hS22.rd (hO.tl 3 rfl (List.sublist_append_left _ _))) (by have hg1 := of_decide_eq_true h.2; have hg0 := (and_f h.1).imp (fun h => h) (fun h => (not_f h)); omega))) rfl ?_
          refine dgc rfl rfl rfl (fun h => eo_field rfl f24_2 rfl) rfl ?_
          refine dgc rfl rfl rfl (fun h => eo_load 2 rfl s22 (ev_if h rfl) rfl rfl rfl) rfl ?_
          refine dgc rfl rfl rfl (fun h => eo_mv rfl rfl) rfl ?_
          refine dgc rfl rfl rfl (fun h => eo_indexR rfl sl22 (ev_if h rfl) (ev_if h rfl) hr (by simp) (by have hg1 := of_decide_eq_true h.2; have hg0 := (and_f h.1).imp (fun h => h) (fun h => (not_f h)); omega) (by have hg1 := of_decide_eq_true h.2; have hg0 := (and_f h.1).imp (fun h => h) (fun h => (not_f h)); omega)) rfl ?_
          refine dgc rfl rfl rfl (fun h => eo_load_old rfl s4 (ev_if h rfl) (Rd.tabb hr (by have hg1 := of_decide_eq_true h.2; have hg0 := (and_f h.1).imp (fun h => h) (fun h => (not_f h)); omega)) (by simp)) rfl ?_
          refine dgc rfl rfl rfl (fun h => eo_bneq rfl (ev_if h rfl) (ev_if h rfl) Try.underlying4) rfl ?_
          refine dg rfl rfl rfl (fun h => eo_and rfl (ev_if h rfl) (fun hb => ev_if ⟨h, hb⟩ rfl)) rfl ?_
          refine de rfl (eo_or rfl rfl (fun hb => ev_if hb rfl)) rfl ?_
          refine ge_nil ?_
          refine ga_nil ?_
          refine gi_nil ?_
          refine gq_nq ?_
          refine gq_next ?_
          refine gc_cond rfl (fun hc4 => ?_) (fun hc4 => ?_)
          ·
            have hd4 := (or_t hc4).imp (fun h => (and_t h).imp (fun h => h) (fun h => (not_t h))) (fun h => (and_t h).imp (fun h => of_decide_eq_true h) (fun h => h))
            exfalso
            rcases hd4 with ⟨q1, q2⟩ | ⟨q1, q2⟩
            · rw [ha2, sm_keep q1] at q2; cases q2
            · rw [ha2, q1, sm_zero] at q2; simp at q2
          ·
            have hd4 := (or_f hc4).imp (fun h => (and_f h).imp (fun h => h) (fun h => (not_f h))) (fun h => (and_f h).imp (fun h => of_decide_eq_false h) (fun h => h))
            refine gc_skip ?_
            refine gq_block_end ?_
            refine gq_next ?_
            refine gc_region ?_
            refine ne (eo_add rfl rfl rfl (by omega) (by omega)) rfl ?_
            refine ne (eo_mv rfl rfl) rfl ?_
            refine go_nil ?_
            exact round1 (i + 1) (by omega) (by omega) ⟨rfl, rfl, rfl, rfl, rfl, trivial⟩ (List.Sublist.refl _)
        ·
          replace hc3 := of_decide_eq_false hc3
          refine gc_exit ?_
          refine gq_then_exit ?_
          refine gq_then_exit ?_
          refine gq_block_hit ?_
          refine gq_next ?_
          refine gc_seq ?_
          refine gc_region ?_
          refine ne (eo_call rfl en10 rfl (fun W1 hO => alive46_c W1  )) rfl ?_
          refine ne (eo_as rfl rfl) rfl ?_
          refine go_nil ?_
          refine gq_next ?_
          refine gc_ret ?_
          refine gq_results (res1 rfl rfl) ?_
          exact fun W1 hO => ⟨rfl, hO.toExt⟩

end Go.Proofs.Ytnmiljloifbjeaa
