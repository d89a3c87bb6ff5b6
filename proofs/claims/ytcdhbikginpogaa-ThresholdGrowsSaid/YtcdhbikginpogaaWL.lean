/-
  The walks of the functions of packages bigint and threshold and of the document's answers (part L): what each call returns, at every argument.
-/
import Derived.Test.YtcdhbikginpogaaWK
namespace Go.Proofs.Ytcdhbikginpogaa
open Go.RowKit Go.Eng

open Go.Bs
theorem en9 : Ent Try.prog 9 := ent_of Try.func9 (by kernel_rfl) rfl
theorem en10 : Ent Try.prog 10 := ent_of Try.func10 (by kernel_rfl) rfl

/-- barscan/barscanlaw36.ThresholdGrows -/
theorem grows_c (W H : Int) (A : Option Addr) (n c : Nat) (f : Nat → Int) (s : Int) (t : Int) (w : World) (hr : Rd w A (tab n (iv .u8 f))) (hp : PixOk n f) :
    Calls Try.prog 8 #[.agg #[.int .i64 W, .int .i64 H, .slice A n c], .int .i64 s, .int .i64 t] w (fun e w' => e = .returned (.bool true) ∧ Ext w w') := by
  refine calls_enter (N := ⟨114, []⟩) [] ([]) Try.func8 rfl rfl rfl (Ow.start _) ?_
  refine gc_seq ?_
  refine gc_region ?_
  refine nx (xo_boxA rfl rfl) rfl ?_
  rintro _ _ ⟨g3, rfl, rfl⟩
  refine ne (eo_as rfl rfl) rfl ?_
  refine go_nil ?_
  refine gq_next ?_
  refine gc_seq ?_
  refine gc_seq ?_
  refine gc_region ?_
  refine ne (eo_loadA 0 rfl a24 rfl rfl rfl rfl) rfl ?_
  refine ne (eo_call rfl en25 rfl (fun W1 hO => sound36_c _ _ _ _ _ _ W1 (hr.old0 hO) )) rfl ?_
  refine ne (eo_not rfl rfl) rfl ?_
  refine ne (eo_mv rfl rfl) rfl ?_
  refine ng rfl rfl (fun h => eo_loadA 0 rfl a24 rfl rfl rfl rfl) rfl ?_
  refine ng rfl rfl (fun h => eo_call rfl en9 (evs_cons (ev_if h rfl) evs_nil) (fun W1 hO => few_c _ _ _ _ _ _ W1 (hr.old0 hO) )) rfl ?_
  refine ng rfl rfl (fun h => eo_not rfl (ev_if h rfl)) rfl ?_
  refine ne (eo_or rfl rfl (fun hb => ev_if hb rfl)) rfl ?_
  refine ne (eo_mv rfl rfl) rfl ?_
  refine ng rfl rfl (fun h => eo_mv rfl rfl) rfl ?_
  refine ng rfl rfl (fun h => eo_lss rfl (ev_if h rfl) rfl) rfl ?_
  refine ne (eo_or rfl rfl (fun hb => ev_if hb rfl)) rfl ?_
  refine ne (eo_mv rfl rfl) rfl ?_
  refine ng rfl rfl (fun h => eo_mv rfl rfl) rfl ?_
  refine ng rfl rfl (fun h => eo_mv rfl rfl) rfl ?_
  refine ng rfl rfl (fun h => eo_gtr rfl (ev_if h rfl) (ev_if h rfl)) rfl ?_
  refine ne (eo_or rfl rfl (fun hb => ev_if hb rfl)) rfl ?_
  refine ne (eo_mv rfl rfl) rfl ?_
  refine ng rfl rfl (fun h => eo_mv rfl rfl) rfl ?_
  refine ng rfl rfl (fun h => eo_gtr rfl (ev_if h rfl) rfl) rfl ?_
  refine ne (eo_or rfl rfl (fun hb => ev_if hb rfl)) rfl ?_
  refine go_nil ?_
  refine gq_next ?_
  refine gc_cond rfl (fun hc0 => ?_) (fun hc0 => ?_)
  ·
    have hd0 := (or_t hc0).imp (fun h => (or_t h).imp (fun h => (or_t h).imp (fun h => (or_t h).imp (fun h => (not_t h)) (fun h => of_decide_eq_false (not_t h))) (fun h => of_decide_eq_true h)) (fun h => of_decide_eq_true h)) (fun h => of_decide_eq_true h)
    refine gc_seq ?_
    refine gc_region ?_
    refine ne (eo_call rfl en10 rfl (fun W1 hO => alive36_c W1  )) rfl ?_
    refine ne (eo_as rfl rfl) rfl ?_
    refine go_nil ?_
    refine gq_next ?_
    refine gc_ret ?_
    refine gq_then_ret ?_
    refine gq_results (res1 rfl rfl) ?_
    exact fun W1 hO => ⟨rfl, hO.toExt⟩
  ·
    have hd0 := (or_f hc0).imp (fun h => (or_f h).imp (fun h => (or_f h).imp (fun h => (or_f h).imp (fun h => (not_f h)) (fun h => of_decide_eq_true (not_f h))) (fun h => of_decide_eq_false h)) (fun h => of_decide_eq_false h)) (fun h => of_decide_eq_false h)
    have hv := hd0.1.1.1.1
    have ga := gloR_ok (f := f) (t := s) hv (by omega)
    have gb := gloR_ok (f := f) (t := t) hv (by omega)
    have ha1 : (gloR ⟨W, H, n, f⟩ s).2 = 0 := by rw [ga]
    have ha2 : (gloR ⟨W, H, n, f⟩ s).1.n = n := by rw [ga]
    have ha3 : (gloR ⟨W, H, n, f⟩ s).1.f = gloF f s := by rw [ga]
    have hb1 : (gloR ⟨W, H, n, f⟩ t).2 = 0 := by rw [gb]
    have hb2 : (gloR ⟨W, H, n, f⟩ t).1.n = n := by rw [gb]
    have hb3 : (gloR ⟨W, H, n, f⟩ t).1.f = gloF f t := by rw [gb]
    refine gc_skip ?_
    refine gq_next ?_
    refine gc_seq ?_
    refine gc_region ?_
    refine ne (eo_loadA 0 rfl a24 rfl rfl rfl rfl) rfl ?_
    refine ne (eo_mv rfl rfl) rfl ?_
    refine nx (xo_freshT rfl en15 rfl (fun W1 hO => glob_x _ _ _ _ _ _ _ W1 (hr.old0 hO) (by assumption))) rfl ?_
    rintro _ _ ⟨S37, ⟨A37, k37, rfl, hk37, hS37⟩, rfl⟩
    refine ne (eo_mv rfl rfl) rfl ?_
    refine ne (eo_extract rfl rfl rfl) rfl ?_
    refine ne (eo_extract rfl rfl rfl) rfl ?_
    refine nx (xo_alloc rfl z35) rfl ?_
    rintro _ _ ⟨g7, rfl, rfl⟩
    refine nu (xo_storeA 0 rfl a35 rfl rfl (ones_cons (by first | rfl | exact AS.one) (ones_cons (by first | rfl | exact AS.one) (ones_cons (by first | rfl | exact AS.one) ones_nil))) rfl rfl rfl rfl) ?_
    rintro _ _ ⟨rfl, rfl⟩
    refine ne (eo_as rfl rfl) rfl ?_
    refine go_nil ?_
    refine gq_next ?_
    refine gc_seq ?_
    refine gc_region ?_
    refine ne (eo_loadA 1 rfl a24 rfl rfl rfl rfl) rfl ?_
    refine ne (eo_mv rfl rfl) rfl ?_
    refine nx (xo_freshT rfl en15 rfl (fun W1 hO => glob_x _ _ _ _ _ _ _ W1 (hr.old0 hO) (by assumption))) rfl ?_
    rintro _ _ ⟨S43, ⟨A43, k43, rfl, hk43, hS43⟩, rfl⟩
    refine ne (eo_mv rfl rfl) rfl ?_
    refine ne (eo_extract rfl rfl rfl) rfl ?_
    refine ne (eo_extract rfl rfl rfl) rfl ?_
    refine nx (xo_alloc rfl z35) rfl ?_
    rintro _ _ ⟨g9, rfl, rfl⟩
    refine nu (xo_storeA 0 rfl a35 rfl rfl (ones_cons (by first | rfl | exact AS.one) (ones_cons (by first | rfl | exact AS.one) (ones_cons (by first | rfl | exact AS.one) ones_nil))) rfl rfl rfl rfl) ?_
    rintro _ _ ⟨rfl, rfl⟩
    refine ne (eo_as rfl rfl) rfl ?_
    refine go_nil ?_
    refine gq_next ?_
    refine gc_seq ?_
    refine gc_seq ?_
    refine gc_region ?_
    refine ne (eo_mv rfl rfl) rfl ?_
    refine ne (eo_neq rfl rfl rfl) rfl ?_
    refine ne (eo_mv rfl rfl) rfl ?_
    refine ng rfl rfl (fun h => eo_mv rfl rfl) rfl ?_
    refine ng rfl rfl (fun h => eo_neq rfl (ev_if h rfl) rfl) rfl ?_
    refine ne (eo_or rfl rfl (fun hb => ev_if hb rfl)) rfl ?_
    refine ne (eo_mv rfl rfl) rfl ?_
    refine ng rfl rfl (fun h => eo_field rfl f35_2 rfl) rfl ?_
    refine ng rfl rfl (fun h => eo_load 1 rfl s33 (ev_if h rfl) rfl rfl rfl) rfl ?_
    refine ng rfl rfl (fun h => eo_len rfl Try.underlying33 (ev_if h rfl)) rfl ?_
    refine ng rfl rfl (fun h => eo_field rfl f24_2 rfl) rfl ?_
    refine ng rfl rfl (fun h => eo_load 2 rfl s22 (ev_if h rfl) rfl rfl rfl) rfl ?_
    refine ng rfl rfl (fun h => eo_len rfl Try.underlying22 (ev_if h rfl)) rfl ?_
    refine ng rfl rfl (fun h => eo_neq rfl (ev_if h rfl) (ev_if h rfl)) rfl ?_
    refine ne (eo_or rfl rfl (fun hb => ev_if hb rfl)) rfl ?_
    refine ne (eo_mv rfl rfl) rfl ?_
    refine ng rfl rfl (fun h => eo_field rfl f35_2 rfl) rfl ?_
    refine ng rfl rfl (fun h => eo_load 0 rfl s33 (ev_if h rfl) rfl rfl rfl) rfl ?_
    refine ng rfl rfl (fun h => eo_len rfl Try.underlying33 (ev_if h rfl)) rfl ?_
    refine ng rfl rfl (fun h => eo_field rfl f24_2 rfl) rfl ?_
    refine ng rfl rfl (fun h => eo_load 2 rfl s22 (ev_if h rfl) rfl rfl rfl) rfl ?_
    refine ng rfl rfl (fun h => eo_len rfl Try.underlying22 (ev_if h rfl)) rfl ?_
    refine ng rfl rfl (fun h => eo_neq rfl (ev_if h rfl) (ev_if h rfl)) rfl ?_
    refine ne (eo_or rfl rfl (fun hb => ev_if hb rfl)) rfl ?_
    refine go_nil ?_
    refine gq_next ?_
    refine gc_cond rfl (fun hc1 => ?_) (fun hc1 => ?_)
    ·
      have hd1 := (or_t hc1).imp (fun h => (or_t h).imp (fun h => (or_t h).imp (fun h => of_decide_eq_true h) (fun h => of_decide_eq_true h)) (fun h => of_decide_eq_true h)) (fun h => of_decide_eq_true h)
      exfalso; omega
    ·
      have hd1 := (or_f hc1).imp (fun h => (or_f h).imp (fun h => (or_f h).imp (fun h => ne_f h) (fun h => ne_f h)) (fun h => ne_f h)) (fun h => ne_f h)
      refine gc_skip ?_
      refine gq_next ?_
      refine gc_seq ?_
      refine gc_seq ?_
      refine gc_region ?_
      refine ne (eo_field rfl f24_2 rfl) rfl ?_
      refine ne (eo_load 2 rfl s22 rfl rfl rfl rfl) rfl ?_
      refine ne (eo_len rfl Try.underlying22 rfl) rfl ?_
      refine ne (eo_mv rfl rfl) rfl ?_
      refine go_nil ?_
      refine gq_next ?_
      refine gc_block ?_
      refine loop1 (fun (i : Nat) => i ≤ n) (fun (i : Nat) => n - i) (fun (i : Nat) => [(1, .int .i64 s), (2, .int .i64 t), (7, .pointer (some ⟨g7, 0, none⟩)), (9, .pointer (some ⟨g9, 0, none⟩)), (72, .int .i64 ((n : Nat) : Int)), (73, .int .i64 (i : Int))]) (fun (i : Nat) => ⟨g9, 35, [.int .i64 ((gloR ⟨W, H, n, f⟩ t).1.W), .int .i64 ((gloR ⟨W, H, n, f⟩ t).1.H), .slice A43 ((gloR ⟨W, H, n, f⟩ t).1.n) k43]⟩ :: ⟨g7, 35, [.int .i64 ((gloR ⟨W, H, n, f⟩ s).1.W), .int .i64 ((gloR ⟨W, H, n, f⟩ s).1.H), .slice A37 ((gloR ⟨W, H, n, f⟩ s).1.n) k37]⟩ :: ⟨g3, 24, [.int .i64 W, .int .i64 H, .slice A n c]⟩ :: (S37 ++ S43)) 0 (by omega) ⟨rfl, rfl, rfl, rfl, rfl, rfl, trivial⟩ (List.Sublist.refl _) ?_
      intro i hi
      refine gc_seq ?_
      refine gc_region ?_
      refine ne (eo_lss rfl rfl rfl) rfl ?_
      refine go_nil ?_
      refine gq_next ?_
      refine gc_seq ?_
      refine gc_cond rfl (fun hc2 => ?_) (fun hc2 => ?_)
      ·
        replace hc2 := of_decide_eq_true hc2
        refine gc_skip ?_
        refine gq_next ?_
        refine gc_seq ?_
        refine gc_block ?_
        refine gc_seq ?_
        refine gc_region ?_
        refine ne (eo_mv rfl rfl) rfl ?_
        refine ne (eo_as rfl rfl) rfl ?_
        refine go_nil ?_
        refine gq_next ?_
        refine gc_seq ?_
        refine gc_region ?_
        refine ne (eo_field rfl f35_2 rfl) rfl ?_
        refine ne (eo_load 1 rfl s33 rfl rfl rfl rfl) rfl ?_
        refine ne (eo_mv rfl rfl) rfl ?_
        refine ne (eo_indexS rfl sl33 rfl rfl (fun W1 hO => (hS37.rd (hO.tl 3 rfl (List.sublist_append_left _ _)))) (by simp) (by omega) (by omega)) rfl ?_
        refine ne (eo_loadS rfl s4 rfl (fun W1 hO => Rd.tabb (hS37.rd (hO.tl 3 rfl (List.sublist_append_left _ _))) (by omega))) rfl ?_
        refine ne (eo_mv rfl rfl) rfl ?_
        refine ng rfl rfl (fun h => eo_field rfl f35_2 rfl) rfl ?_
        refine ng rfl rfl (fun h => eo_load 0 rfl s33 (ev_if h rfl) rfl rfl rfl) rfl ?_
        refine ng rfl rfl (fun h => eo_mv rfl rfl) rfl ?_
        refine ng rfl rfl (fun h => eo_indexS rfl sl33 (ev_if h rfl) (ev_if h rfl) (fun W1 hO => (hS43.rd (hO.tl 3 rfl (List.sublist_append_right _ _)))) (by simp) (by omega) (by omega)) rfl ?_
        refine ng rfl rfl (fun h => eo_loadS rfl s4 (ev_if h rfl) (fun W1 hO => Rd.tabb (hS43.rd (hO.tl 3 rfl (List.sublist_append_right _ _))) (by omega))) rfl ?_
        refine ng rfl rfl (fun h => eo_not rfl (ev_if h rfl)) rfl ?_
        refine ne (eo_and rfl rfl (fun hb => ev_if hb rfl)) rfl ?_
        refine ne (eo_mv rfl rfl) rfl ?_
        refine ng rfl rfl (fun h => eo_mv rfl rfl) rfl ?_
        refine ng rfl rfl (fun h => eo_eql rfl (ev_if h rfl) rfl) rfl ?_
        refine ng rfl rfl (fun h => eo_mv rfl (ev_if h rfl)) rfl ?_
        refine ngc rfl rfl (fun h => eo_field rfl f35_2 rfl) rfl ?_
        refine ngc rfl rfl (fun h => eo_load 1 rfl s33 (ev_if h rfl) rfl rfl rfl) rfl ?_
        refine ngc rfl rfl (fun h => eo_mv rfl rfl) rfl ?_
        refine ngc rfl rfl (fun h => eo_indexS rfl sl33 (ev_if h rfl) (ev_if h rfl) (fun W1 hO => (hS37.rd (hO.tl 3 rfl (List.sublist_append_left _ _)))) (by simp) (by have hg1 := of_decide_eq_true h.2; have hg0 := (and_f h.1).imp (fun h => h) (fun h => (not_f h)); omega) (by have hg1 := of_decide_eq_true h.2; have hg0 := (and_f h.1).imp (fun h => h) (fun h => (not_f h)); omega)) rfl ?_
        refine ngc rfl rfl (fun h => eo_loadS rfl s4 (ev_if h rfl) (fun W1 hO => Rd.tabb (hS37.rd (hO.tl 3 rfl (List.sublist_append_left _ _))) (by have hg1 := of_decide_eq_true h.2; have hg0 := (and_f h.1).imp (fun h => h) (fun h => (not_f h)); omega))) rfl ?_
        refine ng rfl rfl (fun h => eo_and rfl (ev_if h rfl) (fun hb => ev_if ⟨h, hb⟩ rfl)) rfl ?_
        refine ne (eo_or rfl rfl (fun hb => ev_if hb rfl)) rfl ?_
        refine ne (eo_mv rfl rfl) rfl ?_
        refine ng rfl rfl (fun h => eo_mv rfl rfl) rfl ?_
        refine ng rfl rfl (fun h => eo_eql rfl (ev_if h rfl) rfl) rfl ?_
        refine ng rfl rfl (fun h => eo_mv rfl (ev_if h rfl)) rfl ?_
        refine ngc rfl rfl (fun h => eo_field rfl f35_2 rfl) rfl ?_
        refine ngc rfl rfl (fun h => eo_load 0 rfl s33 (ev_if h rfl) rfl rfl rfl) rfl ?_
        refine ngc rfl rfl (fun h => eo_mv rfl rfl) rfl ?_
        refine ngc rfl rfl (fun h => eo_indexS rfl sl33 (ev_if h rfl) (ev_if h rfl) (fun W1 hO => (hS43.rd (hO.tl 3 rfl (List.sublist_append_right _ _)))) (by simp) (by have hg1 := of_decide_eq_true h.2; have hg0 := (or_f h.1).imp (fun h => (and_f h).imp (fun h => h) (fun h => (not_f h))) (fun h => (and_f h).imp (fun h => of_decide_eq_false h) (fun h => h)); omega) (by have hg1 := of_decide_eq_true h.2; have hg0 := (or_f h.1).imp (fun h => (and_f h).imp (fun h => h) (fun h => (not_f h))) (fun h => (and_f h).imp (fun h => of_decide_eq_false h) (fun h => h)); omega)) rfl ?_
        refine ngc rfl rfl (fun h => eo_loadS rfl s4 (ev_if h rfl) (fun W1 hO => Rd.tabb (hS43.rd (hO.tl 3 rfl (List.sublist_append_right _ _))) (by have hg1 := of_decide_eq_true h.2; have hg0 := (or_f h.1).imp (fun h => (and_f h).imp (fun h => h) (fun h => (not_f h))) (fun h => (and_f h).imp (fun h => of_decide_eq_false h) (fun h => h)); omega))) rfl ?_
        refine ngc rfl rfl (fun h => eo_not rfl (ev_if h rfl)) rfl ?_
        refine ng rfl rfl (fun h => eo_and rfl (ev_if h rfl) (fun hb => ev_if ⟨h, hb⟩ rfl)) rfl ?_
        refine ne (eo_or rfl rfl (fun hb => ev_if hb rfl)) rfl ?_
        refine go_nil ?_
        refine gq_next ?_
        refine gc_cond rfl (fun hc3 => ?_) (fun hc3 => ?_)
        ·
          have hd3 := (or_t hc3).imp (fun h => (or_t h).imp (fun h => (and_t h).imp (fun h => h) (fun h => (not_t h))) (fun h => (and_t h).imp (fun h => of_decide_eq_true h) (fun h => h))) (fun h => (and_t h).imp (fun h => of_decide_eq_true h) (fun h => (not_t h)))
          exact absurd hc3 (by rw [ha3, hb3]; exact grow_no (hp (i : Int).toNat (by omega)) (by omega) (by omega) (by omega))
        ·
          have hd3 := (or_f hc3).imp (fun h => (or_f h).imp (fun h => (and_f h).imp (fun h => h) (fun h => (not_f h))) (fun h => (and_f h).imp (fun h => of_decide_eq_false h) (fun h => h))) (fun h => (and_f h).imp (fun h => of_decide_eq_false h) (fun h => (not_f h)))
          refine gc_skip ?_
          refine gq_block_end ?_
          refine gq_next ?_
          refine gc_region ?_
          refine ne (eo_add rfl rfl rfl (by omega) (by omega)) rfl ?_
          refine ne (eo_mv rfl rfl) rfl ?_
          refine go_nil ?_
          exact round1 (i + 1) (by omega) (by omega) ⟨rfl, rfl, rfl, rfl, rfl, rfl, trivial⟩ (List.Sublist.refl _)
      ·
        replace hc2 := of_decide_eq_false hc2
        refine gc_exit ?_
        refine gq_then_exit ?_
        refine gq_then_exit ?_
        refine gq_block_hit ?_
        refine gq_next ?_
        refine gc_seq ?_
        refine gc_region ?_
        refine ne (eo_call rfl en10 rfl (fun W1 hO => alive36_c W1  )) rfl ?_
        refine ne (eo_as rfl rfl) rfl ?_
        refine go_nil ?_
        refine gq_next ?_
        refine gc_ret ?_
        refine gq_results (res1 rfl rfl) ?_
        exact fun W1 hO => ⟨rfl, hO.toExt⟩

end Go.Proofs.Ytcdhbikginpogaa
