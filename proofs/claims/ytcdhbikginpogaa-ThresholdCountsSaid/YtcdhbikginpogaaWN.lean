/-
  The walks of the functions of packages bigint and threshold and of the document's answers (part N): what each call returns, at every argument.
-/
import Derived.Test.YtcdhbikginpogaaWK
namespace Go.Proofs.Ytcdhbikginpogaa
open Go.RowKit Go.Eng

open Go.Bs
theorem en9 : Ent Try.prog 9 := ent_of Try.func9 (by kernel_rfl) rfl
theorem en10 : Ent Try.prog 10 := ent_of Try.func10 (by kernel_rfl) rfl

/-- barscan/barscanlaw36.ThresholdCounts -/
theorem counts_c (W H : Int) (A : Option Addr) (n c : Nat) (f : Nat → Int) (w : World) (hr : Rd w A (tab n (iv .u8 f))) (hp : PixOk n f) :
    Calls Try.prog 3 #[.agg #[.int .i64 W, .int .i64 H, .slice A n c]] w (fun e w' => e = .returned (.bool true) ∧ Ext w w') := by
  refine calls_enter (N := ⟨56, []⟩) [] ([]) Try.func3 rfl rfl rfl (Ow.start _) ?_
  refine gc_seq ?_
  refine gc_region ?_
  refine nx (xo_boxA rfl rfl) rfl ?_
  rintro _ _ ⟨g1, rfl, rfl⟩
  refine ne (eo_as rfl rfl) rfl ?_
  refine go_nil ?_
  refine gq_next ?_
  refine gc_seq ?_
  refine gc_seq ?_
  refine gc_region ?_
  refine ne (eo_loadA 0 rfl a24 rfl rfl rfl rfl) rfl ?_
  refine ne (eo_call rfl en9 rfl (fun W1 hO => few_c _ _ _ _ _ _ W1 (hr.old0 hO) )) rfl ?_
  refine ne (eo_not rfl rfl) rfl ?_
  refine go_nil ?_
  refine gq_next ?_
  refine gc_cond rfl (fun hc0 => ?_) (fun hc0 => ?_)
  ·
    have hd0 := of_decide_eq_false (not_t hc0)
    refine gc_seq ?_
    refine gc_region ?_
    refine ne (eo_call rfl en10 rfl (fun W1 hO => alive36_c W1  )) rfl ?_
    refine ne (eo_as rfl rfl) rfl ?_
    refine go_nil ?_
    refine gq_next ?_
    refine gc_ret ?_
    refine gq_then_ret ?_
    refine gq_results (res1 rfl rfl) ?_
    exact fun W1 hO => ⟨rfl, hO.toExt⟩
  ·
    have hd0 := of_decide_eq_true (not_f hc0)
    refine gc_skip ?_
    refine gq_next ?_
    refine gc_seq ?_
    refine gc_region ?_
    refine ne (eo_loadA 0 rfl a24 rfl rfl rfl rfl) rfl ?_
    refine ne (eo_call rfl en11 rfl (fun W1 hO => hist_c _ _ _ _ _ _ W1 (hr.old0 hO) (by assumption) (by omega))) rfl ?_
    refine ne (eo_mv rfl rfl) rfl ?_
    refine ne (eo_extract rfl rfl rfl) rfl ?_
    refine ne (eo_extract rfl rfl rfl) rfl ?_
    refine nx (xo_alloc rfl z27) rfl ?_
    rintro _ _ ⟨g3, rfl, rfl⟩
    refine nu (xo_storeA 0 rfl a27 rfl rfl tab_onei0 (by simp) rfl rfl (by simp)) ?_
    rintro _ _ ⟨rfl, rfl⟩
    refine ne (eo_as rfl rfl) rfl ?_
    refine go_nil ?_
    refine gq_next ?_
    refine gc_seq ?_
    refine gc_region ?_
    refine ne (eo_loadA 1 rfl a24 rfl rfl rfl rfl) rfl ?_
    refine ne (eo_call rfl en12 rfl (fun W1 hO => rhist_c _ _ _ _ _ _ W1 (hr.old0 hO) (by assumption) (by omega))) rfl ?_
    refine ne (eo_mv rfl rfl) rfl ?_
    refine ne (eo_extract rfl rfl rfl) rfl ?_
    refine ne (eo_extract rfl rfl rfl) rfl ?_
    refine nx (xo_alloc rfl z27) rfl ?_
    rintro _ _ ⟨g5, rfl, rfl⟩
    refine nu (xo_storeA 0 rfl a27 rfl rfl tab_onei0 (by simp) rfl rfl (by simp)) ?_
    rintro _ _ ⟨rfl, rfl⟩
    refine ne (eo_as rfl rfl) rfl ?_
    refine go_nil ?_
    refine gq_next ?_
    refine gc_seq ?_
    refine gc_region ?_
    refine ne (eo_loadA 2 rfl a24 rfl rfl rfl rfl) rfl ?_
    refine ne (eo_call rfl en13 rfl (fun W1 hO => otsu_c _ _ _ _ _ _ W1 (hr.old0 hO) (by assumption) (by omega))) rfl ?_
    refine ne (eo_mv rfl rfl) rfl ?_
    refine ne (eo_extract rfl rfl rfl) rfl ?_
    refine ne (eo_extract rfl rfl rfl) rfl ?_
    refine ne (eo_as rfl rfl) rfl ?_
    refine ne (eo_as rfl rfl) rfl ?_
    refine go_nil ?_
    refine gq_next ?_
    refine gc_seq ?_
    refine gc_region ?_
    refine ne (eo_loadA 2 rfl a24 rfl rfl rfl rfl) rfl ?_
    refine ne (eo_call rfl en14 rfl (fun W1 hO => rotsu_c _ _ _ _ _ _ W1 (hr.old0 hO) (by assumption) (by omega))) rfl ?_
    refine ne (eo_mv rfl rfl) rfl ?_
    refine ne (eo_extract rfl rfl rfl) rfl ?_
    refine ne (eo_extract rfl rfl rfl) rfl ?_
    refine ne (eo_as rfl rfl) rfl ?_
    refine ne (eo_as rfl rfl) rfl ?_
    refine go_nil ?_
    refine gq_next ?_
    refine gc_seq ?_
    refine gc_region ?_
    refine ne (eo_loadA 1 rfl a27 rfl rfl rfl (by simp)) rfl ?_
    refine ne (eo_loadA 0 rfl a27 rfl rfl rfl (by simp)) rfl ?_
    refine ne (eo_eqArr rfl Try.underlying27 Try.underlying3 sz3 (by kernel_rfl) (by kernel_rfl) rfl rfl) rfl ?_
    refine ne (eo_mv rfl rfl) rfl ?_
    refine ng rfl rfl (fun h => eo_mv rfl rfl) rfl ?_
    refine ng rfl rfl (fun h => eo_mv rfl rfl) rfl ?_
    refine ng rfl rfl (fun h => eo_eql rfl (ev_if h rfl) (ev_if h rfl)) rfl ?_
    refine ne (eo_and rfl rfl (fun hb => ev_if hb rfl)) rfl ?_
    refine ne (eo_mv rfl rfl) rfl ?_
    refine ng rfl rfl (fun h => eo_mv rfl rfl) rfl ?_
    refine ng rfl rfl (fun h => eo_mv rfl rfl) rfl ?_
    refine ng rfl rfl (fun h => eo_eql rfl (ev_if h rfl) (ev_if h rfl)) rfl ?_
    refine ne (eo_and rfl rfl (fun hb => ev_if hb rfl)) rfl ?_
    refine ne (eo_mv rfl rfl) rfl ?_
    refine ng rfl rfl (fun h => eo_mv rfl rfl) rfl ?_
    refine ng rfl rfl (fun h => eo_mv rfl rfl) rfl ?_
    refine ng rfl rfl (fun h => eo_eql rfl (ev_if h rfl) (ev_if h rfl)) rfl ?_
    refine ne (eo_and rfl rfl (fun hb => ev_if hb rfl)) rfl ?_
    refine ne (eo_mv rfl rfl) rfl ?_
    refine ng rfl rfl (fun h => eo_call rfl en10 rfl (fun W1 hO => alive36_c W1  )) rfl ?_
    refine ne (eo_and rfl rfl (fun hb => ev_if hb rfl)) rfl ?_
    refine ne (eo_as rfl rfl) rfl ?_
    refine go_nil ?_
    refine gq_next ?_
    refine gc_ret ?_
    refine gq_results (res1 rfl rfl) ?_
    exact fun W1 hO => ⟨ret_bool (show ((((true && decide ((hisR ⟨W, H, n, f⟩).2 = (hisR ⟨W, H, n, f⟩).2)) && decide ((otsR ⟨W, H, n, f⟩).1 = (otsR ⟨W, H, n, f⟩).1)) && decide ((otsR ⟨W, H, n, f⟩).2 = (otsR ⟨W, H, n, f⟩).2)) && true) = true from by simp), hO.toExt⟩

end Go.Proofs.Ytcdhbikginpogaa
