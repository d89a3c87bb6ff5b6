/-
  The walks of the functions of package printing and of the document's answer (part N): what each call returns, at every argument.
-/
import Derived.Test.YtibooikbbcilcaaWM
namespace Go.Proofs.Ytibooikbbcilcaa
open Go.RowKit Go.Eng

open Go.Bs
theorem en10 : Ent Try.prog 10 := ent_of Try.func10 (by kernel_rfl) rfl
theorem en26 : Ent Try.prog 26 := ent_of Try.func26 (by kernel_rfl) rfl
theorem en27 : Ent Try.prog 27 := ent_of Try.func27 (by kernel_rfl) rfl
theorem en13 : Ent Try.prog 13 := ent_of Try.func13 (by kernel_rfl) rfl

/-- barscan/barscanlaw43.PrintingPrints -/
theorem lprints_c (W H : Int) (A : Option Addr) (n c : Nat) (f : Nat → Bool) (t bl d sd : Int) (w : World) (hr : Rd w A (tab n (bv f))) (hs0 : 0 ≤ sd) (hs1 : sd ≤ 4294967295) :
    Calls Try.prog 8 #[.agg #[.int .i64 W, .int .i64 H, .slice A n c], .agg #[.int .i64 t, .int .i64 bl, .int .i64 d, .int .u32 sd]] w (fun e w' => e = .returned (.bool true) ∧ Ext w w') := by
  refine calls_enter (N := ⟨37, []⟩) [] ([]) Try.func8 rfl rfl rfl (Ow.start _) ?_
  refine gc_seq ?_
  refine gc_region ?_
  refine nx (xo_boxA rfl rfl) rfl ?_
  rintro _ _ ⟨g2, rfl, rfl⟩
  refine nx (xo_boxA rfl rfl) rfl ?_
  rintro _ _ ⟨g3, rfl, rfl⟩
  refine ne (eo_as rfl rfl) rfl ?_
  refine go_nil ?_
  refine gq_next ?_
  refine gc_seq ?_
  refine gc_seq ?_
  refine gc_region ?_
  refine ne (eo_field rfl f33_2 rfl) rfl ?_
  refine ne (eo_load 1 rfl s31 rfl rfl rfl rfl) rfl ?_
  refine ne (eo_len rfl Try.underlying31 rfl) rfl ?_
  refine ne (eo_gtr rfl rfl rfl) rfl ?_
  refine go_nil ?_
  refine gq_next ?_
  refine gc_cond rfl (fun hc0 => ?_) (fun hc0 => ?_)
  ·
    replace hc0 := of_decide_eq_true hc0
    refine gc_seq ?_
    refine gc_region ?_
    refine ne (eo_call rfl en10 rfl (fun W1 hO => exam43_c W1  )) rfl ?_
    refine ne (eo_as rfl rfl) rfl ?_
    refine go_nil ?_
    refine gq_next ?_
    refine gc_ret ?_
    refine gq_then_ret ?_
    refine gq_results (res1 rfl rfl) ?_
    exact fun W1 hO => ⟨rfl, hO.toExt⟩
  ·
    replace hc0 := of_decide_eq_false hc0
    refine gc_skip ?_
    refine gq_next ?_
    refine gc_seq ?_
    refine gc_region ?_
    refine ne (eo_loadA 1 rfl a33 rfl rfl rfl rfl) rfl ?_
    refine ne (eo_loadA 0 rfl a54 rfl rfl rfl rfl) rfl ?_
    refine nx (xo_freshT rfl en26 rfl (fun W1 hO => print_x _ _ _ _ _ _ _ _ _ _ W1 (hr.old0 hO) (by omega) (by omega))) rfl ?_
    rintro _ _ ⟨S17, ⟨A17, k17, rfl, hk17, hS17⟩, rfl⟩
    refine ne (eo_mv rfl rfl) rfl ?_
    refine ne (eo_extract rfl rfl rfl) rfl ?_
    refine ne (eo_extract rfl rfl rfl) rfl ?_
    refine nx (xo_alloc rfl z24) rfl ?_
    rintro _ _ ⟨g5, rfl, rfl⟩
    refine nu (xo_storeA 0 rfl a24 rfl rfl (ones_cons (by first | rfl | exact AS.one) (ones_cons (by first | rfl | exact AS.one) (ones_cons (by first | rfl | exact AS.one) ones_nil))) rfl rfl rfl rfl) ?_
    rintro _ _ ⟨rfl, rfl⟩
    refine ne (eo_as rfl rfl) rfl ?_
    refine go_nil ?_
    refine gq_next ?_
    refine gc_seq ?_
    refine gc_region ?_
    refine ne (eo_loadA 2 rfl a33 rfl rfl rfl rfl) rfl ?_
    refine ne (eo_loadA 1 rfl a54 rfl rfl rfl rfl) rfl ?_
    refine nx (xo_freshT rfl en27 rfl (fun W1 hO => rprint_x _ _ _ _ _ _ _ _ _ _ W1 (hr.old0 hO) (by omega) (by omega))) rfl ?_
    rintro _ _ ⟨S23, ⟨A23, k23, rfl, hk23, hS23⟩, rfl⟩
    refine ne (eo_mv rfl rfl) rfl ?_
    refine ne (eo_extract rfl rfl rfl) rfl ?_
    refine ne (eo_extract rfl rfl rfl) rfl ?_
    refine nx (xo_alloc rfl z24) rfl ?_
    rintro _ _ ⟨g7, rfl, rfl⟩
    refine nu (xo_storeA 0 rfl a24 rfl rfl (ones_cons (by first | rfl | exact AS.one) (ones_cons (by first | rfl | exact AS.one) (ones_cons (by first | rfl | exact AS.one) ones_nil))) rfl rfl rfl rfl) ?_
    rintro _ _ ⟨rfl, rfl⟩
    refine ne (eo_as rfl rfl) rfl ?_
    refine go_nil ?_
    refine gq_next ?_
    refine gc_seq ?_
    refine gc_region ?_
    refine ne (eo_loadA 1 rfl a24 rfl rfl rfl rfl) rfl ?_
    refine ne (eo_loadA 0 rfl a24 rfl rfl rfl rfl) rfl ?_
    refine ne (eo_call rfl en13 rfl (fun W1 hO => equal43_c _ _ _ _ _ _ _ _ _ _ _ _ W1 (hS17.rd (hO.tl 4 rfl (List.sublist_append_left _ _))) (hS23.rd (hO.tl 4 rfl (List.sublist_append_right _ _))) (Nat.le_trans printR_le (by decide)))) rfl ?_
    refine ne (eo_mv rfl rfl) rfl ?_
    refine ng rfl rfl (fun h => eo_mv rfl rfl) rfl ?_
    refine ng rfl rfl (fun h => eo_mv rfl rfl) rfl ?_
    refine ng rfl rfl (fun h => eo_eql rfl (ev_if h rfl) (ev_if h rfl)) rfl ?_
    refine ne (eo_and rfl rfl (fun hb => ev_if hb rfl)) rfl ?_
    refine ne (eo_mv rfl rfl) rfl ?_
    refine ng rfl rfl (fun h => eo_call rfl en10 rfl (fun W1 hO => exam43_c W1  )) rfl ?_
    refine ne (eo_and rfl rfl (fun hb => ev_if hb rfl)) rfl ?_
    refine ne (eo_as rfl rfl) rfl ?_
    refine go_nil ?_
    refine gq_next ?_
    refine gc_ret ?_
    refine gq_results (res1 rfl rfl) ?_
    exact fun W1 hO => ⟨ret_bool (show (((eqP (printR ⟨W, H, n, f⟩ t bl d sd).1 (printR ⟨W, H, n, f⟩ t bl d sd).1) && decide ((printR ⟨W, H, n, f⟩ t bl d sd).2 = (printR ⟨W, H, n, f⟩ t bl d sd).2)) && true) = true from by simp [eqP_rf]), hO.toExt⟩

end Go.Proofs.Ytibooikbbcilcaa
