/-
  The walks of the functions of package raster and of the document's answer (part F): what each call returns, at every argument.
-/
import Derived.Test.YtefblgildcaldaaWC
namespace Go.Proofs.Ytefblgildcaldaa
open Go.RowKit Go.Eng

open Go.Bs


/-- barscan/raster.Paste -/
theorem paste_ok (x y W H pW pH : Int) (A A' : Option Addr) (n c pn pc : Nat) (f p : Nat → Bool) (w : World) (hr : Rd w A (tab n (bv f))) (hr' : Rd w A' (tab pn (bv p))) (hpc : pn ≤ pc) (hv : vldB W H n = true) (hpv : vldB pW pH pn = true) :
    Calls Try.prog 21 #[.agg #[.int .i64 W, .int .i64 H, .slice A n c], .agg #[.int .i64 pW, .int .i64 pH, .slice A' pn pc], .int .i64 x, .int .i64 y] w fun e w' => ∃ v Hn, e = .returned v ∧ RE 4 W H n (putF (nearI 8192 x) (nearI 8192 y) W pW pH f p) v Hn ∧ Ow [] w w' Hn := by
  obtain ⟨v1, v2, v3, v4, v5, v6⟩ := vldB_iff.1 hv
  obtain ⟨q1, q2, q3, q4, q5, q6⟩ := vldB_iff.1 hpv
  have h1n := fits_bd (a := W) (b := H) (by simp only [vldB, Bool.and_eq_true] at hv; exact hv.1)
  have h1p := fits_bd (a := pW) (b := pH) (by simp only [vldB, Bool.and_eq_true] at hpv; exact hpv.1)
  have hnx := nearI_bd (m := 10000) (n := x) (by omega)
  have hny := nearI_bd (m := 10000) (n := y) (by omega)
  refine calls_enter (N := ⟨29, []⟩) ([]) ([]) Try.func21 rfl rfl rfl (Ow.start _) ?_
  refine gc_seq ?_
  refine gc_region ?_
  refine nx (xo_boxA rfl rfl) rfl ?_
  rintro _ _ ⟨g4, rfl, rfl⟩
  refine nx (xo_boxA rfl rfl) rfl ?_
  rintro _ _ ⟨g5, rfl, rfl⟩
  refine nx (xo_alloc rfl z24) rfl ?_
  rintro _ _ ⟨g8, rfl, rfl⟩
  refine ne (eo_as rfl rfl) rfl ?_
  refine go_nil ?_
  refine gq_next ?_
  refine gc_seq ?_
  refine gc_seq ?_
  refine gc_region ?_
  refine ne (by first | exact eo_loadA 0 rfl a24 rfl rfl rfl rfl | exact eo_loadA 1 rfl a24 rfl rfl rfl rfl | exact eo_loadA 2 rfl a24 rfl rfl rfl rfl | exact eo_loadA 3 rfl a24 rfl rfl rfl rfl | exact eo_loadA 4 rfl a24 rfl rfl rfl rfl | exact eo_loadA 5 rfl a24 rfl rfl rfl rfl) rfl ?_
  refine ne (eo_call rfl en23 rfl (fun W _ => check_c _ _ _ _ _ W)) rfl ?_
  refine ne (eo_neq rfl rfl rfl) rfl ?_
  refine ne (eo_mv rfl rfl) rfl ?_
  refine ng rfl rfl (fun h => by first | exact eo_loadA 0 rfl a24 rfl rfl rfl rfl | exact eo_loadA 1 rfl a24 rfl rfl rfl rfl | exact eo_loadA 2 rfl a24 rfl rfl rfl rfl | exact eo_loadA 3 rfl a24 rfl rfl rfl rfl | exact eo_loadA 4 rfl a24 rfl rfl rfl rfl | exact eo_loadA 5 rfl a24 rfl rfl rfl rfl) rfl ?_
  refine ng rfl rfl (fun h => eo_call rfl en23 (evs_cons (ev_if h rfl) evs_nil) (fun W _ => check_c _ _ _ _ _ W)) rfl ?_
  refine ng rfl rfl (fun h => eo_neq rfl (ev_if h rfl) rfl) rfl ?_
  refine ne (eo_or rfl rfl (fun hb => ev_if hb rfl)) rfl ?_
  refine go_nil ?_
  refine gq_next ?_
  refine gc_cond rfl (fun hc17 => ?_) (fun hc17 => ?_)
  ·
    exact absurd hc17 (by simp [chk_ok hv, chk_ok hpv])
  ·
    refine gc_skip ?_
    refine gq_next ?_
    refine gc_seq ?_
    refine gc_region ?_
    refine ne (eo_field rfl f24_2 rfl) rfl ?_
    refine ne (by first | exact eo_load 0 rfl s22 rfl rfl rfl rfl | exact eo_load 1 rfl s22 rfl rfl rfl rfl | exact eo_load 2 rfl s22 rfl rfl rfl rfl | exact eo_load 3 rfl s22 rfl rfl rfl rfl | exact eo_load 4 rfl s22 rfl rfl rfl rfl | exact eo_load 5 rfl s22 rfl rfl rfl rfl) rfl ?_
    refine nx (xo_fresh rfl en53 rfl (fun W hO => clone_c _ _ _ _ W (hr.old0 hO) (by simp) tab_oneb (by omega))) rfl ?_
    rintro _ _ ⟨_, hRa, rfl⟩
    obtain ⟨gk, ck, spk, rfl, rfl, hck⟩ := RApp.at_ hRa (by omega)
    refine ne (eo_field rfl f24_2 rfl) rfl ?_
    refine nu (by first | exact xo_store 0 rfl s22 rfl rfl (by first | rfl | exact AS.one) rfl rfl (by simp) | exact xo_store 1 rfl s22 rfl rfl (by first | rfl | exact AS.one) rfl rfl (by simp) | exact xo_store 2 rfl s22 rfl rfl (by first | rfl | exact AS.one) rfl rfl (by simp) | exact xo_store 3 rfl s22 rfl rfl (by first | rfl | exact AS.one) rfl rfl (by simp) | exact xo_store 4 rfl s22 rfl rfl (by first | rfl | exact AS.one) rfl rfl (by simp) | exact xo_store 5 rfl s22 rfl rfl (by first | rfl | exact AS.one) rfl rfl (by simp)) ?_
    rintro _ _ ⟨rfl, rfl⟩
    refine go_nil ?_
    refine gq_next ?_
    refine gc_seq ?_
    refine gc_region ?_
    refine ne (by first | exact eo_loadA 0 rfl a24 rfl rfl rfl rfl | exact eo_loadA 1 rfl a24 rfl rfl rfl rfl | exact eo_loadA 2 rfl a24 rfl rfl rfl rfl | exact eo_loadA 3 rfl a24 rfl rfl rfl rfl | exact eo_loadA 4 rfl a24 rfl rfl rfl rfl | exact eo_loadA 5 rfl a24 rfl rfl rfl rfl) rfl ?_
    refine ne (by first | exact eo_loadA 0 rfl a24 rfl rfl rfl rfl | exact eo_loadA 1 rfl a24 rfl rfl rfl rfl | exact eo_loadA 2 rfl a24 rfl rfl rfl rfl | exact eo_loadA 3 rfl a24 rfl rfl rfl rfl | exact eo_loadA 4 rfl a24 rfl rfl rfl rfl | exact eo_loadA 5 rfl a24 rfl rfl rfl rfl) rfl ?_
    refine ne (eo_mv rfl rfl) rfl ?_
    refine ne (eo_mv rfl rfl) rfl ?_
    refine nx (xo_over 0 rfl en47 rfl rfl (fun W' hO => put_c _ _ _ _ _ _ _ _ _ _ _ _ _ _ _ W' (hO.at_ (i := 0) rfl) hv hpv hck hpc (hr'.old0 hO) (own_ne_old hr' (by omega) hO 0 rfl))) rfl ?_
    rintro _ _ ⟨rfl, rfl⟩
    refine go_nil ?_
    refine gq_next ?_
    refine gc_seq ?_
    refine gc_region ?_
    refine ne (by first | exact eo_loadA 0 rfl a24 rfl rfl rfl rfl | exact eo_loadA 1 rfl a24 rfl rfl rfl rfl | exact eo_loadA 2 rfl a24 rfl rfl rfl rfl | exact eo_loadA 3 rfl a24 rfl rfl rfl rfl | exact eo_loadA 4 rfl a24 rfl rfl rfl rfl | exact eo_loadA 5 rfl a24 rfl rfl rfl rfl) rfl ?_
    refine nu (by first | exact xo_storeA 0 rfl a24 rfl rfl (ones_cons (by first | rfl | exact AS.one) (ones_cons (by first | rfl | exact AS.one) (ones_cons (by first | rfl | exact AS.one) ones_nil))) rfl rfl rfl rfl | exact xo_storeA 1 rfl a24 rfl rfl (ones_cons (by first | rfl | exact AS.one) (ones_cons (by first | rfl | exact AS.one) (ones_cons (by first | rfl | exact AS.one) ones_nil))) rfl rfl rfl rfl | exact xo_storeA 2 rfl a24 rfl rfl (ones_cons (by first | rfl | exact AS.one) (ones_cons (by first | rfl | exact AS.one) (ones_cons (by first | rfl | exact AS.one) ones_nil))) rfl rfl rfl rfl | exact xo_storeA 3 rfl a24 rfl rfl (ones_cons (by first | rfl | exact AS.one) (ones_cons (by first | rfl | exact AS.one) (ones_cons (by first | rfl | exact AS.one) ones_nil))) rfl rfl rfl rfl | exact xo_storeA 4 rfl a24 rfl rfl (ones_cons (by first | rfl | exact AS.one) (ones_cons (by first | rfl | exact AS.one) (ones_cons (by first | rfl | exact AS.one) ones_nil))) rfl rfl rfl rfl | exact xo_storeA 5 rfl a24 rfl rfl (ones_cons (by first | rfl | exact AS.one) (ones_cons (by first | rfl | exact AS.one) (ones_cons (by first | rfl | exact AS.one) ones_nil))) rfl rfl rfl rfl) ?_
    rintro _ _ ⟨rfl, rfl⟩
    refine ne (eo_as rfl rfl) rfl ?_
    refine go_nil ?_
    refine gq_next ?_
    refine gc_ret ?_
    refine gq_results (by first | exact resCT 0 rfl a24 rfl rfl rfl rfl rfl | exact resCT 1 rfl a24 rfl rfl rfl rfl rfl | exact resCT 2 rfl a24 rfl rfl rfl rfl rfl | exact resCT 3 rfl a24 rfl rfl rfl rfl rfl | exact resCT 4 rfl a24 rfl rfl rfl rfl rfl | exact resCT 5 rfl a24 rfl rfl rfl rfl rfl) ?_
    exact fun W' hO => ⟨_, _, rfl, ⟨_, _, _, rfl, rfl, by omega⟩, hO.pick 0 rfl⟩

/-- barscan/raster.Paste -/
theorem paste_no (x y W H pW pH : Int) (A A' : Option Addr) (n c pn pc : Nat) (f p : Nat → Bool) (w : World) (_hr : Rd w A (tab n (bv f))) (_hr' : Rd w A' (tab pn (bv p))) (hb : (vldB W H n && vldB pW pH pn) = false) :
    Calls Try.prog 21 #[.agg #[.int .i64 W, .int .i64 H, .slice A n c], .agg #[.int .i64 pW, .int .i64 pH, .slice A' pn pc], .int .i64 x, .int .i64 y] w fun e w' => e = .returned (noM 1) ∧ Ext w w' := by
  refine calls_enter (N := ⟨29, []⟩) ([]) ([]) Try.func21 rfl rfl rfl (Ow.start _) ?_
  refine gc_seq ?_
  refine gc_region ?_
  refine nx (xo_boxA rfl rfl) rfl ?_
  rintro _ _ ⟨g4, rfl, rfl⟩
  refine nx (xo_boxA rfl rfl) rfl ?_
  rintro _ _ ⟨g5, rfl, rfl⟩
  refine nx (xo_alloc rfl z24) rfl ?_
  rintro _ _ ⟨g8, rfl, rfl⟩
  refine ne (eo_as rfl rfl) rfl ?_
  refine go_nil ?_
  refine gq_next ?_
  refine gc_seq ?_
  refine gc_seq ?_
  refine gc_region ?_
  refine ne (by first | exact eo_loadA 0 rfl a24 rfl rfl rfl rfl | exact eo_loadA 1 rfl a24 rfl rfl rfl rfl | exact eo_loadA 2 rfl a24 rfl rfl rfl rfl | exact eo_loadA 3 rfl a24 rfl rfl rfl rfl | exact eo_loadA 4 rfl a24 rfl rfl rfl rfl | exact eo_loadA 5 rfl a24 rfl rfl rfl rfl) rfl ?_
  refine ne (eo_call rfl en23 rfl (fun W _ => check_c _ _ _ _ _ W)) rfl ?_
  refine ne (eo_neq rfl rfl rfl) rfl ?_
  refine ne (eo_mv rfl rfl) rfl ?_
  refine ng rfl rfl (fun h => by first | exact eo_loadA 0 rfl a24 rfl rfl rfl rfl | exact eo_loadA 1 rfl a24 rfl rfl rfl rfl | exact eo_loadA 2 rfl a24 rfl rfl rfl rfl | exact eo_loadA 3 rfl a24 rfl rfl rfl rfl | exact eo_loadA 4 rfl a24 rfl rfl rfl rfl | exact eo_loadA 5 rfl a24 rfl rfl rfl rfl) rfl ?_
  refine ng rfl rfl (fun h => eo_call rfl en23 (evs_cons (ev_if h rfl) evs_nil) (fun W _ => check_c _ _ _ _ _ W)) rfl ?_
  refine ng rfl rfl (fun h => eo_neq rfl (ev_if h rfl) rfl) rfl ?_
  refine ne (eo_or rfl rfl (fun hb => ev_if hb rfl)) rfl ?_
  refine go_nil ?_
  refine gq_next ?_
  refine gc_cond rfl (fun hc17 => ?_) (fun hc17 => ?_)
  ·
    refine gc_seq ?_
    refine gc_region ?_
    refine ne (eo_build rfl rfl (b24_)) rfl ?_
    refine nu (by first | exact xo_storeA 0 rfl a24 rfl rfl (ones_cons (by first | rfl | exact AS.one) (ones_cons (by first | rfl | exact AS.one) (ones_cons (by first | rfl | exact AS.one) ones_nil))) rfl rfl rfl rfl | exact xo_storeA 1 rfl a24 rfl rfl (ones_cons (by first | rfl | exact AS.one) (ones_cons (by first | rfl | exact AS.one) (ones_cons (by first | rfl | exact AS.one) ones_nil))) rfl rfl rfl rfl | exact xo_storeA 2 rfl a24 rfl rfl (ones_cons (by first | rfl | exact AS.one) (ones_cons (by first | rfl | exact AS.one) (ones_cons (by first | rfl | exact AS.one) ones_nil))) rfl rfl rfl rfl | exact xo_storeA 3 rfl a24 rfl rfl (ones_cons (by first | rfl | exact AS.one) (ones_cons (by first | rfl | exact AS.one) (ones_cons (by first | rfl | exact AS.one) ones_nil))) rfl rfl rfl rfl | exact xo_storeA 4 rfl a24 rfl rfl (ones_cons (by first | rfl | exact AS.one) (ones_cons (by first | rfl | exact AS.one) (ones_cons (by first | rfl | exact AS.one) ones_nil))) rfl rfl rfl rfl | exact xo_storeA 5 rfl a24 rfl rfl (ones_cons (by first | rfl | exact AS.one) (ones_cons (by first | rfl | exact AS.one) (ones_cons (by first | rfl | exact AS.one) ones_nil))) rfl rfl rfl rfl) ?_
    rintro _ _ ⟨rfl, rfl⟩
    refine ne (eo_as rfl rfl) rfl ?_
    refine go_nil ?_
    refine gq_next ?_
    refine gc_ret ?_
    refine gq_then_ret ?_
    refine gq_results (by first | exact resCT 0 rfl a24 rfl rfl rfl rfl rfl | exact resCT 1 rfl a24 rfl rfl rfl rfl rfl | exact resCT 2 rfl a24 rfl rfl rfl rfl rfl | exact resCT 3 rfl a24 rfl rfl rfl rfl rfl | exact resCT 4 rfl a24 rfl rfl rfl rfl rfl | exact resCT 5 rfl a24 rfl rfl rfl rfl rfl) ?_
    exact fun W hO => ⟨rfl, hO.toExt⟩
  ·
    exact absurd hb (by rw [chk_ne, chk_ne] at hc17; simpa using hc17)

/-- barscan/barscanref31.Paste -/
theorem rpaste_ok (x y W H pW pH : Int) (A A' : Option Addr) (n c pn pc : Nat) (f p : Nat → Bool) (w : World) (hr : Rd w A (tab n (bv f))) (hr' : Rd w A' (tab pn (bv p))) (hv : vldB W H n = true) (hpv : vldB pW pH pn = true) :
    Calls Try.prog 22 #[.agg #[.int .i64 W, .int .i64 H, .slice A n c], .agg #[.int .i64 pW, .int .i64 pH, .slice A' pn pc], .int .i64 x, .int .i64 y] w fun e w' => ∃ v Hn, e = .returned v ∧ RE 4 W H n (pasteF 10000 W H n f pW pH pn p x y) v Hn ∧ Ow [] w w' Hn := by
  obtain ⟨v1, v2, v3, v4, v5, v6⟩ := vldB_iff.1 hv
  obtain ⟨q1, q2, q3, q4, q5, q6⟩ := vldB_iff.1 hpv
  have h1n := fits_bd (a := W) (b := H) (by simp only [vldB, Bool.and_eq_true] at hv; exact hv.1)
  have h1p := fits_bd (a := pW) (b := pH) (by simp only [vldB, Bool.and_eq_true] at hpv; exact hpv.1)
  have hnx := nearI_bd (m := 10000) (n := x) (by omega)
  have hny := nearI_bd (m := 10000) (n := y) (by omega)
  refine calls_enter (N := ⟨83, []⟩) ([]) ([]) Try.func22 rfl rfl rfl (Ow.start _) ?_
  refine gc_seq ?_
  refine gc_region ?_
  refine nx (xo_boxA rfl rfl) rfl ?_
  rintro _ _ ⟨g4, rfl, rfl⟩
  refine nx (xo_boxA rfl rfl) rfl ?_
  rintro _ _ ⟨g5, rfl, rfl⟩
  refine nx (xo_alloc rfl z24) rfl ?_
  rintro _ _ ⟨g8, rfl, rfl⟩
  refine ne (eo_as rfl rfl) rfl ?_
  refine go_nil ?_
  refine gq_next ?_
  refine gc_seq ?_
  refine gc_seq ?_
  refine gc_region ?_
  refine ne (by first | exact eo_loadA 0 rfl a24 rfl rfl rfl rfl | exact eo_loadA 1 rfl a24 rfl rfl rfl rfl | exact eo_loadA 2 rfl a24 rfl rfl rfl rfl | exact eo_loadA 3 rfl a24 rfl rfl rfl rfl | exact eo_loadA 4 rfl a24 rfl rfl rfl rfl | exact eo_loadA 5 rfl a24 rfl rfl rfl rfl) rfl ?_
  refine ne (eo_call rfl en36 rfl (fun W _ => valid_c _ _ _ _ _ W)) rfl ?_
  refine ne (eo_not rfl rfl) rfl ?_
  refine ne (eo_mv rfl rfl) rfl ?_
  refine ng rfl rfl (fun h => by first | exact eo_loadA 0 rfl a24 rfl rfl rfl rfl | exact eo_loadA 1 rfl a24 rfl rfl rfl rfl | exact eo_loadA 2 rfl a24 rfl rfl rfl rfl | exact eo_loadA 3 rfl a24 rfl rfl rfl rfl | exact eo_loadA 4 rfl a24 rfl rfl rfl rfl | exact eo_loadA 5 rfl a24 rfl rfl rfl rfl) rfl ?_
  refine ng rfl rfl (fun h => eo_call rfl en36 (evs_cons (ev_if h rfl) evs_nil) (fun W _ => valid_c _ _ _ _ _ W)) rfl ?_
  refine ng rfl rfl (fun h => eo_not rfl (ev_if h rfl)) rfl ?_
  refine ne (eo_or rfl rfl (fun hb => ev_if hb rfl)) rfl ?_
  refine go_nil ?_
  refine gq_next ?_
  refine gc_cond rfl (fun hc23 => ?_) (fun hc23 => ?_)
  ·
    exact absurd hc23 (by simp [hv, hpv])
  ·
    refine gc_skip ?_
    refine gq_next ?_
    refine gc_seq ?_
    refine gc_region ?_
    refine ne (eo_field rfl f24_0 rfl) rfl ?_
    refine ne (by first | exact eo_load 0 rfl s3 rfl rfl rfl rfl | exact eo_load 1 rfl s3 rfl rfl rfl rfl | exact eo_load 2 rfl s3 rfl rfl rfl rfl | exact eo_load 3 rfl s3 rfl rfl rfl rfl | exact eo_load 4 rfl s3 rfl rfl rfl rfl | exact eo_load 5 rfl s3 rfl rfl rfl rfl) rfl ?_
    refine ne (eo_field rfl f24_1 rfl) rfl ?_
    refine ne (by first | exact eo_load 0 rfl s3 rfl rfl rfl rfl | exact eo_load 1 rfl s3 rfl rfl rfl rfl | exact eo_load 2 rfl s3 rfl rfl rfl rfl | exact eo_load 3 rfl s3 rfl rfl rfl rfl | exact eo_load 4 rfl s3 rfl rfl rfl rfl | exact eo_load 5 rfl s3 rfl rfl rfl rfl) rfl ?_
    refine ne (eo_build rfl rfl (b24_01 _ _)) rfl ?_
    refine nx (xo_alloc rfl z24) rfl ?_
    rintro _ _ ⟨g10, rfl, rfl⟩
    refine nu (by first | exact xo_storeA 0 rfl a24 rfl rfl (ones_cons (by first | rfl | exact AS.one) (ones_cons (by first | rfl | exact AS.one) (ones_cons (by first | rfl | exact AS.one) ones_nil))) rfl rfl rfl rfl | exact xo_storeA 1 rfl a24 rfl rfl (ones_cons (by first | rfl | exact AS.one) (ones_cons (by first | rfl | exact AS.one) (ones_cons (by first | rfl | exact AS.one) ones_nil))) rfl rfl rfl rfl | exact xo_storeA 2 rfl a24 rfl rfl (ones_cons (by first | rfl | exact AS.one) (ones_cons (by first | rfl | exact AS.one) (ones_cons (by first | rfl | exact AS.one) ones_nil))) rfl rfl rfl rfl | exact xo_storeA 3 rfl a24 rfl rfl (ones_cons (by first | rfl | exact AS.one) (ones_cons (by first | rfl | exact AS.one) (ones_cons (by first | rfl | exact AS.one) ones_nil))) rfl rfl rfl rfl | exact xo_storeA 4 rfl a24 rfl rfl (ones_cons (by first | rfl | exact AS.one) (ones_cons (by first | rfl | exact AS.one) (ones_cons (by first | rfl | exact AS.one) ones_nil))) rfl rfl rfl rfl | exact xo_storeA 5 rfl a24 rfl rfl (ones_cons (by first | rfl | exact AS.one) (ones_cons (by first | rfl | exact AS.one) (ones_cons (by first | rfl | exact AS.one) ones_nil))) rfl rfl rfl rfl) ?_
    rintro _ _ ⟨rfl, rfl⟩
    refine go_nil ?_
    refine gq_next ?_
    refine gc_seq ?_
    refine gc_seq ?_
    refine gc_region ?_
    refine ne (eo_as rfl rfl) rfl ?_
    refine go_nil ?_
    refine gq_next ?_
    refine gc_block ?_
    refine loop3 (fun (j : Nat) (k : Nat) (s : AS) => (j : Int) ≤ H ∧ (k : Int) = j * W ∧ s.Ok 1 k (tab k (bv (pasteF 10000 W H n f pW pH pn p x y)))) (fun (j : Nat) (k : Nat) (s : AS) => (H - j).toNat) (fun (j : Nat) (k : Nat) (s : AS) => [(2, .int .i64 x), (3, .int .i64 y), (4, .pointer (some ⟨g4, 0, none⟩)), (5, .pointer (some ⟨g5, 0, none⟩)), (8, .pointer (some ⟨g8, 0, none⟩)), (10, .pointer (some ⟨g10, 0, none⟩)), (11, .int .i64 j)]) (fun (j : Nat) (k : Nat) (s : AS) => [⟨g10, 24, [.int .i64 W, .int .i64 H, s.val k]⟩, ⟨g8, 24, [.int .i64 0, .int .i64 0, .slice none 0 0]⟩, ⟨g5, 24, [.int .i64 pW, .int .i64 pH, .slice A' pn pc]⟩, ⟨g4, 24, [.int .i64 W, .int .i64 H, .slice A n c]⟩] ++ s.blks 4 (tab k (bv (pasteF 10000 W H n f pW pH pn p x y)))) 0 0 .nil ⟨by omega, by simp, AS.Ok0⟩ ⟨rfl, rfl, rfl, rfl, rfl, rfl, rfl, trivial⟩ (by first | exact List.Sublist.refl _ | exact List.Sublist.cons _ (List.Sublist.refl _) | exact List.Sublist.cons _ (List.Sublist.cons _ (List.Sublist.refl _)) | exact List.Sublist.cons _ (List.Sublist.cons _ (List.Sublist.cons _ (List.Sublist.refl _))) | exact List.Sublist.cons_cons _ (List.Sublist.cons _ (List.Sublist.refl _))) ?_
    rintro j k s ⟨hy, hk, hs⟩
    refine gc_seq ?_
    refine gc_seq ?_
    refine gc_region ?_
    refine ne (eo_mv rfl rfl) rfl ?_
    refine ne (eo_field rfl f24_1 rfl) rfl ?_
    refine ne (by first | exact eo_load 0 rfl s3 rfl rfl rfl rfl | exact eo_load 1 rfl s3 rfl rfl rfl rfl | exact eo_load 2 rfl s3 rfl rfl rfl rfl | exact eo_load 3 rfl s3 rfl rfl rfl rfl | exact eo_load 4 rfl s3 rfl rfl rfl rfl | exact eo_load 5 rfl s3 rfl rfl rfl rfl) rfl ?_
    refine ne (eo_lss rfl rfl rfl) rfl ?_
    refine go_nil ?_
    refine gq_next ?_
    refine gc_cond rfl (fun hc33 => ?_) (fun hc33 => ?_)
    ·
      replace hc33 := of_decide_eq_true hc33
      refine gc_skip ?_
      refine gq_next ?_
      refine gc_seq ?_
      refine gc_block ?_
      refine gc_seq ?_
      refine gc_region ?_
      refine ne (eo_as rfl rfl) rfl ?_
      refine go_nil ?_
      refine gq_next ?_
      refine gc_block ?_
      refine loop3 (fun (i : Nat) (k : Nat) (s : AS) => (i : Int) ≤ W ∧ (k : Int) = j * W + i ∧ s.Ok 1 k (tab k (bv (pasteF 10000 W H n f pW pH pn p x y)))) (fun (i : Nat) (k : Nat) (s : AS) => (W - i).toNat) (fun (i : Nat) (k : Nat) (s : AS) => [(2, .int .i64 x), (3, .int .i64 y), (4, .pointer (some ⟨g4, 0, none⟩)), (5, .pointer (some ⟨g5, 0, none⟩)), (8, .pointer (some ⟨g8, 0, none⟩)), (10, .pointer (some ⟨g10, 0, none⟩)), (11, .int .i64 j), (12, .int .i64 i)]) (fun (i : Nat) (k : Nat) (s : AS) => [⟨g10, 24, [.int .i64 W, .int .i64 H, s.val k]⟩, ⟨g8, 24, [.int .i64 0, .int .i64 0, .slice none 0 0]⟩, ⟨g5, 24, [.int .i64 pW, .int .i64 pH, .slice A' pn pc]⟩, ⟨g4, 24, [.int .i64 W, .int .i64 H, .slice A n c]⟩] ++ s.blks 4 (tab k (bv (pasteF 10000 W H n f pW pH pn p x y)))) 0 k s ⟨by omega, by omega, hs⟩ ⟨rfl, rfl, rfl, rfl, rfl, rfl, rfl, rfl, trivial⟩ (by first | exact List.Sublist.refl _ | exact List.Sublist.cons _ (List.Sublist.refl _) | exact List.Sublist.cons _ (List.Sublist.cons _ (List.Sublist.refl _)) | exact List.Sublist.cons _ (List.Sublist.cons _ (List.Sublist.cons _ (List.Sublist.refl _))) | exact List.Sublist.cons_cons _ (List.Sublist.cons _ (List.Sublist.refl _))) ?_
      rintro i k s ⟨hx, hk, hs⟩
      have hyb := idx_bd (W := W) (H := H) (x := 0) (y := j) (by omega) (by omega) (by omega) (by omega)
      refine gc_seq ?_
      refine gc_seq ?_
      refine gc_region ?_
      refine ne (eo_mv rfl rfl) rfl ?_
      refine ne (eo_field rfl f24_0 rfl) rfl ?_
      refine ne (by first | exact eo_load 0 rfl s3 rfl rfl rfl rfl | exact eo_load 1 rfl s3 rfl rfl rfl rfl | exact eo_load 2 rfl s3 rfl rfl rfl rfl | exact eo_load 3 rfl s3 rfl rfl rfl rfl | exact eo_load 4 rfl s3 rfl rfl rfl rfl | exact eo_load 5 rfl s3 rfl rfl rfl rfl) rfl ?_
      refine ne (eo_lss rfl rfl rfl) rfl ?_
      refine go_nil ?_
      refine gq_next ?_
      refine gc_cond rfl (fun hc39 => ?_) (fun hc39 => ?_)
      ·
        replace hc39 := of_decide_eq_true hc39
        refine gc_skip ?_
        refine gq_next ?_
        refine gc_seq ?_
        refine gc_block ?_
        refine gc_seq ?_
        refine gc_region ?_
        refine ne (eo_mv rfl rfl) rfl ?_
        refine ne (eo_mv rfl rfl) rfl ?_
        refine ne (eo_call rfl en50 rfl (fun W _ => rnear_c _ W)) rfl ?_
        refine ne (eo_sub rfl rfl rfl (by omega) (by omega)) rfl ?_
        refine ne (eo_as rfl rfl) rfl ?_
        refine go_nil ?_
        refine gq_next ?_
        refine gc_seq ?_
        refine gc_region ?_
        refine ne (eo_mv rfl rfl) rfl ?_
        refine ne (eo_mv rfl rfl) rfl ?_
        refine ne (eo_call rfl en50 rfl (fun W _ => rnear_c _ W)) rfl ?_
        refine ne (eo_sub rfl rfl rfl (by omega) (by omega)) rfl ?_
        refine ne (eo_as rfl rfl) rfl ?_
        refine go_nil ?_
        refine gq_next ?_
        refine gc_seq ?_
        refine gc_region ?_
        refine ne (by first | exact eo_loadA 0 rfl a24 rfl rfl rfl rfl | exact eo_loadA 1 rfl a24 rfl rfl rfl rfl | exact eo_loadA 2 rfl a24 rfl rfl rfl rfl | exact eo_loadA 3 rfl a24 rfl rfl rfl rfl | exact eo_loadA 4 rfl a24 rfl rfl rfl rfl | exact eo_loadA 5 rfl a24 rfl rfl rfl rfl) rfl ?_
        refine ne (eo_mv rfl rfl) rfl ?_
        refine ne (eo_mv rfl rfl) rfl ?_
        refine ne (eo_call rfl en32 rfl (fun W hO => rat_c _ _ _ _ _ _ _ _ W (hr.old0 hO))) rfl ?_
        refine ne (eo_as rfl rfl) rfl ?_
        refine go_nil ?_
        refine gq_next ?_
        refine gc_seq ?_
        refine gc_seq ?_
        refine gc_region ?_
        refine ne (eo_mv rfl rfl) rfl ?_
        refine ne (eo_geq rfl rfl rfl) rfl ?_
        refine ne (eo_mv rfl rfl) rfl ?_
        refine ng rfl rfl (fun h => eo_mv rfl rfl) rfl ?_
        refine ng rfl rfl (fun h => eo_field rfl f24_0 rfl) rfl ?_
        refine ng rfl rfl (fun h => by first | exact eo_load 0 rfl s3 (ev_if h rfl) rfl rfl rfl | exact eo_load 1 rfl s3 (ev_if h rfl) rfl rfl rfl | exact eo_load 2 rfl s3 (ev_if h rfl) rfl rfl rfl | exact eo_load 3 rfl s3 (ev_if h rfl) rfl rfl rfl | exact eo_load 4 rfl s3 (ev_if h rfl) rfl rfl rfl | exact eo_load 5 rfl s3 (ev_if h rfl) rfl rfl rfl) rfl ?_
        refine ng rfl rfl (fun h => eo_lss rfl (ev_if h rfl) (ev_if h rfl)) rfl ?_
        refine ne (eo_and rfl rfl (fun hb => ev_if hb rfl)) rfl ?_
        refine ne (eo_mv rfl rfl) rfl ?_
        refine ng rfl rfl (fun h => eo_mv rfl rfl) rfl ?_
        refine ng rfl rfl (fun h => eo_geq rfl (ev_if h rfl) rfl) rfl ?_
        refine ne (eo_and rfl rfl (fun hb => ev_if hb rfl)) rfl ?_
        refine ne (eo_mv rfl rfl) rfl ?_
        refine ng rfl rfl (fun h => eo_mv rfl rfl) rfl ?_
        refine ng rfl rfl (fun h => eo_field rfl f24_1 rfl) rfl ?_
        refine ng rfl rfl (fun h => by first | exact eo_load 0 rfl s3 (ev_if h rfl) rfl rfl rfl | exact eo_load 1 rfl s3 (ev_if h rfl) rfl rfl rfl | exact eo_load 2 rfl s3 (ev_if h rfl) rfl rfl rfl | exact eo_load 3 rfl s3 (ev_if h rfl) rfl rfl rfl | exact eo_load 4 rfl s3 (ev_if h rfl) rfl rfl rfl | exact eo_load 5 rfl s3 (ev_if h rfl) rfl rfl rfl) rfl ?_
        refine ng rfl rfl (fun h => eo_lss rfl (ev_if h rfl) (ev_if h rfl)) rfl ?_
        refine ne (eo_and rfl rfl (fun hb => ev_if hb rfl)) rfl ?_
        refine go_nil ?_
        refine gq_next ?_
        refine gc_cond rfl (fun hc71 => ?_) (fun hc71 => ?_)
        ·
          refine gc_region ?_
          refine ne (by first | exact eo_loadA 0 rfl a24 rfl rfl rfl rfl | exact eo_loadA 1 rfl a24 rfl rfl rfl rfl | exact eo_loadA 2 rfl a24 rfl rfl rfl rfl | exact eo_loadA 3 rfl a24 rfl rfl rfl rfl | exact eo_loadA 4 rfl a24 rfl rfl rfl rfl | exact eo_loadA 5 rfl a24 rfl rfl rfl rfl) rfl ?_
          refine ne (eo_mv rfl rfl) rfl ?_
          refine ne (eo_mv rfl rfl) rfl ?_
          refine ne (eo_call rfl en32 rfl (fun W hO => rat_c _ _ _ _ _ _ _ _ W (hr'.old0 hO))) rfl ?_
          refine ne (eo_as rfl rfl) rfl ?_
          refine go_nil ?_
          refine gq_next ?_
          refine gc_region ?_
          refine ne (eo_field rfl f24_2 rfl) rfl ?_
          refine ne (by first | exact eo_load 0 rfl s22 rfl rfl rfl rfl | exact eo_load 1 rfl s22 rfl rfl rfl rfl | exact eo_load 2 rfl s22 rfl rfl rfl rfl | exact eo_load 3 rfl s22 rfl rfl rfl rfl | exact eo_load 4 rfl s22 rfl rfl rfl rfl | exact eo_load 5 rfl s22 rfl rfl rfl rfl) rfl ?_
          refine ne (eo_mv rfl rfl) rfl ?_
          refine nx (xo_lit1 rfl Try.underlying22 e4 rfl rfl) rfl ?_
          rintro _ _ ⟨g79, rfl, rfl⟩
          refine nx (xo_app1b 5 rfl rfl Try.underlying22 e4 rfl hs rfl rfl (by
            unfold pasteF
            rw [(dm hk (by omega) (by omega)).1, (dm hk (by omega) (by omega)).2]
            simp only [Bool.and_eq_true, Bool.or_eq_true, Bool.and_eq_false_iff, Bool.or_eq_false_iff, Bool.not_eq_true', Bool.not_eq_false', Bool.not_eq_true, Bool.not_eq_false, decide_eq_true_eq, decide_eq_false_iff_not, ne_eq, Decidable.not_not, Bool.not_not, Int.not_lt, Int.not_le] at hc71
            first | rw [if_pos (by omega)] | rw [if_neg (by omega)]) (by omega)) rfl ?_
          rintro _ _ ⟨s1, hs1, rfl, rfl⟩
          refine ne (eo_field rfl f24_2 rfl) rfl ?_
          refine nu (by first | exact xo_store 0 rfl s22 rfl rfl (by first | rfl | exact AS.one) rfl rfl (by simp) | exact xo_store 1 rfl s22 rfl rfl (by first | rfl | exact AS.one) rfl rfl (by simp) | exact xo_store 2 rfl s22 rfl rfl (by first | rfl | exact AS.one) rfl rfl (by simp) | exact xo_store 3 rfl s22 rfl rfl (by first | rfl | exact AS.one) rfl rfl (by simp) | exact xo_store 4 rfl s22 rfl rfl (by first | rfl | exact AS.one) rfl rfl (by simp) | exact xo_store 5 rfl s22 rfl rfl (by first | rfl | exact AS.one) rfl rfl (by simp)) ?_
          rintro _ _ ⟨rfl, rfl⟩
          refine go_nil ?_
          refine gq_block_end ?_
          refine gq_next ?_
          refine gc_region ?_
          refine ne (eo_mv rfl rfl) rfl ?_
          refine ne (eo_add rfl rfl rfl (by omega) (by omega)) rfl ?_
          refine ne (eo_as rfl rfl) rfl ?_
          refine go_nil ?_
          exact round3 (i + 1) (k + 1) s1 ⟨by omega, by push_cast; omega, hs1⟩ (by omega) ⟨rfl, rfl, rfl, rfl, rfl, rfl, rfl, rfl, trivial⟩ (by first | exact List.Sublist.refl _ | exact List.Sublist.cons _ (List.Sublist.refl _) | exact List.Sublist.cons _ (List.Sublist.cons _ (List.Sublist.refl _)) | exact List.Sublist.cons _ (List.Sublist.cons _ (List.Sublist.cons _ (List.Sublist.refl _))) | exact List.Sublist.cons_cons _ (List.Sublist.cons _ (List.Sublist.refl _)))
        ·
          refine gc_skip ?_
          refine gq_next ?_
          refine gc_region ?_
          refine ne (eo_field rfl f24_2 rfl) rfl ?_
          refine ne (by first | exact eo_load 0 rfl s22 rfl rfl rfl rfl | exact eo_load 1 rfl s22 rfl rfl rfl rfl | exact eo_load 2 rfl s22 rfl rfl rfl rfl | exact eo_load 3 rfl s22 rfl rfl rfl rfl | exact eo_load 4 rfl s22 rfl rfl rfl rfl | exact eo_load 5 rfl s22 rfl rfl rfl rfl) rfl ?_
          refine ne (eo_mv rfl rfl) rfl ?_
          refine nx (xo_lit1 rfl Try.underlying22 e4 rfl rfl) rfl ?_
          rintro _ _ ⟨g79, rfl, rfl⟩
          refine nx (xo_app1b 5 rfl rfl Try.underlying22 e4 rfl hs rfl rfl (by
            unfold pasteF
            rw [(dm hk (by omega) (by omega)).1, (dm hk (by omega) (by omega)).2]
            simp only [Bool.and_eq_true, Bool.or_eq_true, Bool.and_eq_false_iff, Bool.or_eq_false_iff, Bool.not_eq_true', Bool.not_eq_false', Bool.not_eq_true, Bool.not_eq_false, decide_eq_true_eq, decide_eq_false_iff_not, ne_eq, Decidable.not_not, Bool.not_not, Int.not_lt, Int.not_le] at hc71
            first | rw [if_pos (by omega)] | rw [if_neg (by omega)]) (by omega)) rfl ?_
          rintro _ _ ⟨s1, hs1, rfl, rfl⟩
          refine ne (eo_field rfl f24_2 rfl) rfl ?_
          refine nu (by first | exact xo_store 0 rfl s22 rfl rfl (by first | rfl | exact AS.one) rfl rfl (by simp) | exact xo_store 1 rfl s22 rfl rfl (by first | rfl | exact AS.one) rfl rfl (by simp) | exact xo_store 2 rfl s22 rfl rfl (by first | rfl | exact AS.one) rfl rfl (by simp) | exact xo_store 3 rfl s22 rfl rfl (by first | rfl | exact AS.one) rfl rfl (by simp) | exact xo_store 4 rfl s22 rfl rfl (by first | rfl | exact AS.one) rfl rfl (by simp) | exact xo_store 5 rfl s22 rfl rfl (by first | rfl | exact AS.one) rfl rfl (by simp)) ?_
          rintro _ _ ⟨rfl, rfl⟩
          refine go_nil ?_
          refine gq_block_end ?_
          refine gq_next ?_
          refine gc_region ?_
          refine ne (eo_mv rfl rfl) rfl ?_
          refine ne (eo_add rfl rfl rfl (by omega) (by omega)) rfl ?_
          refine ne (eo_as rfl rfl) rfl ?_
          refine go_nil ?_
          exact round3 (i + 1) (k + 1) s1 ⟨by omega, by push_cast; omega, hs1⟩ (by omega) ⟨rfl, rfl, rfl, rfl, rfl, rfl, rfl, rfl, trivial⟩ (by first | exact List.Sublist.refl _ | exact List.Sublist.cons _ (List.Sublist.refl _) | exact List.Sublist.cons _ (List.Sublist.cons _ (List.Sublist.refl _)) | exact List.Sublist.cons _ (List.Sublist.cons _ (List.Sublist.cons _ (List.Sublist.refl _))) | exact List.Sublist.cons_cons _ (List.Sublist.cons _ (List.Sublist.refl _)))
      ·
        replace hc39 := of_decide_eq_false hc39
        refine gc_exit ?_
        refine gq_then_exit ?_
        refine gq_then_exit ?_
        refine gq_block_hit ?_
        refine gq_block_end ?_
        refine gq_next ?_
        refine gc_region ?_
        refine ne (eo_mv rfl rfl) rfl ?_
        refine ne (eo_add rfl rfl rfl (by omega) (by omega)) rfl ?_
        refine ne (eo_as rfl rfl) rfl ?_
        refine go_nil ?_
        exact round3 (j + 1) k s ⟨by omega, by rw [hk]; push_cast; rw [add1_mul]; omega, hs⟩ (by omega) ⟨rfl, rfl, rfl, rfl, rfl, rfl, rfl, trivial⟩ (by first | exact List.Sublist.refl _ | exact List.Sublist.cons _ (List.Sublist.refl _) | exact List.Sublist.cons _ (List.Sublist.cons _ (List.Sublist.refl _)) | exact List.Sublist.cons _ (List.Sublist.cons _ (List.Sublist.cons _ (List.Sublist.refl _))) | exact List.Sublist.cons_cons _ (List.Sublist.cons _ (List.Sublist.refl _)))
    ·
      replace hc33 := of_decide_eq_false hc33
      have hye : (j : Int) = H := by omega
      rw [hye, Int.mul_comm] at hk
      have hkn : k = n := by omega
      subst hkn
      refine gc_exit ?_
      refine gq_then_exit ?_
      refine gq_then_exit ?_
      refine gq_block_hit ?_
      refine gq_next ?_
      refine gc_seq ?_
      refine gc_region ?_
      refine ne (by first | exact eo_loadA 0 rfl a24 rfl rfl rfl rfl | exact eo_loadA 1 rfl a24 rfl rfl rfl rfl | exact eo_loadA 2 rfl a24 rfl rfl rfl rfl | exact eo_loadA 3 rfl a24 rfl rfl rfl rfl | exact eo_loadA 4 rfl a24 rfl rfl rfl rfl | exact eo_loadA 5 rfl a24 rfl rfl rfl rfl) rfl ?_
      refine nu (by first | exact xo_storeA 0 rfl a24 rfl rfl (ones_cons (by first | rfl | exact AS.one) (ones_cons (by first | rfl | exact AS.one) (ones_cons (by first | rfl | exact AS.one) ones_nil))) rfl rfl rfl rfl | exact xo_storeA 1 rfl a24 rfl rfl (ones_cons (by first | rfl | exact AS.one) (ones_cons (by first | rfl | exact AS.one) (ones_cons (by first | rfl | exact AS.one) ones_nil))) rfl rfl rfl rfl | exact xo_storeA 2 rfl a24 rfl rfl (ones_cons (by first | rfl | exact AS.one) (ones_cons (by first | rfl | exact AS.one) (ones_cons (by first | rfl | exact AS.one) ones_nil))) rfl rfl rfl rfl | exact xo_storeA 3 rfl a24 rfl rfl (ones_cons (by first | rfl | exact AS.one) (ones_cons (by first | rfl | exact AS.one) (ones_cons (by first | rfl | exact AS.one) ones_nil))) rfl rfl rfl rfl | exact xo_storeA 4 rfl a24 rfl rfl (ones_cons (by first | rfl | exact AS.one) (ones_cons (by first | rfl | exact AS.one) (ones_cons (by first | rfl | exact AS.one) ones_nil))) rfl rfl rfl rfl | exact xo_storeA 5 rfl a24 rfl rfl (ones_cons (by first | rfl | exact AS.one) (ones_cons (by first | rfl | exact AS.one) (ones_cons (by first | rfl | exact AS.one) ones_nil))) rfl rfl rfl rfl) ?_
      rintro _ _ ⟨rfl, rfl⟩
      refine ne (eo_as rfl rfl) rfl ?_
      refine go_nil ?_
      refine gq_next ?_
      refine gc_ret ?_
      refine gq_results (by first | exact resCT 0 rfl a24 rfl rfl rfl rfl rfl | exact resCT 1 rfl a24 rfl rfl rfl rfl rfl | exact resCT 2 rfl a24 rfl rfl rfl rfl rfl | exact resCT 3 rfl a24 rfl rfl rfl rfl rfl | exact resCT 4 rfl a24 rfl rfl rfl rfl rfl | exact resCT 5 rfl a24 rfl rfl rfl rfl rfl) ?_
      exact fun W' hO => re_of_as 4 hO rfl hs (by omega) (by omega)

/-- barscan/barscanref31.Paste -/
theorem rpaste_no (x y W H pW pH : Int) (A A' : Option Addr) (n c pn pc : Nat) (f p : Nat → Bool) (w : World) (_hr : Rd w A (tab n (bv f))) (_hr' : Rd w A' (tab pn (bv p))) (hb : (vldB W H n && vldB pW pH pn) = false) :
    Calls Try.prog 22 #[.agg #[.int .i64 W, .int .i64 H, .slice A n c], .agg #[.int .i64 pW, .int .i64 pH, .slice A' pn pc], .int .i64 x, .int .i64 y] w fun e w' => e = .returned (noM 1) ∧ Ext w w' := by
  refine calls_enter (N := ⟨83, []⟩) ([]) ([]) Try.func22 rfl rfl rfl (Ow.start _) ?_
  refine gc_seq ?_
  refine gc_region ?_
  refine nx (xo_boxA rfl rfl) rfl ?_
  rintro _ _ ⟨g4, rfl, rfl⟩
  refine nx (xo_boxA rfl rfl) rfl ?_
  rintro _ _ ⟨g5, rfl, rfl⟩
  refine nx (xo_alloc rfl z24) rfl ?_
  rintro _ _ ⟨g8, rfl, rfl⟩
  refine ne (eo_as rfl rfl) rfl ?_
  refine go_nil ?_
  refine gq_next ?_
  refine gc_seq ?_
  refine gc_seq ?_
  refine gc_region ?_
  refine ne (by first | exact eo_loadA 0 rfl a24 rfl rfl rfl rfl | exact eo_loadA 1 rfl a24 rfl rfl rfl rfl | exact eo_loadA 2 rfl a24 rfl rfl rfl rfl | exact eo_loadA 3 rfl a24 rfl rfl rfl rfl | exact eo_loadA 4 rfl a24 rfl rfl rfl rfl | exact eo_loadA 5 rfl a24 rfl rfl rfl rfl) rfl ?_
  refine ne (eo_call rfl en36 rfl (fun W _ => valid_c _ _ _ _ _ W)) rfl ?_
  refine ne (eo_not rfl rfl) rfl ?_
  refine ne (eo_mv rfl rfl) rfl ?_
  refine ng rfl rfl (fun h => by first | exact eo_loadA 0 rfl a24 rfl rfl rfl rfl | exact eo_loadA 1 rfl a24 rfl rfl rfl rfl | exact eo_loadA 2 rfl a24 rfl rfl rfl rfl | exact eo_loadA 3 rfl a24 rfl rfl rfl rfl | exact eo_loadA 4 rfl a24 rfl rfl rfl rfl | exact eo_loadA 5 rfl a24 rfl rfl rfl rfl) rfl ?_
  refine ng rfl rfl (fun h => eo_call rfl en36 (evs_cons (ev_if h rfl) evs_nil) (fun W _ => valid_c _ _ _ _ _ W)) rfl ?_
  refine ng rfl rfl (fun h => eo_not rfl (ev_if h rfl)) rfl ?_
  refine ne (eo_or rfl rfl (fun hb => ev_if hb rfl)) rfl ?_
  refine go_nil ?_
  refine gq_next ?_
  refine gc_cond rfl (fun hc23 => ?_) (fun hc23 => ?_)
  ·
    refine gc_seq ?_
    refine gc_region ?_
    refine ne (eo_build rfl rfl (b24_)) rfl ?_
    refine nu (by first | exact xo_storeA 0 rfl a24 rfl rfl (ones_cons (by first | rfl | exact AS.one) (ones_cons (by first | rfl | exact AS.one) (ones_cons (by first | rfl | exact AS.one) ones_nil))) rfl rfl rfl rfl | exact xo_storeA 1 rfl a24 rfl rfl (ones_cons (by first | rfl | exact AS.one) (ones_cons (by first | rfl | exact AS.one) (ones_cons (by first | rfl | exact AS.one) ones_nil))) rfl rfl rfl rfl | exact xo_storeA 2 rfl a24 rfl rfl (ones_cons (by first | rfl | exact AS.one) (ones_cons (by first | rfl | exact AS.one) (ones_cons (by first | rfl | exact AS.one) ones_nil))) rfl rfl rfl rfl | exact xo_storeA 3 rfl a24 rfl rfl (ones_cons (by first | rfl | exact AS.one) (ones_cons (by first | rfl | exact AS.one) (ones_cons (by first | rfl | exact AS.one) ones_nil))) rfl rfl rfl rfl | exact xo_storeA 4 rfl a24 rfl rfl (ones_cons (by first | rfl | exact AS.one) (ones_cons (by first | rfl | exact AS.one) (ones_cons (by first | rfl | exact AS.one) ones_nil))) rfl rfl rfl rfl | exact xo_storeA 5 rfl a24 rfl rfl (ones_cons (by first | rfl | exact AS.one) (ones_cons (by first | rfl | exact AS.one) (ones_cons (by first | rfl | exact AS.one) ones_nil))) rfl rfl rfl rfl) ?_
    rintro _ _ ⟨rfl, rfl⟩
    refine ne (eo_as rfl rfl) rfl ?_
    refine go_nil ?_
    refine gq_next ?_
    refine gc_ret ?_
    refine gq_then_ret ?_
    refine gq_results (by first | exact resCT 0 rfl a24 rfl rfl rfl rfl rfl | exact resCT 1 rfl a24 rfl rfl rfl rfl rfl | exact resCT 2 rfl a24 rfl rfl rfl rfl rfl | exact resCT 3 rfl a24 rfl rfl rfl rfl rfl | exact resCT 4 rfl a24 rfl rfl rfl rfl rfl | exact resCT 5 rfl a24 rfl rfl rfl rfl rfl) ?_
    exact fun W hO => ⟨rfl, hO.toExt⟩
  ·
    exact absurd hb (by simpa using hc23)

end Go.Proofs.Ytefblgildcaldaa
