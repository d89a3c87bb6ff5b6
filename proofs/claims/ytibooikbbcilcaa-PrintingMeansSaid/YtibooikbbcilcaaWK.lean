/-
  The walks of the functions of package printing and of the document's answer (part K): what each call returns, at every argument.
-/
import Derived.Test.YtibooikbbcilcaaWE
import Derived.Test.YtibooikbbcilcaaPc
import Derived.Test.YtibooikbbcilcaaPp
namespace Go.Proofs.Ytibooikbbcilcaa
open Go.RowKit Go.Eng

open Go.Bs
theorem en48 : Ent Try.prog 48 := ent_of Try.func48 (by kernel_rfl) rfl
theorem en49 : Ent Try.prog 49 := ent_of Try.func49 (by kernel_rfl) rfl
theorem en50 : Ent Try.prog 50 := ent_of Try.func50 (by kernel_rfl) rfl
theorem en56 : Ent Try.prog 56 := ent_of Try.func56 (by kernel_rfl) rfl
theorem en57 : Ent Try.prog 57 := ent_of Try.func57 (by kernel_rfl) rfl

/-- slices.Clone[[]bool,bool] -/
theorem clone_c (A : Option Addr) (n c : Nat) (xs : List Value) (w : World) (hr : Rd w A xs) (hn : xs.length = n) (h1 : ∀ u ∈ xs, u.oneCell' = true) (hb : n ≤ 1073741824) :
    Calls Try.prog 48 #[.slice A n c] w fun e w' => ∃ v Hn, e = .returned v ∧ RApp [] 4 1 n xs v Hn ∧ Ow [] w w' Hn := by
  refine calls_enter (N := ⟨8, []⟩) ([]) ([]) Try.func48 rfl rfl rfl (Ow.start _) ?_
  refine gc_seq ?_
  refine gc_region ?_
  refine ne (eo_as rfl rfl) rfl ?_
  refine go_nil ?_
  refine gq_next ?_
  refine gc_seq ?_
  refine gc_seq ?_
  refine gc_region ?_
  refine ne (eo_mv rfl rfl) rfl ?_
  refine ne (eo_slnil rfl rfl Try.underlying31) rfl ?_
  refine go_nil ?_
  refine gq_next ?_
  refine gc_cond rfl (fun hc4 => ?_) (fun hc4 => ?_)
  ·
    refine gc_seq ?_
    refine gc_region ?_
    refine ne (eo_as rfl rfl) rfl ?_
    refine go_nil ?_
    refine gq_next ?_
    refine gc_ret ?_
    refine gq_then_ret ?_
    refine gq_results (res1 rfl rfl) ?_
    first
      | exact fun W' hO => ⟨_, _, rfl, ⟨s, by simpa using hs, by simp, rfl⟩, hO⟩
      | exact fun W' hO => ⟨_, _, rfl, clone_nil hr hn hc4, hO⟩
  ·
    refine gc_skip ?_
    refine gq_next ?_
    refine gc_seq ?_
    refine gc_region ?_
    refine nx (xo_lit rfl rfl (lit31_0)) rfl ?_
    rintro _ _ ⟨g5, rfl, rfl⟩
    refine ne (eo_mv rfl rfl) rfl ?_
    refine nx (xo_append (s := .at_ g5 [] 0) (xs := []) (news := xs) (n := 0) [] rfl rfl Try.underlying31 e4.toN rfl ⟨by omega, by decide, rfl, rfl⟩ rfl (by omega) (fun W hO => hr.old0 hO) h1 (by simp only [maxLen]; omega) (by omega)) rfl ?_
    rintro _ _ ⟨s, hs, rfl, rfl⟩
    refine ne (eo_as rfl rfl) rfl ?_
    refine go_nil ?_
    refine gq_next ?_
    refine gc_ret ?_
    refine gq_results (res1 rfl rfl) ?_
    first
      | exact fun W' hO => ⟨_, _, rfl, ⟨s, by simpa using hs, by simp, rfl⟩, hO⟩
      | exact fun W' hO => ⟨_, _, rfl, clone_nil hr hn hc4, hO⟩

/-- barscan/raster.quarters -/
theorem quarters_c (t : Int) (w : World) :
    Calls Try.prog 49 #[.int .i64 t] w fun e w' => e = .returned (.int .i64 (t % 4)) ∧ Ext w w' := by
  have hq := tmod_bd t
  refine calls_enter (N := ⟨7, []⟩) ([]) ([]) Try.func49 rfl rfl rfl (Ow.start _) ?_
  refine gc_seq ?_
  refine gc_region ?_
  refine ne (eo_as rfl rfl) rfl ?_
  refine go_nil ?_
  refine gq_next ?_
  refine gc_seq ?_
  refine gc_region ?_
  refine ne (eo_mv rfl rfl) rfl ?_
  refine ne (eo_trem rfl rfl rfl (by omega)) rfl ?_
  refine ne (eo_add rfl rfl rfl (by omega) (by omega)) rfl ?_
  refine ne (eo_rem rfl rfl rfl (by omega) (by omega)) rfl ?_
  refine ne (eo_as rfl rfl) rfl ?_
  refine go_nil ?_
  refine gq_next ?_
  refine gc_ret ?_
  refine gq_results (res1 rfl rfl) ?_
  exact fun W hO => ⟨ret_int (quart_eq t), hO.toExt⟩

/-- barscan/barscanref31.quarters -/
theorem rquarters_c (t : Int) (w : World) :
    Calls Try.prog 56 #[.int .i64 t] w fun e w' => e = .returned (.int .i64 (t % 4)) ∧ Ext w w' := by
  have hq := tmod_bd t
  refine calls_enter (N := ⟨7, []⟩) ([]) ([]) Try.func56 rfl rfl rfl (Ow.start _) ?_
  refine gc_seq ?_
  refine gc_region ?_
  refine ne (eo_as rfl rfl) rfl ?_
  refine go_nil ?_
  refine gq_next ?_
  refine gc_seq ?_
  refine gc_region ?_
  refine ne (eo_mv rfl rfl) rfl ?_
  refine ne (eo_trem rfl rfl rfl (by omega)) rfl ?_
  refine ne (eo_add rfl rfl rfl (by omega) (by omega)) rfl ?_
  refine ne (eo_rem rfl rfl rfl (by omega) (by omega)) rfl ?_
  refine ne (eo_as rfl rfl) rfl ?_
  refine go_nil ?_
  refine gq_next ?_
  refine gc_ret ?_
  refine gq_results (res1 rfl rfl) ?_
  exact fun W hO => ⟨ret_int (quart_eq t), hO.toExt⟩

/-- barscan/raster.turned[bool] -/
theorem turned_c (wd h : Int) (A : Option Addr) (n c : Nat) (f : Nat → Bool) (w : World) (hv : vldB wd h n = true) (hr : Rd w A (tab n (bv f))) :
    Calls Try.prog 50 #[.slice A n c, .int .i64 wd, .int .i64 h] w fun e w' => ∃ v Hn, e = .returned v ∧ RS 4 n (bv (turnF wd h f)) v Hn ∧ Ow [] w w' Hn := by
  obtain ⟨v1, v2, v3, v4, v5, v6⟩ := vldB_iff.1 hv
  refine calls_enter (N := ⟨42, []⟩) ([]) ([]) Try.func50 rfl rfl rfl (Ow.start _) ?_
  refine gc_seq ?_
  refine gc_region ?_
  refine ne (eo_as rfl rfl) rfl ?_
  refine go_nil ?_
  refine gq_next ?_
  refine gc_seq ?_
  refine gc_region ?_
  refine ne (eo_mv rfl rfl) rfl ?_
  refine ne (eo_len rfl Try.underlying31 rfl) rfl ?_
  refine nx (xo_makeb rfl Try.underlying31 e4 rfl rfl (by omega) (by omega) (by omega)) rfl ?_
  rintro _ _ ⟨g12, rfl, rfl⟩
  refine ne (eo_as rfl rfl) rfl ?_
  refine go_nil ?_
  refine gq_next ?_
  refine gc_seq ?_
  refine gc_seq ?_
  refine gc_region ?_
  refine ne (eo_mv rfl rfl) rfl ?_
  refine ne (eo_mv rfl rfl) rfl ?_
  refine go_nil ?_
  refine gq_next ?_
  refine gc_block ?_
  refine loop2 (fun (y : Nat) (f1 : Nat → Bool) => (y : Int) ≤ h ∧ ∀ j : Nat, j < n → f1 j = if h - 1 - (j : Int) % h < (y : Int) then turnF wd h f j else false) (fun (y : Nat) (f1 : Nat → Bool) => (h - y).toNat) (fun (y : Nat) (f1 : Nat → Bool) => [(0, .slice A n c), (1, .int .i64 wd), (2, .int .i64 h), (7, .slice (some ⟨g12, 0, none⟩) n n), (13, .int .i64 h), (14, .int .i64 y)]) (fun (y : Nat) (f1 : Nat → Bool) => [⟨g12, 4, tab n (bv f1) ++ []⟩]) 0 (fun _ => false) ⟨by omega, fun j _ => by rw [if_neg]; have := Int.emod_lt_of_pos (j : Int) (show 0 < h by omega); omega⟩ ⟨rfl, rfl, rfl, rfl, rfl, rfl, trivial⟩ (by first | exact List.Sublist.refl _ | exact List.Sublist.cons _ (List.Sublist.refl _) | exact List.Sublist.cons _ (List.Sublist.cons _ (List.Sublist.refl _)) | exact List.Sublist.cons _ (List.Sublist.cons _ (List.Sublist.cons _ (List.Sublist.refl _))) | exact List.Sublist.cons_cons _ (List.Sublist.cons _ (List.Sublist.refl _))) ?_
  rintro y f1 ⟨hy, hI⟩
  refine gc_seq ?_
  refine gc_region ?_
  refine ne (eo_lss rfl rfl rfl) rfl ?_
  refine go_nil ?_
  refine gq_next ?_
  refine gc_seq ?_
  refine gc_cond rfl (fun hc15 => ?_) (fun hc15 => ?_)
  ·
    replace hc15 := of_decide_eq_true hc15
    refine gc_skip ?_
    refine gq_next ?_
    refine gc_seq ?_
    refine gc_block ?_
    refine gc_seq ?_
    refine gc_region ?_
    refine ne (eo_mv rfl rfl) rfl ?_
    refine ne (eo_as rfl rfl) rfl ?_
    refine go_nil ?_
    refine gq_next ?_
    refine gc_seq ?_
    refine gc_region ?_
    refine ne (eo_mv rfl rfl) rfl ?_
    refine ne (eo_mv rfl rfl) rfl ?_
    refine go_nil ?_
    refine gq_next ?_
    refine gc_block ?_
    refine loop2 (fun (x : Nat) (f1 : Nat → Bool) => (x : Int) ≤ wd ∧ ∀ j : Nat, j < n → f1 j = if h - 1 - (j : Int) % h < (y : Int) ∨ h - 1 - (j : Int) % h = (y : Int) ∧ (j : Int) / h < (x : Int) then turnF wd h f j else false) (fun (x : Nat) (f1 : Nat → Bool) => (wd - x).toNat) (fun (x : Nat) (f1 : Nat → Bool) => [(0, .slice A n c), (1, .int .i64 wd), (2, .int .i64 h), (7, .slice (some ⟨g12, 0, none⟩) n n), (13, .int .i64 h), (14, .int .i64 y), (8, .int .i64 y), (17, .int .i64 wd), (18, .int .i64 x)]) (fun (x : Nat) (f1 : Nat → Bool) => [⟨g12, 4, tab n (bv f1) ++ []⟩]) 0 f1 ⟨by omega, turn_in (by omega) hI⟩ ⟨rfl, rfl, rfl, rfl, rfl, rfl, rfl, rfl, rfl, trivial⟩ (by first | exact List.Sublist.refl _ | exact List.Sublist.cons _ (List.Sublist.refl _) | exact List.Sublist.cons _ (List.Sublist.cons _ (List.Sublist.refl _)) | exact List.Sublist.cons _ (List.Sublist.cons _ (List.Sublist.cons _ (List.Sublist.refl _))) | exact List.Sublist.cons_cons _ (List.Sublist.cons _ (List.Sublist.refl _))) ?_
    rintro x f1 ⟨hx, hI⟩
    refine gc_seq ?_
    refine gc_region ?_
    refine ne (eo_lss rfl rfl rfl) rfl ?_
    refine go_nil ?_
    refine gq_next ?_
    refine gc_seq ?_
    refine gc_cond rfl (fun hc19 => ?_) (fun hc19 => ?_)
    ·
      replace hc19 := of_decide_eq_true hc19
      refine gc_skip ?_
      refine gq_next ?_
      refine gc_seq ?_
      refine gc_block ?_
      refine gc_seq ?_
      refine gc_region ?_
      refine ne (eo_mv rfl rfl) rfl ?_
      refine ne (eo_as rfl rfl) rfl ?_
      refine go_nil ?_
      refine gq_next ?_
      refine gc_region ?_
      have hb := idx_bd (W := wd) (H := h) (x := x) (y := y) (by omega) (by omega) (by omega) (by omega)
      have hb2 := idx_bd (W := h) (H := wd) (x := h - 1 - y) (y := x) (by omega) (by omega) (by omega) (by omega)
      rw [Int.mul_comm h wd] at hb2
      refine ne (eo_mv rfl rfl) rfl ?_
      refine ne (eo_mv rfl rfl) rfl ?_
      refine ne (eo_mv rfl rfl) rfl ?_
      refine ne (eo_mul rfl rfl rfl (by omega) (by omega)) rfl ?_
      refine ne (eo_mv rfl rfl) rfl ?_
      refine ne (eo_add rfl rfl rfl (by omega) (by omega)) rfl ?_
      refine ne (eo_sub rfl rfl rfl (by omega) (by omega)) rfl ?_
      refine ne (eo_mv rfl rfl) rfl ?_
      refine ne (eo_sub rfl rfl rfl (by omega) (by omega)) rfl ?_
      refine ne (eo_mv rfl rfl) rfl ?_
      refine ne (eo_mv rfl rfl) rfl ?_
      refine ne (eo_mv rfl rfl) rfl ?_
      refine ne (eo_mul rfl rfl rfl (by omega) (by omega)) rfl ?_
      refine ne (eo_mv rfl rfl) rfl ?_
      refine ne (eo_add rfl rfl rfl (by omega) (by omega)) rfl ?_
      refine ne (by first | exact eo_indexR rfl sl31 rfl rfl hr (by simp) (by omega) (by omega) | exact eo_index0 rfl sl31 rfl rfl (by omega) (by omega) | exact eo_index rfl sl31 rfl rfl (by omega) (by omega)) rfl ?_
      refine ne (by first | exact eo_load_old rfl s4 rfl (Rd.tabb hr (by omega)) (by simp) | exact eo_getb 0 rfl s4 rfl rfl (by omega) | exact eo_getb 1 rfl s4 rfl rfl (by omega) | exact eo_getb 2 rfl s4 rfl rfl (by omega) | exact eo_getb 3 rfl s4 rfl rfl (by omega) | exact eo_getb 4 rfl s4 rfl rfl (by omega) | exact eo_getb 5 rfl s4 rfl rfl (by omega)) rfl ?_
      refine ne (by first | exact eo_index0 rfl sl31 rfl rfl (by omega) (by omega) | exact eo_index rfl sl31 rfl rfl (by omega) (by omega)) rfl ?_
      refine nu (by first | exact xo_setb 0 rfl s4 rfl rfl rfl (by omega) | exact xo_setb 1 rfl s4 rfl rfl rfl (by omega) | exact xo_setb 2 rfl s4 rfl rfl rfl (by omega) | exact xo_setb 3 rfl s4 rfl rfl rfl (by omega) | exact xo_setb 4 rfl s4 rfl rfl rfl (by omega) | exact xo_setb 5 rfl s4 rfl rfl rfl (by omega)) ?_
      rintro _ _ ⟨rfl, rfl⟩
      refine go_nil ?_
      refine gq_block_end ?_
      refine gq_next ?_
      refine gc_region ?_
      refine ne (eo_add rfl rfl rfl (by omega) (by omega)) rfl ?_
      refine ne (eo_mv rfl rfl) rfl ?_
      refine go_nil ?_
      exact round2 (x + 1) _ ⟨by omega, turn_step (by omega) (by omega) (by omega) hI⟩ (by omega) ⟨rfl, rfl, rfl, rfl, rfl, rfl, rfl, rfl, rfl, trivial⟩ (by first | exact List.Sublist.refl _ | exact List.Sublist.cons _ (List.Sublist.refl _) | exact List.Sublist.cons _ (List.Sublist.cons _ (List.Sublist.refl _)) | exact List.Sublist.cons _ (List.Sublist.cons _ (List.Sublist.cons _ (List.Sublist.refl _))) | exact List.Sublist.cons_cons _ (List.Sublist.cons _ (List.Sublist.refl _)))
    ·
      replace hc19 := of_decide_eq_false hc19
      refine gc_exit ?_
      refine gq_then_exit ?_
      refine gq_then_exit ?_
      refine gq_block_hit ?_
      refine gq_block_end ?_
      refine gq_next ?_
      refine gc_region ?_
      refine ne (eo_add rfl rfl rfl (by omega) (by omega)) rfl ?_
      refine ne (eo_mv rfl rfl) rfl ?_
      refine go_nil ?_
      exact round2 (y + 1) f1 ⟨by omega, turn_row (by omega) v6 (by omega) hI⟩ (by omega) ⟨rfl, rfl, rfl, rfl, rfl, rfl, trivial⟩ (by first | exact List.Sublist.refl _ | exact List.Sublist.cons _ (List.Sublist.refl _) | exact List.Sublist.cons _ (List.Sublist.cons _ (List.Sublist.refl _)) | exact List.Sublist.cons _ (List.Sublist.cons _ (List.Sublist.cons _ (List.Sublist.refl _))) | exact List.Sublist.cons_cons _ (List.Sublist.cons _ (List.Sublist.refl _)))
  ·
    replace hc15 := of_decide_eq_false hc15
    refine gc_exit ?_
    refine gq_then_exit ?_
    refine gq_then_exit ?_
    refine gq_block_hit ?_
    refine gq_next ?_
    refine gc_seq ?_
    refine gc_region ?_
    refine ne (eo_mv rfl rfl) rfl ?_
    refine ne (eo_as rfl rfl) rfl ?_
    refine go_nil ?_
    refine gq_next ?_
    refine gc_ret ?_
    refine gq_results (res1 rfl rfl) ?_
    rw [show tab n (bv f1) = tab n (bv (turnF wd h f)) from tabb_ext fun j hj => turn_done (by omega) (by omega) hI j hj]
    exact fun W1 hO => ⟨_, _, rfl, ⟨_, _, _, rfl, rfl, by omega⟩, hO.pick 0 rfl⟩

/-- barscan/raster.Turn -/
theorem turn_ok (t W H : Int) (A : Option Addr) (n c : Nat) (f : Nat → Bool) (w : World) (hr : Rd w A (tab n (bv f))) (hv : vldB W H n = true) :
    Calls Try.prog 28 #[.agg #[.int .i64 W, .int .i64 H, .slice A n c], .int .i64 t] w fun e w' => ∃ v Hn, e = .returned v ∧ RE 4 (tW (t % 4).toNat W H) (tW (t % 4).toNat H W) n (tF (t % 4).toNat W H f) v Hn ∧ Ow [] w w' Hn := by
  obtain ⟨v1, v2, v3, v4, v5, v6⟩ := vldB_iff.1 hv
  have hb := fits_bd (a := W) (b := H) (by simp only [vldB, Bool.and_eq_true] at hv; exact hv.1)
  refine calls_enter (N := ⟨35, []⟩) ([]) ([]) Try.func28 rfl rfl rfl (Ow.start _) ?_
  refine gc_seq ?_
  refine gc_region ?_
  refine nx (xo_boxA rfl rfl) rfl ?_
  rintro _ _ ⟨g2, rfl, rfl⟩
  refine nx (xo_alloc rfl z33) rfl ?_
  rintro _ _ ⟨g4, rfl, rfl⟩
  refine ne (eo_as rfl rfl) rfl ?_
  refine go_nil ?_
  refine gq_next ?_
  refine gc_seq ?_
  refine gc_seq ?_
  refine gc_region ?_
  refine ne (by first | exact eo_loadA 0 rfl a33 rfl rfl rfl rfl | exact eo_loadA 1 rfl a33 rfl rfl rfl rfl | exact eo_loadA 2 rfl a33 rfl rfl rfl rfl | exact eo_loadA 3 rfl a33 rfl rfl rfl rfl | exact eo_loadA 4 rfl a33 rfl rfl rfl rfl | exact eo_loadA 5 rfl a33 rfl rfl rfl rfl) rfl ?_
  refine ne (eo_call rfl en35 rfl (fun W _ => check_c _ _ _ _ _ W)) rfl ?_
  refine ne (eo_as rfl rfl) rfl ?_
  refine go_nil ?_
  refine gq_next ?_
  refine gc_seq ?_
  refine gc_region ?_
  refine ne (eo_mv rfl rfl) rfl ?_
  refine ne (eo_neq rfl rfl rfl) rfl ?_
  refine go_nil ?_
  refine gq_next ?_
  refine gc_cond rfl (fun hc10 => ?_) (fun hc10 => ?_)
  ·
    replace hc10 := of_decide_eq_true hc10
    exact absurd hc10 (by rw [chk_ok hv]; decide)
  ·
    replace hc10 := of_decide_eq_false hc10
    refine gc_skip ?_
    refine gq_next ?_
    refine gc_seq ?_
    refine gc_region ?_
    refine ne (eo_field rfl f33_2 rfl) rfl ?_
    refine ne (by first | exact eo_load 0 rfl s31 rfl rfl rfl rfl | exact eo_load 1 rfl s31 rfl rfl rfl rfl | exact eo_load 2 rfl s31 rfl rfl rfl rfl | exact eo_load 3 rfl s31 rfl rfl rfl rfl | exact eo_load 4 rfl s31 rfl rfl rfl rfl | exact eo_load 5 rfl s31 rfl rfl rfl rfl) rfl ?_
    refine nx (xo_fresh rfl en48 rfl (fun W hO => clone_c _ _ _ _ W (hr.old0 hO) (by simp) tab_oneb (by omega))) rfl ?_
    rintro _ _ ⟨_, hRa, rfl⟩
    obtain ⟨gk, ck, spk, rfl, rfl, hck⟩ := RApp.at_ hRa (by omega)
    refine ne (eo_field rfl f33_2 rfl) rfl ?_
    refine nu (by first | exact xo_store 0 rfl s31 rfl rfl (by first | rfl | exact AS.one) rfl rfl (by simp) | exact xo_store 1 rfl s31 rfl rfl (by first | rfl | exact AS.one) rfl rfl (by simp) | exact xo_store 2 rfl s31 rfl rfl (by first | rfl | exact AS.one) rfl rfl (by simp) | exact xo_store 3 rfl s31 rfl rfl (by first | rfl | exact AS.one) rfl rfl (by simp) | exact xo_store 4 rfl s31 rfl rfl (by first | rfl | exact AS.one) rfl rfl (by simp) | exact xo_store 5 rfl s31 rfl rfl (by first | rfl | exact AS.one) rfl rfl (by simp)) ?_
    rintro _ _ ⟨rfl, rfl⟩
    refine go_nil ?_
    refine gq_next ?_
    refine gc_seq ?_
    refine gc_seq ?_
    refine gc_region ?_
    refine ne (eo_mv rfl rfl) rfl ?_
    refine ne (eo_call rfl en49 rfl (fun W _ => quarters_c _ W)) rfl ?_
    refine ne (eo_mv rfl rfl) rfl ?_
    refine go_nil ?_
    refine gq_next ?_
    refine gc_block ?_
    refine loop4 (fun (i gk ck : Nat) (sp : List Value) => (i : Int) ≤ t % 4 ∧ n ≤ ck) (fun (i gk ck : Nat) (sp : List Value) => (t % 4 - i).toNat) (fun (i gk ck : Nat) (sp : List Value) => [(2, .pointer (some ⟨g2, 0, none⟩)), (4, .pointer (some ⟨g4, 0, none⟩)), (18, .int .i64 (t % 4)), (19, .int .i64 i)]) (fun (i gk ck : Nat) (sp : List Value) => [⟨gk, 4, tab n (bv (tF i W H f)) ++ sp⟩, ⟨g4, 33, [.int .i64 0, .int .i64 0, .slice none 0 0]⟩, ⟨g2, 33, [.int .i64 (tW i W H), .int .i64 (tW i H W), .slice (some ⟨gk, 0, none⟩) n ck]⟩]) 0 gk ck spk ⟨by omega, hck⟩ ⟨rfl, rfl, rfl, rfl, trivial⟩ (by first | exact List.Sublist.refl _ | exact List.Sublist.cons _ (List.Sublist.refl _) | exact List.Sublist.cons _ (List.Sublist.cons _ (List.Sublist.refl _)) | exact List.Sublist.cons _ (List.Sublist.cons _ (List.Sublist.cons _ (List.Sublist.refl _))) | exact List.Sublist.cons_cons _ (List.Sublist.cons _ (List.Sublist.refl _))) ?_
    rintro i gk ck sp ⟨hi, hck⟩
    refine gc_seq ?_
    refine gc_region ?_
    refine ne (eo_lss rfl rfl rfl) rfl ?_
    refine go_nil ?_
    refine gq_next ?_
    refine gc_seq ?_
    refine gc_cond rfl (fun hc20 => ?_) (fun hc20 => ?_)
    ·
      replace hc20 := of_decide_eq_true hc20
      refine gc_skip ?_
      refine gq_next ?_
      refine gc_seq ?_
      refine gc_block ?_
      refine gc_draw [] [0, 1, 2, 3, 4, 5, 6, 7, 8, 9] [10, 11] [12] (by kernel_rfl) (by kernel_rfl) ?_
      refine gp_nil ?_
      refine de rfl (eo_field rfl f33_1 rfl) rfl ?_
      refine de rfl (by first | exact eo_load 0 rfl s3 rfl rfl rfl rfl | exact eo_load 1 rfl s3 rfl rfl rfl rfl | exact eo_load 2 rfl s3 rfl rfl rfl rfl | exact eo_load 3 rfl s3 rfl rfl rfl rfl | exact eo_load 4 rfl s3 rfl rfl rfl rfl | exact eo_load 5 rfl s3 rfl rfl rfl rfl) rfl ?_
      refine de rfl (eo_field rfl f33_0 rfl) rfl ?_
      refine de rfl (by first | exact eo_load 0 rfl s3 rfl rfl rfl rfl | exact eo_load 1 rfl s3 rfl rfl rfl rfl | exact eo_load 2 rfl s3 rfl rfl rfl rfl | exact eo_load 3 rfl s3 rfl rfl rfl rfl | exact eo_load 4 rfl s3 rfl rfl rfl rfl | exact eo_load 5 rfl s3 rfl rfl rfl rfl) rfl ?_
      refine de rfl (eo_field rfl f33_2 rfl) rfl ?_
      refine de rfl (by first | exact eo_load 0 rfl s31 rfl rfl rfl rfl | exact eo_load 1 rfl s31 rfl rfl rfl rfl | exact eo_load 2 rfl s31 rfl rfl rfl rfl | exact eo_load 3 rfl s31 rfl rfl rfl rfl | exact eo_load 4 rfl s31 rfl rfl rfl rfl | exact eo_load 5 rfl s31 rfl rfl rfl rfl) rfl ?_
      refine de rfl (eo_field rfl f33_0 rfl) rfl ?_
      refine de rfl (by first | exact eo_load 0 rfl s3 rfl rfl rfl rfl | exact eo_load 1 rfl s3 rfl rfl rfl rfl | exact eo_load 2 rfl s3 rfl rfl rfl rfl | exact eo_load 3 rfl s3 rfl rfl rfl rfl | exact eo_load 4 rfl s3 rfl rfl rfl rfl | exact eo_load 5 rfl s3 rfl rfl rfl rfl) rfl ?_
      refine de rfl (eo_field rfl f33_1 rfl) rfl ?_
      refine de rfl (by first | exact eo_load 0 rfl s3 rfl rfl rfl rfl | exact eo_load 1 rfl s3 rfl rfl rfl rfl | exact eo_load 2 rfl s3 rfl rfl rfl rfl | exact eo_load 3 rfl s3 rfl rfl rfl rfl | exact eo_load 4 rfl s3 rfl rfl rfl rfl | exact eo_load 5 rfl s3 rfl rfl rfl rfl) rfl ?_
      refine ge_nil ?_
      refine da rfl (xo_fresh rfl en50 rfl (fun W' hO => turned_c _ _ _ _ _ _ W' (vld_turns hv) (tabs_rd hO 0 rfl))) rfl ?_
      rintro _ _ ⟨_, ⟨g2k, c2k, sp2, rfl, rfl, h2k⟩, rfl⟩
      refine ⟨(by first | exact List.Sublist.refl _ | exact List.Sublist.cons _ (List.Sublist.refl _) | exact List.Sublist.cons _ (List.Sublist.cons _ (List.Sublist.refl _)) | exact List.Sublist.cons _ (List.Sublist.cons _ (List.Sublist.cons _ (List.Sublist.refl _))) | exact List.Sublist.cons_cons _ (List.Sublist.cons _ (List.Sublist.refl _))), ?_⟩
      refine da rfl (xo_of_eo (eo_build rfl rfl (b33_012 _ _ _ _ _))) rfl ?_
      rintro _ _ ⟨rfl, rfl⟩
      refine ⟨(by first | exact List.Sublist.refl _ | exact List.Sublist.cons _ (List.Sublist.refl _) | exact List.Sublist.cons _ (List.Sublist.cons _ (List.Sublist.refl _)) | exact List.Sublist.cons _ (List.Sublist.cons _ (List.Sublist.cons _ (List.Sublist.refl _))) | exact List.Sublist.cons_cons _ (List.Sublist.cons _ (List.Sublist.refl _))), ?_⟩
      refine ga_nil ?_
      refine iu rfl (by first | exact xo_storeA 0 rfl a33 rfl rfl (ones_cons (by first | rfl | exact AS.one) (ones_cons (by first | rfl | exact AS.one) (ones_cons (by first | rfl | exact AS.one) ones_nil))) rfl rfl rfl rfl | exact xo_storeA 1 rfl a33 rfl rfl (ones_cons (by first | rfl | exact AS.one) (ones_cons (by first | rfl | exact AS.one) (ones_cons (by first | rfl | exact AS.one) ones_nil))) rfl rfl rfl rfl | exact xo_storeA 2 rfl a33 rfl rfl (ones_cons (by first | rfl | exact AS.one) (ones_cons (by first | rfl | exact AS.one) (ones_cons (by first | rfl | exact AS.one) ones_nil))) rfl rfl rfl rfl | exact xo_storeA 3 rfl a33 rfl rfl (ones_cons (by first | rfl | exact AS.one) (ones_cons (by first | rfl | exact AS.one) (ones_cons (by first | rfl | exact AS.one) ones_nil))) rfl rfl rfl rfl | exact xo_storeA 4 rfl a33 rfl rfl (ones_cons (by first | rfl | exact AS.one) (ones_cons (by first | rfl | exact AS.one) (ones_cons (by first | rfl | exact AS.one) ones_nil))) rfl rfl rfl rfl | exact xo_storeA 5 rfl a33 rfl rfl (ones_cons (by first | rfl | exact AS.one) (ones_cons (by first | rfl | exact AS.one) (ones_cons (by first | rfl | exact AS.one) ones_nil))) rfl rfl rfl rfl) ?_
      rintro _ _ ⟨rfl, rfl⟩
      refine gi_nil ?_
      refine gq_nq ?_
      refine gq_block_end ?_
      refine gq_next ?_
      refine gc_region ?_
      refine ne (eo_add rfl rfl rfl (by omega) (by omega)) rfl ?_
      refine ne (eo_mv rfl rfl) rfl ?_
      refine go_nil ?_
      exact round4 (i + 1) g2k c2k sp2 ⟨by omega, h2k⟩ (by omega) ⟨rfl, rfl, rfl, rfl, trivial⟩ (by first | exact List.Sublist.refl _ | exact List.Sublist.cons _ (List.Sublist.refl _) | exact List.Sublist.cons _ (List.Sublist.cons _ (List.Sublist.refl _)) | exact List.Sublist.cons _ (List.Sublist.cons _ (List.Sublist.cons _ (List.Sublist.refl _))) | exact List.Sublist.cons_cons _ (List.Sublist.cons _ (List.Sublist.refl _)))
    ·
      replace hc20 := of_decide_eq_false hc20
      have hie : (t % 4).toNat = i := by omega
      rw [hie]
      refine gc_exit ?_
      refine gq_then_exit ?_
      refine gq_then_exit ?_
      refine gq_block_hit ?_
      refine gq_next ?_
      refine gc_seq ?_
      refine gc_region ?_
      refine ne (by first | exact eo_loadA 0 rfl a33 rfl rfl rfl rfl | exact eo_loadA 1 rfl a33 rfl rfl rfl rfl | exact eo_loadA 2 rfl a33 rfl rfl rfl rfl | exact eo_loadA 3 rfl a33 rfl rfl rfl rfl | exact eo_loadA 4 rfl a33 rfl rfl rfl rfl | exact eo_loadA 5 rfl a33 rfl rfl rfl rfl) rfl ?_
      refine nu (by first | exact xo_storeA 0 rfl a33 rfl rfl (ones_cons (by first | rfl | exact AS.one) (ones_cons (by first | rfl | exact AS.one) (ones_cons (by first | rfl | exact AS.one) ones_nil))) rfl rfl rfl rfl | exact xo_storeA 1 rfl a33 rfl rfl (ones_cons (by first | rfl | exact AS.one) (ones_cons (by first | rfl | exact AS.one) (ones_cons (by first | rfl | exact AS.one) ones_nil))) rfl rfl rfl rfl | exact xo_storeA 2 rfl a33 rfl rfl (ones_cons (by first | rfl | exact AS.one) (ones_cons (by first | rfl | exact AS.one) (ones_cons (by first | rfl | exact AS.one) ones_nil))) rfl rfl rfl rfl | exact xo_storeA 3 rfl a33 rfl rfl (ones_cons (by first | rfl | exact AS.one) (ones_cons (by first | rfl | exact AS.one) (ones_cons (by first | rfl | exact AS.one) ones_nil))) rfl rfl rfl rfl | exact xo_storeA 4 rfl a33 rfl rfl (ones_cons (by first | rfl | exact AS.one) (ones_cons (by first | rfl | exact AS.one) (ones_cons (by first | rfl | exact AS.one) ones_nil))) rfl rfl rfl rfl | exact xo_storeA 5 rfl a33 rfl rfl (ones_cons (by first | rfl | exact AS.one) (ones_cons (by first | rfl | exact AS.one) (ones_cons (by first | rfl | exact AS.one) ones_nil))) rfl rfl rfl rfl) ?_
      rintro _ _ ⟨rfl, rfl⟩
      refine ne (eo_as rfl rfl) rfl ?_
      refine go_nil ?_
      refine gq_next ?_
      refine gc_ret ?_
      refine gq_results (by first | exact resCT 0 rfl a33 rfl rfl rfl rfl rfl | exact resCT 1 rfl a33 rfl rfl rfl rfl rfl | exact resCT 2 rfl a33 rfl rfl rfl rfl rfl | exact resCT 3 rfl a33 rfl rfl rfl rfl rfl | exact resCT 4 rfl a33 rfl rfl rfl rfl rfl | exact resCT 5 rfl a33 rfl rfl rfl rfl rfl) ?_
      exact fun W' hO => ⟨_, _, rfl, ⟨_, _, _, rfl, rfl, by omega⟩, hO.pick 0 rfl⟩

/-- barscan/raster.Turn -/
theorem turn_no (t W H : Int) (A : Option Addr) (n c : Nat) (f : Nat → Bool) (w : World) (_hr : Rd w A (tab n (bv f))) (hv : vldB W H n = false) :
    Calls Try.prog 28 #[.agg #[.int .i64 W, .int .i64 H, .slice A n c], .int .i64 t] w fun e w' => e = .returned (noM 1) ∧ Ext w w' := by
  refine calls_enter (N := ⟨35, []⟩) ([]) ([]) Try.func28 rfl rfl rfl (Ow.start _) ?_
  refine gc_seq ?_
  refine gc_region ?_
  refine nx (xo_boxA rfl rfl) rfl ?_
  rintro _ _ ⟨g2, rfl, rfl⟩
  refine nx (xo_alloc rfl z33) rfl ?_
  rintro _ _ ⟨g4, rfl, rfl⟩
  refine ne (eo_as rfl rfl) rfl ?_
  refine go_nil ?_
  refine gq_next ?_
  refine gc_seq ?_
  refine gc_seq ?_
  refine gc_region ?_
  refine ne (by first | exact eo_loadA 0 rfl a33 rfl rfl rfl rfl | exact eo_loadA 1 rfl a33 rfl rfl rfl rfl | exact eo_loadA 2 rfl a33 rfl rfl rfl rfl | exact eo_loadA 3 rfl a33 rfl rfl rfl rfl | exact eo_loadA 4 rfl a33 rfl rfl rfl rfl | exact eo_loadA 5 rfl a33 rfl rfl rfl rfl) rfl ?_
  refine ne (eo_call rfl en35 rfl (fun W _ => check_c _ _ _ _ _ W)) rfl ?_
  refine ne (eo_as rfl rfl) rfl ?_
  refine go_nil ?_
  refine gq_next ?_
  refine gc_seq ?_
  refine gc_region ?_
  refine ne (eo_mv rfl rfl) rfl ?_
  refine ne (eo_neq rfl rfl rfl) rfl ?_
  refine go_nil ?_
  refine gq_next ?_
  refine gc_cond rfl (fun hc10 => ?_) (fun hc10 => ?_)
  ·
    replace hc10 := of_decide_eq_true hc10
    refine gc_seq ?_
    refine gc_region ?_
    refine ne (eo_build rfl rfl (b33_)) rfl ?_
    refine ne (eo_mv rfl rfl) rfl ?_
    refine nu (by first | exact xo_storeA 0 rfl a33 rfl rfl (ones_cons (by first | rfl | exact AS.one) (ones_cons (by first | rfl | exact AS.one) (ones_cons (by first | rfl | exact AS.one) ones_nil))) rfl rfl rfl rfl | exact xo_storeA 1 rfl a33 rfl rfl (ones_cons (by first | rfl | exact AS.one) (ones_cons (by first | rfl | exact AS.one) (ones_cons (by first | rfl | exact AS.one) ones_nil))) rfl rfl rfl rfl | exact xo_storeA 2 rfl a33 rfl rfl (ones_cons (by first | rfl | exact AS.one) (ones_cons (by first | rfl | exact AS.one) (ones_cons (by first | rfl | exact AS.one) ones_nil))) rfl rfl rfl rfl | exact xo_storeA 3 rfl a33 rfl rfl (ones_cons (by first | rfl | exact AS.one) (ones_cons (by first | rfl | exact AS.one) (ones_cons (by first | rfl | exact AS.one) ones_nil))) rfl rfl rfl rfl | exact xo_storeA 4 rfl a33 rfl rfl (ones_cons (by first | rfl | exact AS.one) (ones_cons (by first | rfl | exact AS.one) (ones_cons (by first | rfl | exact AS.one) ones_nil))) rfl rfl rfl rfl | exact xo_storeA 5 rfl a33 rfl rfl (ones_cons (by first | rfl | exact AS.one) (ones_cons (by first | rfl | exact AS.one) (ones_cons (by first | rfl | exact AS.one) ones_nil))) rfl rfl rfl rfl) ?_
    rintro _ _ ⟨rfl, rfl⟩
    refine ne (eo_as rfl rfl) rfl ?_
    refine go_nil ?_
    refine gq_next ?_
    refine gc_ret ?_
    refine gq_then_ret ?_
    refine gq_results (by first | exact resCT 0 rfl a33 rfl rfl rfl rfl rfl | exact resCT 1 rfl a33 rfl rfl rfl rfl rfl | exact resCT 2 rfl a33 rfl rfl rfl rfl rfl | exact resCT 3 rfl a33 rfl rfl rfl rfl rfl | exact resCT 4 rfl a33 rfl rfl rfl rfl rfl | exact resCT 5 rfl a33 rfl rfl rfl rfl rfl) ?_
    exact fun W' hO => ⟨by rw [chk_no hv]; rfl, hO.toExt⟩
  ·
    replace hc10 := of_decide_eq_false hc10
    exact absurd hc10 (by rw [chk_no hv]; decide)

theorem turn_x (W H : Int) (A : Option Addr) (n c : Nat) (f : Nat → Bool) (t : Int) (w : World) (hr : Rd w A (tab n (bv f))) :
    Calls Try.prog 28 #[.agg #[.int .i64 W, .int .i64 H, .slice A n c], .int .i64 t] w (fun e w' => ∃ v Hn, e = .returned v ∧ RX (turnR ⟨W, H, n, f⟩ t) v Hn ∧ Ow [] w w' Hn) :=
  rx_of (vldB W H n) (fun hv => turn_ok t W H A n c f w hr hv) (fun hv => turn_no t W H A n c f w hr hv) (fun hv => turnR_ok hv) (fun hv => turnR_no hv)

/-- barscan/raster.Gray -/
theorem gray_x (W H : Int) (A : Option Addr) (n c : Nat) (f : Nat → Bool) (w : World) (hr : Rd w A (tab n (bv f)))  :
    Calls Try.prog 29 #[.agg #[.int .i64 W, .int .i64 H, .slice A n c]] w (fun e w' => ∃ v Hn, e = .returned v ∧ RXi (grayR ⟨W, H, n, f⟩) v Hn ∧ Ow [] w w' Hn) := by
  refine calls_enter (N := ⟨39, []⟩) [] ([]) Try.func29 rfl rfl rfl (Ow.start _) ?_
  refine gc_seq ?_
  refine gc_region ?_
  refine nx (xo_boxA rfl rfl) rfl ?_
  rintro _ _ ⟨g1, rfl, rfl⟩
  refine nx (xo_alloc rfl z24) rfl ?_
  rintro _ _ ⟨g2, rfl, rfl⟩
  refine ne (eo_as rfl rfl) rfl ?_
  refine go_nil ?_
  refine gq_next ?_
  refine gc_seq ?_
  refine gc_seq ?_
  refine gc_region ?_
  refine ne (eo_loadA 1 rfl a33 rfl rfl rfl rfl) rfl ?_
  refine ne (eo_call rfl en35 rfl (fun W1 hO => check_c _ _ _ _ _ W1  )) rfl ?_
  refine ne (eo_as rfl rfl) rfl ?_
  refine go_nil ?_
  refine gq_next ?_
  refine gc_seq ?_
  refine gc_region ?_
  refine ne (eo_mv rfl rfl) rfl ?_
  refine ne (eo_neq rfl rfl rfl) rfl ?_
  refine go_nil ?_
  refine gq_next ?_
  refine gc_cond rfl (fun hc0 => ?_) (fun hc0 => ?_)
  ·
    replace hc0 := of_decide_eq_true hc0
    have hv := chk_f hc0
    refine gc_seq ?_
    refine gc_region ?_
    refine ne (eo_build rfl rfl (b24_)) rfl ?_
    refine ne (eo_mv rfl rfl) rfl ?_
    refine nu (xo_storeA 0 rfl a24 rfl rfl (ones_cons (by first | rfl | exact AS.one) (ones_cons (by first | rfl | exact AS.one) (ones_cons (by first | rfl | exact AS.one) ones_nil))) rfl rfl rfl rfl) ?_
    rintro _ _ ⟨rfl, rfl⟩
    refine ne (eo_as rfl rfl) rfl ?_
    refine go_nil ?_
    refine gq_next ?_
    refine gc_ret ?_
    refine gq_then_ret ?_
    refine gq_results (resCT 0 rfl a24 rfl rfl rfl rfl rfl) ?_
    exact fun W1 hO => rxi_nil hO (by rw [chk_no hv]; exact grayR_no hv)
  ·
    replace hc0 := of_decide_eq_false hc0
    have hv := chk_t hc0
    obtain ⟨v1, v2, v3, v4, v5, v6⟩ := vldB_iff.1 hv
    have v7 := vld_pos hv
    refine gc_skip ?_
    refine gq_next ?_
    refine gc_seq ?_
    refine gc_draw_new (i := 9) (d := 5) [] [0, 1, 2, 3, 4, 5, 6] [7, 8] [10] (by kernel_rfl) (by kernel_rfl) rfl z24 rfl ?_
    refine gp_nil ?_
    refine de rfl (eo_field rfl f33_0 rfl) rfl ?_
    refine de rfl (eo_load 1 rfl s3 rfl rfl rfl rfl) rfl ?_
    refine de rfl (eo_field rfl f33_1 rfl) rfl ?_
    refine de rfl (eo_load 1 rfl s3 rfl rfl rfl rfl) rfl ?_
    refine de rfl (eo_field rfl f33_2 rfl) rfl ?_
    refine de rfl (eo_load 1 rfl s31 rfl rfl rfl rfl) rfl ?_
    refine de rfl (eo_len rfl Try.underlying31 rfl) rfl ?_
    refine ge_nil ?_
    refine ⟨rfl, ?_⟩
    refine da rfl (xo_makei rfl Try.underlying22 e5 rfl rfl (by omega) (by omega) (by omega)) rfl ?_
    rintro _ _ ⟨g21, rfl, rfl⟩
    refine ⟨by first | exact (List.Sublist.cons _ (List.Sublist.refl _)) | exact (List.sublist_append_left _ _), ?_⟩
    refine da rfl (xo_of_eo (eo_build rfl rfl (b24_012 _ _ _ _ _))) rfl ?_
    rintro _ _ ⟨rfl, rfl⟩
    refine ⟨by first | exact (List.Sublist.cons _ (List.Sublist.refl _)) | exact (List.sublist_append_left _ _), ?_⟩
    refine ga_nil ?_
    intro g5
    refine iu rfl (xo_storeA 0 rfl a24 rfl rfl (ones_cons (by first | rfl | exact AS.one) (ones_cons (by first | rfl | exact AS.one) (ones_cons (by first | rfl | exact AS.one) ones_nil))) rfl rfl rfl rfl) ?_
    rintro _ _ ⟨rfl, rfl⟩
    refine gi_nil ?_
    refine gq_nq ?_
    refine gq_next ?_
    refine gc_seq ?_
    refine gc_seq ?_
    refine gc_region ?_
    refine ne (eo_field rfl f33_2 rfl) rfl ?_
    refine ne (eo_load 3 rfl s31 rfl rfl rfl rfl) rfl ?_
    refine ne (eo_len rfl Try.underlying31 rfl) rfl ?_
    refine ne (eo_mv rfl rfl) rfl ?_
    refine go_nil ?_
    refine gq_next ?_
    refine gc_block ?_
    refine loop2 (fun (i : Nat) (f1 : Nat → Int) => i ≤ n ∧ ∀ j, j < n → f1 j = if j < i then grayF f j else 0) (fun (i : Nat) (f1 : Nat → Int) => n - i) (fun (i : Nat) (f1 : Nat → Int) => [(2, .pointer (some ⟨g2, 0, none⟩)), (5, .pointer (some ⟨g5, 0, none⟩)), (24, .slice A n c), (25, .int .i64 ((n : Nat) : Int)), (26, .int .i64 (i : Int))]) (fun (i : Nat) (f1 : Nat → Int) => [⟨g5, 24, [.int .i64 W, .int .i64 H, .slice (some ⟨g21, 0, none⟩) n n]⟩, ⟨g21, 5, tab n (iv .u8 f1) ++ []⟩, ⟨g2, 24, [.int .i64 0, .int .i64 0, .slice none 0 0]⟩, ⟨g1, 33, [.int .i64 W, .int .i64 H, .slice A n c]⟩]) 0 (fun _ => 0) ⟨by omega, fun j _ => by simp⟩ ⟨rfl, rfl, rfl, rfl, rfl, trivial⟩ (List.Sublist.refl _) ?_
    rintro i f1 ⟨hi, hI⟩
    refine gc_seq ?_
    refine gc_region ?_
    refine ne (eo_lss rfl rfl rfl) rfl ?_
    refine go_nil ?_
    refine gq_next ?_
    refine gc_seq ?_
    refine gc_cond rfl (fun hc1 => ?_) (fun hc1 => ?_)
    ·
      replace hc1 := of_decide_eq_true hc1
      refine gc_skip ?_
      refine gq_next ?_
      refine gc_seq ?_
      refine gc_block ?_
      refine gc_seq ?_
      refine gc_region ?_
      refine ne (eo_mv rfl rfl) rfl ?_
      refine ne (eo_indexR rfl sl31 rfl rfl hr (by simp) (by omega) (by omega)) rfl ?_
      refine ne (eo_load_old rfl s4 rfl (Rd.tabb hr (by omega)) (by simp)) rfl ?_
      refine ne (eo_as rfl rfl) rfl ?_
      refine ne (eo_as rfl rfl) rfl ?_
      refine go_nil ?_
      refine gq_next ?_
      refine gc_seq ?_
      refine gc_region ?_
      refine ne (eo_mv rfl rfl) rfl ?_
      refine ne (eo_not rfl rfl) rfl ?_
      refine go_nil ?_
      refine gq_next ?_
      refine gc_cond rfl (fun hc2 => ?_) (fun hc2 => ?_)
      ·
        have hd2 := (not_t hc2)
        refine gc_region ?_
        refine ne (eo_field rfl f24_2 rfl) rfl ?_
        refine ne (eo_load 0 rfl s22 rfl rfl rfl rfl) rfl ?_
        refine ne (eo_mv rfl rfl) rfl ?_
        refine ne (eo_index0 rfl sl22 rfl rfl (by omega) (by omega)) rfl ?_
        refine nu (xo_seti 1 rfl s5 rfl rfl rfl (by omega)) ?_
        rintro _ _ ⟨rfl, rfl⟩
        refine go_nil ?_
        refine gq_block_end ?_
        refine gq_next ?_
        refine gc_region ?_
        refine ne (eo_add rfl rfl rfl (by omega) (by omega)) rfl ?_
        refine ne (eo_mv rfl rfl) rfl ?_
        refine go_nil ?_
        exact round2 (i + 1) (upd f1 (i) 255) ⟨by omega, by first | exact fill_keep hI (by simp [grayF] at hc2 ⊢; exact hc2) | exact fill_step hI (by simp [grayF] at hc2 ⊢; exact hc2)⟩ (by omega) ⟨rfl, rfl, rfl, rfl, rfl, trivial⟩ (List.Sublist.refl _)
      ·
        have hd2 := (not_f hc2)
        refine gc_skip ?_
        refine gq_block_end ?_
        refine gq_next ?_
        refine gc_region ?_
        refine ne (eo_add rfl rfl rfl (by omega) (by omega)) rfl ?_
        refine ne (eo_mv rfl rfl) rfl ?_
        refine go_nil ?_
        exact round2 (i + 1) f1 ⟨by omega, by first | exact fill_keep hI (by simp [grayF] at hc2 ⊢; exact hc2) | exact fill_step hI (by simp [grayF] at hc2 ⊢; exact hc2)⟩ (by omega) ⟨rfl, rfl, rfl, rfl, rfl, trivial⟩ (List.Sublist.refl _)
    ·
      replace hc1 := of_decide_eq_false hc1
      refine gc_exit ?_
      refine gq_then_exit ?_
      refine gq_then_exit ?_
      refine gq_block_hit ?_
      refine gq_next ?_
      refine gc_seq ?_
      refine gc_region ?_
      refine ne (eo_loadA 0 rfl a24 rfl rfl rfl rfl) rfl ?_
      refine nu (xo_storeA 2 rfl a24 rfl rfl (ones_cons (by first | rfl | exact AS.one) (ones_cons (by first | rfl | exact AS.one) (ones_cons (by first | rfl | exact AS.one) ones_nil))) rfl rfl rfl rfl) ?_
      rintro _ _ ⟨rfl, rfl⟩
      refine ne (eo_as rfl rfl) rfl ?_
      refine go_nil ?_
      refine gq_next ?_
      refine gc_ret ?_
      refine gq_results (resCT 2 rfl a24 rfl rfl rfl rfl rfl) ?_
      exact fun W1 hO => rxi_own 1 hO rfl (grayR_ok hv) (fun j hj => by rw [hI j hj, if_pos (by omega)]) (by omega)

/-- barscan/barscanref31.Gray -/
theorem rgray_x (W H : Int) (A : Option Addr) (n c : Nat) (f : Nat → Bool) (w : World) (hr : Rd w A (tab n (bv f)))  :
    Calls Try.prog 47 #[.agg #[.int .i64 W, .int .i64 H, .slice A n c]] w (fun e w' => ∃ v Hn, e = .returned v ∧ RXi (grayR ⟨W, H, n, f⟩) v Hn ∧ Ow [] w w' Hn) := by
  refine calls_enter (N := ⟨35, []⟩) [] ([]) Try.func47 rfl rfl rfl (Ow.start _) ?_
  refine gc_seq ?_
  refine gc_region ?_
  refine nx (xo_boxA rfl rfl) rfl ?_
  rintro _ _ ⟨g1, rfl, rfl⟩
  refine nx (xo_alloc rfl z24) rfl ?_
  rintro _ _ ⟨g2, rfl, rfl⟩
  refine ne (eo_as rfl rfl) rfl ?_
  refine go_nil ?_
  refine gq_next ?_
  refine gc_seq ?_
  refine gc_seq ?_
  refine gc_region ?_
  refine ne (eo_loadA 1 rfl a33 rfl rfl rfl rfl) rfl ?_
  refine ne (eo_call rfl en41 rfl (fun W1 hO => valid_c _ _ _ _ _ W1  )) rfl ?_
  refine ne (eo_not rfl rfl) rfl ?_
  refine go_nil ?_
  refine gq_next ?_
  refine gc_cond rfl (fun hc0 => ?_) (fun hc0 => ?_)
  ·
    have hd0 := (not_t hc0)
    have hv := not_t hc0
    refine gc_seq ?_
    refine gc_region ?_
    refine ne (eo_build rfl rfl (b24_)) rfl ?_
    refine nu (xo_storeA 0 rfl a24 rfl rfl (ones_cons (by first | rfl | exact AS.one) (ones_cons (by first | rfl | exact AS.one) (ones_cons (by first | rfl | exact AS.one) ones_nil))) rfl rfl rfl rfl) ?_
    rintro _ _ ⟨rfl, rfl⟩
    refine ne (eo_as rfl rfl) rfl ?_
    refine go_nil ?_
    refine gq_next ?_
    refine gc_ret ?_
    refine gq_then_ret ?_
    refine gq_results (resCT 0 rfl a24 rfl rfl rfl rfl rfl) ?_
    exact fun W1 hO => rxi_nil hO (grayR_no hv)
  ·
    have hd0 := (not_f hc0)
    have hv := not_f hc0
    obtain ⟨v1, v2, v3, v4, v5, v6⟩ := vldB_iff.1 hv
    have v7 := vld_pos hv
    refine gc_skip ?_
    refine gq_next ?_
    refine gc_seq ?_
    refine gc_region ?_
    refine ne (eo_field rfl f33_0 rfl) rfl ?_
    refine ne (eo_load 1 rfl s3 rfl rfl rfl rfl) rfl ?_
    refine ne (eo_field rfl f33_1 rfl) rfl ?_
    refine ne (eo_load 1 rfl s3 rfl rfl rfl rfl) rfl ?_
    refine ne (eo_build rfl rfl (b24_01 _ _)) rfl ?_
    refine nx (xo_alloc rfl z24) rfl ?_
    rintro _ _ ⟨g4, rfl, rfl⟩
    refine nu (xo_storeA 0 rfl a24 rfl rfl (ones_cons (by first | rfl | exact AS.one) (ones_cons (by first | rfl | exact AS.one) (ones_cons (by first | rfl | exact AS.one) ones_nil))) rfl rfl rfl rfl) ?_
    rintro _ _ ⟨rfl, rfl⟩
    refine go_nil ?_
    refine gq_next ?_
    refine gc_seq ?_
    refine gc_seq ?_
    refine gc_region ?_
    refine ne (eo_as rfl rfl) rfl ?_
    refine go_nil ?_
    refine gq_next ?_
    refine gc_block ?_
    refine loop2 (fun (k : Nat) (s : AS) => k ≤ n ∧ s.Ok 1 k (tab k (iv .u8 (grayF f)))) (fun (k : Nat) (s : AS) => n - k) (fun (k : Nat) (s : AS) => [(1, .pointer (some ⟨g1, 0, none⟩)), (2, .pointer (some ⟨g2, 0, none⟩)), (4, .pointer (some ⟨g4, 0, none⟩)), (5, .int .i64 (k : Int))]) (fun (k : Nat) (s : AS) => ⟨g4, 24, [.int .i64 W, .int .i64 H, s.val k]⟩ :: ⟨g2, 24, [.int .i64 0, .int .i64 0, .slice none 0 0]⟩ :: ⟨g1, 33, [.int .i64 W, .int .i64 H, .slice A n c]⟩ :: s.blks 5 (tab k (iv .u8 (grayF f)))) 0 .nil ⟨by omega, AS.Ok0⟩ ⟨rfl, rfl, rfl, rfl, trivial⟩ (List.Sublist.refl _) ?_
    rintro k s ⟨hk, hs⟩
    refine gc_seq ?_
    refine gc_seq ?_
    refine gc_region ?_
    refine ne (eo_mv rfl rfl) rfl ?_
    refine ne (eo_field rfl f33_2 rfl) rfl ?_
    refine ne (eo_load 2 rfl s31 rfl rfl rfl rfl) rfl ?_
    refine ne (eo_len rfl Try.underlying31 rfl) rfl ?_
    refine ne (eo_lss rfl rfl rfl) rfl ?_
    refine go_nil ?_
    refine gq_next ?_
    refine gc_cond rfl (fun hc1 => ?_) (fun hc1 => ?_)
    ·
      replace hc1 := of_decide_eq_true hc1
      refine gc_skip ?_
      refine gq_next ?_
      refine gc_seq ?_
      refine gc_block ?_
      refine gc_seq ?_
      refine gc_region ?_
      refine ne (eo_as rfl rfl) rfl ?_
      refine go_nil ?_
      refine gq_next ?_
      refine gc_seq ?_
      refine gc_seq ?_
      refine gc_region ?_
      refine ne (eo_field rfl f33_2 rfl) rfl ?_
      refine ne (eo_load 2 rfl s31 rfl rfl rfl rfl) rfl ?_
      refine ne (eo_mv rfl rfl) rfl ?_
      refine ne (eo_indexR rfl sl31 rfl rfl hr (by simp) (by omega) (by omega)) rfl ?_
      refine ne (eo_load_old rfl s4 rfl (Rd.tabb hr (by omega)) (by simp)) rfl ?_
      refine go_nil ?_
      refine gq_next ?_
      refine gc_cond rfl (fun hc2 => ?_) (fun hc2 => ?_)
      ·
        refine gc_region ?_
        refine ne (eo_as rfl rfl) rfl ?_
        refine go_nil ?_
        refine gq_next ?_
        refine gc_region ?_
        refine ne (eo_field rfl f24_2 rfl) rfl ?_
        refine ne (eo_load 0 rfl s22 rfl rfl rfl rfl) rfl ?_
        refine ne (eo_mv rfl rfl) rfl ?_
        refine nx (xo_lit1 rfl Try.underlying22 e5 rfl (by first | rfl | exact AS.one)) rfl ?_
        rintro _ _ ⟨g31, rfl, rfl⟩
        refine nx (xo_app1i 4 rfl rfl Try.underlying22 e5 rfl hs rfl rfl (by first | exact (gray_dark (by assumption)).symm | exact (gray_light (by assumption)).symm) (by omega) (by decide)) rfl ?_
        rintro _ _ ⟨s32, hs32, rfl, rfl⟩
        refine ne (eo_field rfl f24_2 rfl) rfl ?_
        refine nu (xo_store 1 rfl s22 rfl rfl (by first | rfl | exact AS.one) rfl rfl (by simp)) ?_
        rintro _ _ ⟨rfl, rfl⟩
        refine go_nil ?_
        refine gq_block_end ?_
        refine gq_next ?_
        refine gc_region ?_
        refine ne (eo_mv rfl rfl) rfl ?_
        refine ne (eo_add rfl rfl rfl (by omega) (by omega)) rfl ?_
        refine ne (eo_as rfl rfl) rfl ?_
        refine go_nil ?_
        exact round2 (k + 1) s32 ⟨by omega, hs32⟩ (by omega) ⟨rfl, rfl, rfl, rfl, trivial⟩ (List.Sublist.cons _ (List.Sublist.refl _))
      ·
        refine gc_skip ?_
        refine gq_next ?_
        refine gc_region ?_
        refine ne (eo_field rfl f24_2 rfl) rfl ?_
        refine ne (eo_load 0 rfl s22 rfl rfl rfl rfl) rfl ?_
        refine ne (eo_mv rfl rfl) rfl ?_
        refine nx (xo_lit1 rfl Try.underlying22 e5 rfl (by first | rfl | exact AS.one)) rfl ?_
        rintro _ _ ⟨g31, rfl, rfl⟩
        refine nx (xo_app1i 4 rfl rfl Try.underlying22 e5 rfl hs rfl rfl (by first | exact (gray_dark (by assumption)).symm | exact (gray_light (by assumption)).symm) (by omega) (by decide)) rfl ?_
        rintro _ _ ⟨s32, hs32, rfl, rfl⟩
        refine ne (eo_field rfl f24_2 rfl) rfl ?_
        refine nu (xo_store 1 rfl s22 rfl rfl (by first | rfl | exact AS.one) rfl rfl (by simp)) ?_
        rintro _ _ ⟨rfl, rfl⟩
        refine go_nil ?_
        refine gq_block_end ?_
        refine gq_next ?_
        refine gc_region ?_
        refine ne (eo_mv rfl rfl) rfl ?_
        refine ne (eo_add rfl rfl rfl (by omega) (by omega)) rfl ?_
        refine ne (eo_as rfl rfl) rfl ?_
        refine go_nil ?_
        exact round2 (k + 1) s32 ⟨by omega, hs32⟩ (by omega) ⟨rfl, rfl, rfl, rfl, trivial⟩ (List.Sublist.cons _ (List.Sublist.refl _))
    ·
      replace hc1 := of_decide_eq_false hc1
      refine gc_exit ?_
      refine gq_then_exit ?_
      refine gq_then_exit ?_
      refine gq_block_hit ?_
      refine gq_next ?_
      refine gc_seq ?_
      refine gc_region ?_
      refine ne (eo_loadA 0 rfl a24 rfl rfl rfl rfl) rfl ?_
      refine nu (xo_storeA 1 rfl a24 rfl rfl (ones_cons (by first | rfl | exact AS.one) (ones_cons (by first | rfl | exact AS.one) (ones_cons (by first | rfl | exact AS.one) ones_nil))) rfl rfl rfl rfl) ?_
      rintro _ _ ⟨rfl, rfl⟩
      refine ne (eo_as rfl rfl) rfl ?_
      refine go_nil ?_
      refine gq_next ?_
      refine gc_ret ?_
      refine gq_results (resCT 1 rfl a24 rfl rfl rfl rfl rfl) ?_
      have hkn : n = k := by omega
      subst hkn
      exact fun W1 hO => rxi_as 3 hO rfl hs (grayR_ok hv)

/-- barscan/barscanref31.turned -/
theorem rturned_c (W : Int) (H : Int) (i : Int) (w : World)  (h1 : 1 ≤ W) (h2 : W ≤ 4096) (h3 : 1 ≤ H) (h4 : H ≤ 4096) (h5 : 0 ≤ i) (h6 : i < W * H) :
    Calls Try.prog 57 #[.int .i64 W, .int .i64 H, .int .i64 i] w (fun e w' => e = .returned (.int .i64 ((H - 1 - i % H) * W + i / H)) ∧ Ext w w') := by
  have hb := rturned_bd h1 h2 h3 h4 h5 h6
  refine calls_enter (N := ⟨23, []⟩) [] ([]) Try.func57 rfl rfl rfl (Ow.start _) ?_
  refine gc_seq ?_
  refine gc_region ?_
  refine ne (eo_as rfl rfl) rfl ?_
  refine go_nil ?_
  refine gq_next ?_
  refine gc_seq ?_
  refine gc_region ?_
  refine ne (eo_mv rfl rfl) rfl ?_
  refine ne (eo_mv rfl rfl) rfl ?_
  refine ne (eo_rem rfl rfl rfl (by omega) (by omega)) rfl ?_
  refine ne (eo_as rfl rfl) rfl ?_
  refine go_nil ?_
  refine gq_next ?_
  refine gc_seq ?_
  refine gc_region ?_
  refine ne (eo_mv rfl rfl) rfl ?_
  refine ne (eo_mv rfl rfl) rfl ?_
  refine ne (eo_quo rfl rfl rfl (by omega) (by omega) (by omega)) rfl ?_
  refine ne (eo_as rfl rfl) rfl ?_
  refine go_nil ?_
  refine gq_next ?_
  refine gc_seq ?_
  refine gc_region ?_
  refine ne (eo_mv rfl rfl) rfl ?_
  refine ne (eo_sub rfl rfl rfl (by omega) (by omega)) rfl ?_
  refine ne (eo_mv rfl rfl) rfl ?_
  refine ne (eo_sub rfl rfl rfl (by omega) (by omega)) rfl ?_
  refine ne (eo_mv rfl rfl) rfl ?_
  refine ne (eo_mul rfl rfl rfl (by omega) (by omega)) rfl ?_
  refine ne (eo_mv rfl rfl) rfl ?_
  refine ne (eo_add rfl rfl rfl (by omega) (by omega)) rfl ?_
  refine ne (eo_as rfl rfl) rfl ?_
  refine go_nil ?_
  refine gq_next ?_
  refine gc_ret ?_
  refine gq_results (res1 rfl rfl) ?_
  exact fun W1 hO => ⟨rfl, hO.toExt⟩

/-- barscan/barscanref31.Turn -/
theorem rturn_x (W H : Int) (A : Option Addr) (n c : Nat) (f : Nat → Bool) (t : Int) (w : World) (hr : Rd w A (tab n (bv f)))  :
    Calls Try.prog 46 #[.agg #[.int .i64 W, .int .i64 H, .slice A n c], .int .i64 t] w (fun e w' => ∃ v Hn, e = .returned v ∧ RX (turnR ⟨W, H, n, f⟩ t) v Hn ∧ Ow [] w w' Hn) := by
  refine calls_enter (N := ⟨58, []⟩) [] ([]) Try.func46 rfl rfl rfl (Ow.start _) ?_
  refine gc_seq ?_
  refine gc_region ?_
  refine nx (xo_boxA rfl rfl) rfl ?_
  rintro _ _ ⟨g2, rfl, rfl⟩
  refine nx (xo_alloc rfl z33) rfl ?_
  rintro _ _ ⟨g4, rfl, rfl⟩
  refine ne (eo_as rfl rfl) rfl ?_
  refine go_nil ?_
  refine gq_next ?_
  refine gc_seq ?_
  refine gc_seq ?_
  refine gc_region ?_
  refine ne (eo_loadA 1 rfl a33 rfl rfl rfl rfl) rfl ?_
  refine ne (eo_call rfl en41 rfl (fun W1 hO => valid_c _ _ _ _ _ W1  )) rfl ?_
  refine ne (eo_not rfl rfl) rfl ?_
  refine go_nil ?_
  refine gq_next ?_
  refine gc_cond rfl (fun hc0 => ?_) (fun hc0 => ?_)
  ·
    have hd0 := (not_t hc0)
    have hv := not_t hc0
    refine gc_seq ?_
    refine gc_region ?_
    refine ne (eo_build rfl rfl (b33_)) rfl ?_
    refine nu (xo_storeA 0 rfl a33 rfl rfl (ones_cons (by first | rfl | exact AS.one) (ones_cons (by first | rfl | exact AS.one) (ones_cons (by first | rfl | exact AS.one) ones_nil))) rfl rfl rfl rfl) ?_
    rintro _ _ ⟨rfl, rfl⟩
    refine ne (eo_as rfl rfl) rfl ?_
    refine go_nil ?_
    refine gq_next ?_
    refine gc_ret ?_
    refine gq_then_ret ?_
    refine gq_results (resCT 0 rfl a33 rfl rfl rfl rfl rfl) ?_
    exact fun W1 hO => rx_nil hO (turnR_no hv)
  ·
    have hd0 := (not_f hc0)
    have hv := not_f hc0
    obtain ⟨v1, v2, v3, v4, v5, v6⟩ := vldB_iff.1 hv
    have v7 := vld_pos hv
    refine gc_skip ?_
    refine gq_next ?_
    refine gc_seq ?_
    refine gc_draw_new (i := 9) (d := 6) [] [0, 1, 2, 3, 5, 6] [4, 7, 8] [10] (by kernel_rfl) (by kernel_rfl) rfl z33 rfl ?_
    refine gp_nil ?_
    refine de rfl (eo_field rfl f33_0 rfl) rfl ?_
    refine de rfl (eo_load 1 rfl s3 rfl rfl rfl rfl) rfl ?_
    refine de rfl (eo_field rfl f33_1 rfl) rfl ?_
    refine de rfl (eo_load 1 rfl s3 rfl rfl rfl rfl) rfl ?_
    refine de rfl (eo_field rfl f33_2 rfl) rfl ?_
    refine de rfl (eo_load 1 rfl s31 rfl rfl rfl rfl) rfl ?_
    refine ge_nil ?_
    refine ⟨rfl, ?_⟩
    refine da rfl (xo_lit rfl rfl lit31_0) rfl ?_
    rintro _ _ ⟨g18, rfl, rfl⟩
    refine ⟨by first | exact (List.Sublist.cons _ (List.Sublist.refl _)) | exact (List.sublist_append_left _ _), ?_⟩
    refine da rfl (xo_grabL (F := (bv f)) rfl Try.underlying31 e4.toN rfl rfl (fun W1 hO => (hr.old0 hO)) tab_oneb (by omega) (by omega) (by decide)) rfl ?_
    rintro _ _ ⟨gn21, cn21, sn21, rfl, rfl, hcn21⟩
    refine ⟨by first | exact (List.Sublist.cons _ (List.Sublist.refl _)) | exact (List.sublist_append_left _ _), ?_⟩
    refine da rfl (xo_of_eo (eo_build rfl rfl (b33_012 _ _ _ _ _))) rfl ?_
    rintro _ _ ⟨rfl, rfl⟩
    refine ⟨by first | exact (List.Sublist.cons _ (List.Sublist.refl _)) | exact (List.sublist_append_left _ _), ?_⟩
    refine ga_nil ?_
    intro g6
    refine iu rfl (xo_storeA 0 rfl a33 rfl rfl (ones_cons (by first | rfl | exact AS.one) (ones_cons (by first | rfl | exact AS.one) (ones_cons (by first | rfl | exact AS.one) ones_nil))) rfl rfl rfl rfl) ?_
    rintro _ _ ⟨rfl, rfl⟩
    refine gi_nil ?_
    refine gq_nq ?_
    refine gq_next ?_
    refine gc_seq ?_
    refine gc_seq ?_
    refine gc_region ?_
    refine ne (eo_as rfl rfl) rfl ?_
    refine go_nil ?_
    refine gq_next ?_
    refine gc_block ?_
    refine loop4 (fun (i : Nat) (gk : Nat) (ck : Nat) (sp : List Value) => (i : Int) ≤ t % 4 ∧ n ≤ ck) (fun (i : Nat) (gk : Nat) (ck : Nat) (sp : List Value) => (t % 4 - i).toNat) (fun (i : Nat) (gk : Nat) (ck : Nat) (sp : List Value) => [(1, .int .i64 t), (2, .pointer (some ⟨g2, 0, none⟩)), (4, .pointer (some ⟨g4, 0, none⟩)), (6, .pointer (some ⟨g6, 0, none⟩)), (7, .int .i64 (i : Int))]) (fun (i : Nat) (gk : Nat) (ck : Nat) (sp : List Value) => [⟨g6, 33, [.int .i64 (tW i W H), .int .i64 (tW i H W), .slice (some ⟨gk, 0, none⟩) n ck]⟩, ⟨g4, 33, [.int .i64 0, .int .i64 0, .slice none 0 0]⟩, ⟨g2, 33, [.int .i64 W, .int .i64 H, .slice A n c]⟩, ⟨gk, 4, tab n (bv (tF i W H f)) ++ sp⟩]) 0 gn21 cn21 sn21 ⟨by omega, hcn21⟩ ⟨rfl, rfl, rfl, rfl, rfl, trivial⟩ (List.Sublist.refl _) ?_
    rintro i gk ck sp ⟨hi, hck⟩
    refine gc_seq ?_
    refine gc_seq ?_
    refine gc_region ?_
    refine ne (eo_mv rfl rfl) rfl ?_
    refine ne (eo_mv rfl rfl) rfl ?_
    refine ne (eo_call rfl en56 rfl (fun W1 hO => rquarters_c _ W1  )) rfl ?_
    refine ne (eo_lss rfl rfl rfl) rfl ?_
    refine go_nil ?_
    refine gq_next ?_
    refine gc_cond rfl (fun hc1 => ?_) (fun hc1 => ?_)
    ·
      replace hc1 := of_decide_eq_true hc1
      have hvi := vld_turns (k := i) hv
      obtain ⟨u1, u2, u3, u4, u5, u6⟩ := vldB_iff.1 hvi
      refine gc_skip ?_
      refine gq_next ?_
      refine gc_seq ?_
      refine gc_block ?_
      refine gc_seq ?_
      refine gc_region ?_
      refine ne (eo_field rfl f33_1 rfl) rfl ?_
      refine ne (eo_load 0 rfl s3 rfl rfl rfl rfl) rfl ?_
      refine ne (eo_field rfl f33_0 rfl) rfl ?_
      refine ne (eo_load 0 rfl s3 rfl rfl rfl rfl) rfl ?_
      refine ne (eo_build rfl rfl (b33_01 _ _)) rfl ?_
      refine nx (xo_alloc rfl z33) rfl ?_
      rintro _ _ ⟨g8, rfl, rfl⟩
      refine nu (xo_storeA 0 rfl a33 rfl rfl (ones_cons (by first | rfl | exact AS.one) (ones_cons (by first | rfl | exact AS.one) (ones_cons (by first | rfl | exact AS.one) ones_nil))) rfl rfl rfl rfl) ?_
      rintro _ _ ⟨rfl, rfl⟩
      refine go_nil ?_
      refine gq_next ?_
      refine gc_seq ?_
      refine gc_seq ?_
      refine gc_region ?_
      refine ne (eo_as rfl rfl) rfl ?_
      refine go_nil ?_
      refine gq_next ?_
      refine gc_block ?_
      refine loop2 (fun (k : Nat) (s : AS) => k ≤ n ∧ s.Ok 1 k (tab k (bv (turnF (tW i W H) (tW i H W) (tF i W H f))))) (fun (k : Nat) (s : AS) => n - k) (fun (k : Nat) (s : AS) => [(1, .int .i64 t), (2, .pointer (some ⟨g2, 0, none⟩)), (4, .pointer (some ⟨g4, 0, none⟩)), (6, .pointer (some ⟨g6, 0, none⟩)), (7, .int .i64 (i : Int)), (8, .pointer (some ⟨g8, 0, none⟩)), (9, .int .i64 (k : Int))]) (fun (k : Nat) (s : AS) => ⟨g8, 33, [.int .i64 (tW i H W), .int .i64 (tW i W H), s.val k]⟩ :: ⟨g6, 33, [.int .i64 (tW i W H), .int .i64 (tW i H W), .slice (some ⟨gk, 0, none⟩) n ck]⟩ :: ⟨g4, 33, [.int .i64 0, .int .i64 0, .slice none 0 0]⟩ :: ⟨g2, 33, [.int .i64 W, .int .i64 H, .slice A n c]⟩ :: ⟨gk, 4, tab n (bv (tF i W H f)) ++ sp⟩ :: s.blks 4 (tab k (bv (turnF (tW i W H) (tW i H W) (tF i W H f))))) 0 .nil ⟨by omega, AS.Ok0⟩ ⟨rfl, rfl, rfl, rfl, rfl, rfl, rfl, trivial⟩ (List.Sublist.refl _) ?_
      rintro k s ⟨hk, hs⟩
      refine gc_seq ?_
      refine gc_seq ?_
      refine gc_region ?_
      refine ne (eo_mv rfl rfl) rfl ?_
      refine ne (eo_field rfl f33_2 rfl) rfl ?_
      refine ne (eo_load 3 rfl s31 rfl rfl rfl rfl) rfl ?_
      refine ne (eo_len rfl Try.underlying31 rfl) rfl ?_
      refine ne (eo_lss rfl rfl rfl) rfl ?_
      refine go_nil ?_
      refine gq_next ?_
      refine gc_cond rfl (fun hc2 => ?_) (fun hc2 => ?_)
      ·
        replace hc2 := of_decide_eq_true hc2
        have hrb := rturned_bd (i := (k : Int)) u1 u2 u3 u4 (by omega) (by omega)
        refine gc_skip ?_
        refine gq_next ?_
        refine gc_seq ?_
        refine gc_block ?_
        refine gc_draw [] [0, 1, 2, 3, 4, 5, 6, 7, 8, 9, 10, 11] [12] [13, 14, 15] (by kernel_rfl) (by kernel_rfl) ?_
        refine gp_nil ?_
        refine de rfl (eo_field rfl f33_2 rfl) rfl ?_
        refine de rfl (eo_load 0 rfl s31 rfl rfl rfl rfl) rfl ?_
        refine de rfl (eo_field rfl f33_2 rfl) rfl ?_
        refine de rfl (eo_load 1 rfl s31 rfl rfl rfl rfl) rfl ?_
        refine de rfl (eo_field rfl f33_0 rfl) rfl ?_
        refine de rfl (eo_load 1 rfl s3 rfl rfl rfl rfl) rfl ?_
        refine de rfl (eo_field rfl f33_1 rfl) rfl ?_
        refine de rfl (eo_load 1 rfl s3 rfl rfl rfl rfl) rfl ?_
        refine de rfl (eo_mv rfl rfl) rfl ?_
        refine de rfl (eo_call rfl en57 rfl (fun W1 hO => rturned_c _ _ _ W1  (by omega) (by omega) (by omega) (by omega) (by omega) (by omega))) rfl ?_
        refine de rfl (eo_index0 rfl sl31 rfl rfl (by omega) (by omega)) rfl ?_
        refine de rfl (eo_getb 4 rfl s4 rfl rfl (by omega)) rfl ?_
        refine ge_nil ?_
        refine da rfl (xo_lit1 rfl Try.underlying31 e4 rfl (by first | rfl | exact AS.one)) rfl ?_
        rintro _ _ ⟨g53, rfl, rfl⟩
        refine ⟨by first | exact (List.Sublist.cons _ (List.Sublist.refl _)) | exact (List.sublist_append_left _ _), ?_⟩
        refine ga_nil ?_
        refine ix rfl (xo_app1b 6 rfl rfl Try.underlying31 e4 rfl hs rfl rfl rfl (by omega)) rfl ?_
        rintro _ _ ⟨s54, hs54, rfl, rfl⟩
        refine ie rfl (eo_field rfl f33_2 rfl) rfl ?_
        refine iu rfl (xo_store 1 rfl s31 rfl rfl (by first | rfl | exact AS.one) rfl rfl (by simp)) ?_
        rintro _ _ ⟨rfl, rfl⟩
        refine gi_nil ?_
        refine gq_nq ?_
        refine gq_block_end ?_
        refine gq_next ?_
        refine gc_region ?_
        refine ne (eo_mv rfl rfl) rfl ?_
        refine ne (eo_add rfl rfl rfl (by omega) (by omega)) rfl ?_
        refine ne (eo_as rfl rfl) rfl ?_
        refine go_nil ?_
        exact round2 (k + 1) s54 ⟨by omega, hs54⟩ (by omega) ⟨rfl, rfl, rfl, rfl, rfl, rfl, rfl, trivial⟩ (List.Sublist.cons _ (List.Sublist.refl _))
      ·
        replace hc2 := of_decide_eq_false hc2
        have hkn : n = k := by omega
        subst hkn
        obtain ⟨g3, sp3, c3, rfl, hc3⟩ := as_at hs (by omega)
        refine gc_exit ?_
        refine gq_then_exit ?_
        refine gq_then_exit ?_
        refine gq_block_hit ?_
        refine gq_next ?_
        refine gc_region ?_
        refine ne (eo_loadA 0 rfl a33 rfl rfl rfl rfl) rfl ?_
        refine nu (xo_storeA 1 rfl a33 rfl rfl (ones_cons (by first | rfl | exact AS.one) (ones_cons (by first | rfl | exact AS.one) (ones_cons (by first | rfl | exact AS.one) ones_nil))) rfl rfl rfl rfl) ?_
        rintro _ _ ⟨rfl, rfl⟩
        refine go_nil ?_
        refine gq_block_end ?_
        refine gq_next ?_
        refine gc_region ?_
        refine ne (eo_mv rfl rfl) rfl ?_
        refine ne (eo_add rfl rfl rfl (by omega) (by omega)) rfl ?_
        refine ne (eo_as rfl rfl) rfl ?_
        refine go_nil ?_
        exact round4 (i + 1) g3 c3 sp3 ⟨by omega, hc3⟩ (by omega) ⟨rfl, rfl, rfl, rfl, rfl, trivial⟩ (List.Sublist.cons _ (List.Sublist.cons_cons _ (List.Sublist.cons_cons _ (List.Sublist.cons_cons _ (List.Sublist.cons _ (List.Sublist.refl _))))))
    ·
      replace hc1 := of_decide_eq_false hc1
      have hie : (t % 4).toNat = i := by omega
      refine gc_exit ?_
      refine gq_then_exit ?_
      refine gq_then_exit ?_
      refine gq_block_hit ?_
      refine gq_next ?_
      refine gc_seq ?_
      refine gc_region ?_
      refine ne (eo_loadA 0 rfl a33 rfl rfl rfl rfl) rfl ?_
      refine nu (xo_storeA 1 rfl a33 rfl rfl (ones_cons (by first | rfl | exact AS.one) (ones_cons (by first | rfl | exact AS.one) (ones_cons (by first | rfl | exact AS.one) ones_nil))) rfl rfl rfl rfl) ?_
      rintro _ _ ⟨rfl, rfl⟩
      refine ne (eo_as rfl rfl) rfl ?_
      refine go_nil ?_
      refine gq_next ?_
      refine gc_ret ?_
      refine gq_results (resCT 1 rfl a33 rfl rfl rfl rfl rfl) ?_
      exact fun W1 hO => rx_own 3 hO rfl (by have h := turnR_ok (f := f) (t := t) hv; rw [hie] at h; exact h) (fun _ _ => rfl) (by omega)

end Go.Proofs.Ytibooikbbcilcaa
