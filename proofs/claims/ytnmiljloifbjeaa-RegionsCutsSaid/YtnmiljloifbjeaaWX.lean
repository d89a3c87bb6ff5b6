/-
  The walks of the functions of package regions and of the document's answers (part X): what each call returns, at every argument.
-/
import Derived.Test.YtnmiljloifbjeaaWN
import Derived.Test.YtnmiljloifbjeaaWV
import Derived.Test.YtnmiljloifbjeaaRw
namespace Go.Proofs.Ytnmiljloifbjeaa
open Go.RowKit Go.Eng

open Go.Bs
theorem st54 : StEq Try.prog 54 := ⟨by rw [Program.fieldsOf, Try.underlying54], by kernel_rfl, by kernel_rfl⟩
theorem eqreg (a0 a1 a2 a3 a4 b0 b1 b2 b3 b4 : Int) : EqRun Try.prog 9998 #[.int .i64 a0, .int .i64 a1, .int .i64 a2, .int .i64 a3, .int .i64 a4] #[.int .i64 b0, .int .i64 b1, .int .i64 b2, .int .i64 b3, .int .i64 b4] (Try.prog.fieldsOf 54).toList [(a0 == b0), ([a1, a2, a3, a4] == [b1, b2, b3, b4])] := by
  rw [Program.fieldsOf, Try.underlying54]
  exact ⟨by decide, ⟨.int .i64 a0, .int .i64 b0, fun _ => by kernel_rfl, fun _ => by kernel_rfl, fun _ => run_equalIn_int _ _ _ _ _ _ _ Try.underlying44⟩, by decide, ⟨.agg #[.int .i64 a1, .int .i64 a2, .int .i64 a3, .int .i64 a4], .agg #[.int .i64 b1, .int .i64 b2, .int .i64 b3, .int .i64 b4], fun _ => by kernel_rfl, fun _ => by kernel_rfl, fun W => eq_inner st32 (eq32 _ _ _ _ _ _ _ _) W⟩, trivial⟩
theorem en8 : Ent Try.prog 8 := ent_of Try.func8 (by kernel_rfl) rfl
theorem en10 : Ent Try.prog 10 := ent_of Try.func10 (by kernel_rfl) rfl
theorem en22 : Ent Try.prog 22 := ent_of Try.func22 (by kernel_rfl) rfl
theorem a54 : TyA Try.prog 54 5 := ⟨⟨_, Try.underlying54, rfl⟩, by kernel_rfl⟩

/-- barscan/barscanlaw46.RegionsCuts -/
theorem cuts_c (W H : Int) (A : Option Addr) (n c : Nat) (f : Nat → Bool) (gx : Int) (gy : Int) (w : World) (hr : Rd w A (tab n (bv f)))  :
    Calls Try.prog 7 #[.agg #[.int .i64 W, .int .i64 H, .slice A n c], .int .i64 gx, .int .i64 gy] w (fun e w' => e = .returned (.bool true) ∧ Ext w w') := by
  refine calls_enter (N := ⟨85, []⟩) [] ([]) Try.func7 rfl rfl rfl (Ow.start _) ?_
  refine gc_seq ?_
  refine gc_region ?_
  refine nx (xo_boxA rfl rfl) rfl ?_
  rintro _ _ ⟨g3, rfl, rfl⟩
  refine ne (eo_as rfl rfl) rfl ?_
  refine go_nil ?_
  refine gq_next ?_
  refine gc_seq ?_
  refine gc_seq ?_
  refine gc_region ?_
  refine ne (eo_loadA 0 rfl a24 rfl rfl rfl rfl) rfl ?_
  refine ne (eo_call rfl en8 rfl (fun W1 hO => few_c _ _ _ _ _ _ W1 (hr.old0 hO) )) rfl ?_
  refine ne (eo_not rfl rfl) rfl ?_
  refine go_nil ?_
  refine gq_next ?_
  refine gc_cond rfl (fun hc0 => ?_) (fun hc0 => ?_)
  ·
    have hd0 := of_decide_eq_false (not_t hc0)
    refine gc_seq ?_
    refine gc_region ?_
    refine ne (eo_call rfl en10 rfl (fun W1 hO => alive46_c W1  )) rfl ?_
    refine ne (eo_as rfl rfl) rfl ?_
    refine go_nil ?_
    refine gq_next ?_
    refine gc_ret ?_
    refine gq_then_ret ?_
    refine gq_results (res1 rfl rfl) ?_
    exact fun W1 hO => ⟨rfl, hO.toExt⟩
  ·
    have hd0 := of_decide_eq_true (not_f hc0)
    refine gc_skip ?_
    refine gq_next ?_
    refine gc_seq ?_
    refine gc_region ?_
    refine ne (eo_loadA 0 rfl a24 rfl rfl rfl rfl) rfl ?_
    refine ne (eo_mv rfl rfl) rfl ?_
    refine ne (eo_mv rfl rfl) rfl ?_
    refine nx (xo_freshT rfl en11 rfl (fun W1 hO => cut_x _ _ _ _ _ _ _ _ W1 (hr.old0 hO) (by omega))) rfl ?_
    rintro _ _ ⟨S24, ⟨A24, k24, rfl, hk24, hS24⟩, rfl⟩
    refine ne (eo_mv rfl rfl) rfl ?_
    refine ne (eo_extract rfl rfl rfl) rfl ?_
    refine ne (eo_extract rfl rfl rfl) rfl ?_
    refine ne (eo_as rfl rfl) rfl ?_
    refine ne (eo_as rfl rfl) rfl ?_
    refine go_nil ?_
    refine gq_next ?_
    refine gc_seq ?_
    refine gc_region ?_
    refine ne (eo_loadA 0 rfl a24 rfl rfl rfl rfl) rfl ?_
    refine ne (eo_mv rfl rfl) rfl ?_
    refine ne (eo_mv rfl rfl) rfl ?_
    refine nx (xo_freshT rfl en20 rfl (fun W1 hO => rcut_x _ _ _ _ _ _ _ _ W1 (hr.old0 hO) (by omega))) rfl ?_
    rintro _ _ ⟨S31, ⟨A31, k31, rfl, hk31, hS31⟩, rfl⟩
    refine ne (eo_mv rfl rfl) rfl ?_
    refine ne (eo_extract rfl rfl rfl) rfl ?_
    refine ne (eo_extract rfl rfl rfl) rfl ?_
    refine ne (eo_as rfl rfl) rfl ?_
    refine ne (eo_as rfl rfl) rfl ?_
    refine go_nil ?_
    refine gq_next ?_
    refine gc_seq ?_
    refine gc_region ?_
    refine ne (eo_loadA 0 rfl a24 rfl rfl rfl rfl) rfl ?_
    refine ne (eo_mv rfl rfl) rfl ?_
    refine ne (eo_mv rfl rfl) rfl ?_
    refine nx (xo_freshT rfl en21 rfl (fun W1 hO => regions_x _ _ _ _ _ _ _ _ W1 (hr.old0 hO) (by omega))) rfl ?_
    rintro _ _ ⟨S38, ⟨A38, k38, rfl, hk38, hS38⟩, rfl⟩
    refine ne (eo_mv rfl rfl) rfl ?_
    refine ne (eo_extract rfl rfl rfl) rfl ?_
    refine ne (eo_extract rfl rfl rfl) rfl ?_
    refine ne (eo_as rfl rfl) rfl ?_
    refine ne (eo_as rfl rfl) rfl ?_
    refine go_nil ?_
    refine gq_next ?_
    refine gc_seq ?_
    refine gc_region ?_
    refine ne (eo_loadA 0 rfl a24 rfl rfl rfl rfl) rfl ?_
    refine ne (eo_mv rfl rfl) rfl ?_
    refine ne (eo_mv rfl rfl) rfl ?_
    refine nx (xo_freshT rfl en22 rfl (fun W1 hO => rregions_x _ _ _ _ _ _ _ _ W1 (hr.old0 hO) (by omega))) rfl ?_
    rintro _ _ ⟨S45, ⟨A45, k45, rfl, hk45, hS45⟩, rfl⟩
    refine ne (eo_mv rfl rfl) rfl ?_
    refine ne (eo_extract rfl rfl rfl) rfl ?_
    refine ne (eo_extract rfl rfl rfl) rfl ?_
    refine ne (eo_as rfl rfl) rfl ?_
    refine ne (eo_as rfl rfl) rfl ?_
    refine go_nil ?_
    refine gq_next ?_
    refine gc_seq ?_
    refine gc_seq ?_
    refine gc_region ?_
    refine ne (eo_mv rfl rfl) rfl ?_
    refine ne (eo_mv rfl rfl) rfl ?_
    refine ne (eo_call rfl en23 rfl (fun W1 hO => calls_bool (b' := true) eqS_rf (boxes_c _ _ _ _ _ _ _ _ W1 (hS24.rd (hO.tl 1 rfl (((List.sublist_append_left _ _).trans (List.sublist_append_left _ _)).trans (List.sublist_append_left _ _)))) (hS31.rd (hO.tl 1 rfl (((List.sublist_append_right _ _).trans (List.sublist_append_left _ _)).trans (List.sublist_append_left _ _)))) (Nat.le_trans cutR_len (by omega))))) rfl ?_
    refine ne (eo_not rfl rfl) rfl ?_
    refine ne (eo_mv rfl rfl) rfl ?_
    refine ng rfl rfl (fun h => eo_mv rfl rfl) rfl ?_
    refine ng rfl rfl (fun h => eo_mv rfl rfl) rfl ?_
    refine ng rfl rfl (fun h => eo_neq rfl (ev_if h rfl) (ev_if h rfl)) rfl ?_
    refine ne (eo_or rfl rfl (fun hb => ev_if hb rfl)) rfl ?_
    refine ne (eo_mv rfl rfl) rfl ?_
    refine ng rfl rfl (fun h => eo_mv rfl rfl) rfl ?_
    refine ng rfl rfl (fun h => eo_len rfl Try.underlying49 (ev_if h rfl)) rfl ?_
    refine ng rfl rfl (fun h => eo_mv rfl rfl) rfl ?_
    refine ng rfl rfl (fun h => eo_len rfl Try.underlying49 (ev_if h rfl)) rfl ?_
    refine ng rfl rfl (fun h => eo_neq rfl (ev_if h rfl) (ev_if h rfl)) rfl ?_
    refine ne (eo_or rfl rfl (fun hb => ev_if hb rfl)) rfl ?_
    refine ne (eo_mv rfl rfl) rfl ?_
    refine ng rfl rfl (fun h => eo_mv rfl rfl) rfl ?_
    refine ng rfl rfl (fun h => eo_mv rfl rfl) rfl ?_
    refine ng rfl rfl (fun h => eo_neq rfl (ev_if h rfl) (ev_if h rfl)) rfl ?_
    refine ne (eo_or rfl rfl (fun hb => ev_if hb rfl)) rfl ?_
    refine go_nil ?_
    refine gq_next ?_
    refine gc_cond rfl (fun hc1 => ?_) (fun hc1 => ?_)
    ·
      have hd1 := (or_t hc1).imp (fun h => (or_t h).imp (fun h => (or_t h).imp (fun h => (not_t h)) (fun h => of_decide_eq_true h)) (fun h => of_decide_eq_true h)) (fun h => of_decide_eq_true h)
      exfalso
      rcases hd1 with ((q | q) | q) | q
      · cases q
      · exact q rfl
      · exact q rfl
      · exact q rfl
    ·
      have hd1 := (or_f hc1).imp (fun h => (or_f h).imp (fun h => (or_f h).imp (fun h => (not_f h)) (fun h => ne_f h)) (fun h => ne_f h)) (fun h => ne_f h)
      refine gc_skip ?_
      refine gq_next ?_
      refine gc_seq ?_
      refine gc_seq ?_
      refine gc_region ?_
      refine ne (eo_mv rfl rfl) rfl ?_
      refine ne (eo_len rfl Try.underlying49 rfl) rfl ?_
      refine ne (eo_mv rfl rfl) rfl ?_
      refine go_nil ?_
      refine gq_next ?_
      refine gc_block ?_
      refine loop1 (fun (i : Nat) => i ≤ (cutR ⟨W, H, n, f⟩ gx gy).1.length) (fun (i : Nat) => (cutR ⟨W, H, n, f⟩ gx gy).1.length - i) (fun (i : Nat) => [(11, .slice A38 ((cutR ⟨W, H, n, f⟩ gx gy).1.length) k38), (13, .slice A45 ((cutR ⟨W, H, n, f⟩ gx gy).1.length) k45), (70, .int .i64 (((cutR ⟨W, H, n, f⟩ gx gy).1.length : Nat) : Int)), (71, .int .i64 (i : Int))]) (fun (i : Nat) => ⟨g3, 24, [.int .i64 W, .int .i64 H, .slice A n c]⟩ :: (((S24 ++ S31) ++ S38) ++ S45)) 0 (by omega) ⟨rfl, rfl, rfl, rfl, trivial⟩ (List.Sublist.refl _) ?_
      intro i hi
      refine gc_seq ?_
      refine gc_region ?_
      refine ne (eo_lss rfl rfl rfl) rfl ?_
      refine go_nil ?_
      refine gq_next ?_
      refine gc_seq ?_
      refine gc_cond rfl (fun hc2 => ?_) (fun hc2 => ?_)
      ·
        replace hc2 := of_decide_eq_true hc2
        have hcl := cutR_len (W := W) (H := H) (n := n) (f := f) (gx := gx) (gy := gy)
        refine gc_skip ?_
        refine gq_next ?_
        refine gc_seq ?_
        refine gc_block ?_
        refine gc_seq ?_
        refine gc_region ?_
        refine ne (eo_mv rfl rfl) rfl ?_
        refine ne (eo_as rfl rfl) rfl ?_
        refine go_nil ?_
        refine gq_next ?_
        refine gc_seq ?_
        refine gc_draw [] [0, 1, 2, 3, 4, 5, 6, 7, 8] [] [] (by kernel_rfl) (by kernel_rfl) ?_
        refine gp_nil ?_
        refine de rfl (eo_mv rfl rfl) rfl ?_
        refine de rfl (eo_mv rfl rfl) rfl ?_
        refine de rfl (eo_indexNS rfl sl49 rfl rfl (fun W1 hO => (hS38.rd (hO.tl 1 rfl ((List.sublist_append_right _ _).trans (List.sublist_append_left _ _))))) (by omega) (by omega) (by omega)) rfl ?_
        refine de rfl (eo_loadNA rfl a54 rfl (fun W1 hO => (hS38.rd (hO.tl 1 rfl ((List.sublist_append_right _ _).trans (List.sublist_append_left _ _))))) (by omega)) rfl ?_
        refine de rfl (eo_mv rfl rfl) rfl ?_
        refine de rfl (eo_mv rfl rfl) rfl ?_
        refine de rfl (eo_indexNS rfl sl49 rfl rfl (fun W1 hO => (hS45.rd (hO.tl 1 rfl (List.sublist_append_right _ _)))) (by omega) (by omega) (by omega)) rfl ?_
        refine de rfl (eo_loadNA rfl a54 rfl (fun W1 hO => (hS45.rd (hO.tl 1 rfl (List.sublist_append_right _ _)))) (by omega)) rfl ?_
        refine de rfl (eo_neA2 rfl rfl rfl st54 (eqreg _ _ _ _ _ _ _ _ _ _)) rfl ?_
        refine ge_nil ?_
        refine ga_nil ?_
        refine gi_nil ?_
        refine gq_nq ?_
        refine gq_next ?_
        refine gc_cond rfl (fun hc3 => ?_) (fun hc3 => ?_)
        ·
          exact absurd (not_t hc3) (by simp)
        ·
          refine gc_skip ?_
          refine gq_block_end ?_
          refine gq_next ?_
          refine gc_region ?_
          refine ne (eo_add rfl rfl rfl (by omega) (by omega)) rfl ?_
          refine ne (eo_mv rfl rfl) rfl ?_
          refine go_nil ?_
          exact round1 (i + 1) (by omega) (by omega) ⟨rfl, rfl, rfl, rfl, trivial⟩ (List.Sublist.refl _)
      ·
        replace hc2 := of_decide_eq_false hc2
        refine gc_exit ?_
        refine gq_then_exit ?_
        refine gq_then_exit ?_
        refine gq_block_hit ?_
        refine gq_next ?_
        refine gc_seq ?_
        refine gc_region ?_
        refine ne (eo_call rfl en10 rfl (fun W1 hO => alive46_c W1  )) rfl ?_
        refine ne (eo_as rfl rfl) rfl ?_
        refine go_nil ?_
        refine gq_next ?_
        refine gc_ret ?_
        refine gq_results (res1 rfl rfl) ?_
        exact fun W1 hO => ⟨rfl, hO.toExt⟩

end Go.Proofs.Ytnmiljloifbjeaa
