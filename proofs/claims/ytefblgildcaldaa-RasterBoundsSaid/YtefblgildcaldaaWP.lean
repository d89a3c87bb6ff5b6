/-
  The walks of the functions of package raster and of the document's answer (part P): what each call returns, at every argument.
-/
import Derived.Test.YtefblgildcaldaaWN
import Derived.Test.YtefblgildcaldaaRb
namespace Go.Proofs.Ytefblgildcaldaa
open Go.RowKit Go.Eng

open Go.Bs
theorem z4 : TyZ Try.prog 4 [.bool false] := .inr ⟨_, rfl, rfl, by kernel_rfl⟩
theorem en13 : Ent Try.prog 13 := ent_of Try.func13 (by kernel_rfl) rfl
theorem en18 : Ent Try.prog 18 := ent_of Try.func18 (by kernel_rfl) rfl
theorem en19 : Ent Try.prog 19 := ent_of Try.func19 (by kernel_rfl) rfl
theorem z40 : TyZ Try.prog 40 [.slice none 0 0] := .inr ⟨_, rfl, rfl, by kernel_rfl⟩
theorem s40 : TyS Try.prog 40 := ⟨⟨_, Try.underlying40, rfl⟩, by kernel_rfl⟩
theorem st43 : StEq Try.prog 43 := ⟨by rw [Program.fieldsOf, Try.underlying43], by kernel_rfl, by kernel_rfl⟩
theorem eq43 (a0 a1 b0 b1 : Int) : EqOk Try.prog #[.int .i64 a0, .int .i64 a1] #[.int .i64 b0, .int .i64 b1] (Try.prog.fieldsOf 43).toList [a0, a1] [b0, b1] := by
  rw [Program.fieldsOf, Try.underlying43]
  exact ⟨by decide, fun _ => by kernel_rfl, fun _ => by kernel_rfl, Try.underlying3, by decide, fun _ => by kernel_rfl, fun _ => by kernel_rfl, Try.underlying3, trivial⟩
theorem s34 : TyS Try.prog 34 := ⟨⟨_, Try.underlying34, rfl⟩, by kernel_rfl⟩

theorem clone_T (A : Option Addr) (n c : Nat) (f : Nat → Bool) (w : World) (hr : Rd w A (tab n (bv f))) (hn : n ≤ 1073741824) : Calls Try.prog 53 #[.slice A n c] w (fun e w' => ∃ v Hn, e = .returned v ∧ RLb 4 n f v Hn ∧ Ow [] w w' Hn) :=
  (clone_c _ _ _ _ w hr (by simp) tab_oneb (by omega)).mono fun e w1 ⟨v, Hn, he, hR, hO⟩ => ⟨v, Hn, he, rlb_of hR, hO⟩

/-- barscan/raster.Pixels -/
theorem pixels_x (W H : Int) (A : Option Addr) (n c : Nat) (f : Nat → Bool) (w : World) (hr : Rd w A (tab n (bv f))) (hn : n ≤ 1073741824) :
    Calls Try.prog 19 #[.agg #[.int .i64 W, .int .i64 H, .slice A n c]] w (fun e w' => ∃ v Hn, e = .returned v ∧ RPix 64 24 4 W H n f v Hn ∧ Ow [] w w' Hn) := by
  refine calls_enter (N := ⟨9, []⟩) [] ([]) Try.func19 rfl rfl rfl (Ow.start _) ?_
  refine gc_seq ?_
  refine gc_region ?_
  refine nx (xo_boxA rfl rfl) rfl ?_
  rintro _ _ ⟨g1, rfl, rfl⟩
  refine ne (eo_as rfl rfl) rfl ?_
  refine go_nil ?_
  refine gq_next ?_
  refine gc_seq ?_
  refine gc_region ?_
  refine ne (eo_field rfl f24_2 rfl) rfl ?_
  refine ne (eo_load 0 rfl s22 rfl rfl rfl rfl) rfl ?_
  refine nx (xo_freshT rfl en53 rfl (fun W1 hO => clone_T _ _ _ _ W1 (hr.old0 hO) (by omega))) rfl ?_
  rintro _ _ ⟨_, ⟨s5, rfl, hs5, rfl⟩, rfl⟩
  refine ne (eo_field rfl f24_2 rfl) rfl ?_
  refine nu (xo_store 0 rfl s22 rfl rfl (by first | rfl | exact AS.one) rfl rfl (by simp)) ?_
  rintro _ _ ⟨rfl, rfl⟩
  refine go_nil ?_
  refine gq_next ?_
  refine gc_seq ?_
  refine gc_region ?_
  refine ne (eo_loadA 0 rfl a24 rfl rfl rfl rfl) rfl ?_
  refine nx (xo_fresh rfl en52 rfl (fun W1 hO => dark_c _ _ _ _ _ W1)) rfl ?_
  rintro _ _ ⟨_, ⟨gd8, rfl, rfl⟩, rfl⟩
  refine ne (eo_as rfl rfl) rfl ?_
  refine go_nil ?_
  refine gq_next ?_
  refine gc_ret ?_
  refine gq_results (res1 rfl rfl) ?_
  exact fun W1 hO => ⟨_, _, rfl, ⟨gd8, s5, rfl, hs5, rfl⟩, hO.sub (List.Sublist.cons_cons _ (List.Sublist.cons _ (List.Sublist.refl _)))⟩

/-- barscan/barscanlaw31.RasterBounds -/
theorem lbounds_c (W H : Int) (A : Option Addr) (n c : Nat) (f : Nat → Bool) (mo : Int) (w : World) (hr : Rd w A (tab n (bv f))) (m0 : 0 ≤ mo) (m1 : mo ≤ 65535) :
    Calls Try.prog 4 #[.agg #[.int .i64 W, .int .i64 H, .slice A n c], .int .u16 mo] w (fun e w' => e = .returned (.bool true) ∧ Ext w w') := by
  refine calls_marks (N := ⟨75, []⟩) [] [] Try.func4 rfl rfl rfl (Ow.start _) ?_
  refine gc_seq ?_
  refine gc_region ?_
  refine nx (xo_boxA rfl rfl) rfl ?_
  rintro _ _ ⟨g2, rfl, rfl⟩
  refine nx (xo_box rfl rfl (by first | rfl | exact AS.one)) rfl ?_
  rintro _ _ ⟨g3, rfl, rfl⟩
  refine nx (xo_alloc rfl z4) rfl ?_
  rintro _ _ ⟨g4, rfl, rfl⟩
  refine go_nil ?_
  refine gq_next ?_
  refine gc_seq ?_
  refine gc_seq ?_
  refine gc_region ?_
  refine ne (eo_field rfl f24_2 rfl) rfl ?_
  refine ne (eo_load 2 rfl s22 rfl rfl rfl rfl) rfl ?_
  refine ne (eo_len rfl Try.underlying22 rfl) rfl ?_
  refine ne (eo_gtr rfl rfl rfl) rfl ?_
  refine go_nil ?_
  refine gq_next ?_
  refine gc_cond rfl (fun hc0 => ?_) (fun hc0 => ?_)
  ·
    replace hc0 := of_decide_eq_true hc0
    refine gc_seq ?_
    refine gc_region ?_
    refine ne (eo_call rfl en13 rfl (fun W1 hO => examples_c W1  )) rfl ?_
    refine nu (xo_store 0 rfl s4 rfl rfl (by first | rfl | exact AS.one) rfl rfl (by simp)) ?_
    rintro _ _ ⟨rfl, rfl⟩
    refine go_nil ?_
    refine gq_next ?_
    refine gc_ret ?_
    refine gq_then_ret ?_
    refine gq_plain (resCS 0 rfl s4 rfl rfl rfl rfl) ?_
    exact fun W2 hO2 => ⟨rfl, hO2.toExt⟩
  ·
    replace hc0 := of_decide_eq_false hc0
    refine gc_skip ?_
    refine gq_next ?_
    refine gc_seq ?_
    refine gc_region ?_
    refine ne (eo_loadA 2 rfl a24 rfl rfl rfl rfl) rfl ?_
    refine ne (eo_call rfl en17 rfl (fun W1 hO => calls_v (boxOf_eq (dotsV W H n f)) (bounds_c _ _ _ _ _ _ W1 (hr.old0 hO)))) rfl ?_
    refine ne (eo_mv rfl rfl) rfl ?_
    refine ne (eo_extract rfl rfl rfl) rfl ?_
    refine ne (eo_extract rfl rfl rfl) rfl ?_
    refine nx (xo_alloc rfl z26) rfl ?_
    rintro _ _ ⟨g5, rfl, rfl⟩
    refine nu (xo_storeA 0 rfl a26 rfl rfl (ones_cons (by first | rfl | exact AS.one) (ones_cons (by first | rfl | exact AS.one) (ones_cons (by first | rfl | exact AS.one) (ones_cons (by first | rfl | exact AS.one) ones_nil)))) rfl rfl rfl rfl) ?_
    rintro _ _ ⟨rfl, rfl⟩
    refine ne (eo_as rfl rfl) rfl ?_
    refine go_nil ?_
    refine gq_next ?_
    refine gc_seq ?_
    refine gc_region ?_
    refine ne (eo_loadA 3 rfl a24 rfl rfl rfl rfl) rfl ?_
    refine ne (eo_call rfl en18 rfl (fun W1 hO => calls_v (boxOf_eq (dotsV W H n f)) (rbounds_c _ _ _ _ _ _ W1 (hr.old0 hO)))) rfl ?_
    refine ne (eo_mv rfl rfl) rfl ?_
    refine ne (eo_extract rfl rfl rfl) rfl ?_
    refine ne (eo_extract rfl rfl rfl) rfl ?_
    refine nx (xo_alloc rfl z26) rfl ?_
    rintro _ _ ⟨g7, rfl, rfl⟩
    refine nu (xo_storeA 0 rfl a26 rfl rfl (ones_cons (by first | rfl | exact AS.one) (ones_cons (by first | rfl | exact AS.one) (ones_cons (by first | rfl | exact AS.one) (ones_cons (by first | rfl | exact AS.one) ones_nil)))) rfl rfl rfl rfl) ?_
    rintro _ _ ⟨rfl, rfl⟩
    refine ne (eo_as rfl rfl) rfl ?_
    refine go_nil ?_
    refine gq_next ?_
    refine gc_seq ?_
    refine gc_region ?_
    refine ne (eo_loadA 4 rfl a24 rfl rfl rfl rfl) rfl ?_
    refine nx (xo_freshT rfl en19 rfl (fun W1 hO => pixels_x _ _ _ _ _ _ W1 (hr.old0 hO) (by omega))) rfl ?_
    rintro _ _ ⟨S29, ⟨gp, sp, rfl, hsp, hSp⟩, rfl⟩
    refine ne (eo_as rfl rfl) rfl ?_
    refine go_nil ?_
    refine gq_next ?_
    refine gc_seq ?_
    refine gc_region ?_
    refine ne (eo_loadA 4 rfl a24 rfl rfl rfl rfl) rfl ?_
    refine nx (xo_freshT rfl en20 rfl (fun W1 hO => dots_x _ _ _ _ _ _ W1 (hr.old0 hO))) rfl ?_
    rintro _ _ ⟨S31, ⟨A31, k31, rfl, hk31, hS31⟩, rfl⟩
    refine nx (xo_alloc rfl z40) rfl ?_
    rintro _ _ ⟨g10, rfl, rfl⟩
    refine nu (xo_store 0 rfl s40 rfl rfl (by first | rfl | exact AS.one) rfl rfl (by simp)) ?_
    rintro _ _ ⟨rfl, rfl⟩
    refine go_nil ?_
    refine gq_next ?_
    refine gc_seq ?_
    refine gc_seq ?_
    refine gc_region ?_
    refine ne (eo_loadA 2 rfl a26 rfl rfl rfl rfl) rfl ?_
    refine ne (eo_loadA 1 rfl a26 rfl rfl rfl rfl) rfl ?_
    refine ne (eo_neA rfl rfl rfl st26 (eq26 _ _ _ _ _ _ _ _)) rfl ?_
    refine ne (eo_mv rfl rfl) rfl ?_
    refine ng rfl rfl (fun h => eo_mv rfl rfl) rfl ?_
    refine ng rfl rfl (fun h => eo_mv rfl rfl) rfl ?_
    refine ng rfl rfl (fun h => eo_bneq rfl (ev_if h rfl) (ev_if h rfl) Try.underlying4) rfl ?_
    refine ne (eo_or rfl rfl (fun hb => ev_if hb rfl)) rfl ?_
    refine ne (eo_mv rfl rfl) rfl ?_
    refine ng rfl rfl (fun h => eo_mv rfl rfl) rfl ?_
    refine ng rfl rfl (fun h => eo_fnnil rfl (ev_if h rfl) Try.underlying38) rfl ?_
    refine ne (eo_or rfl rfl (fun hb => ev_if hb rfl)) rfl ?_
    refine go_nil ?_
    refine gq_next ?_
    refine gc_cond rfl (fun hc1 => ?_) (fun hc1 => ?_)
    ·
      have hd1 := (or_t hc1).imp (fun h => (or_t h).imp (fun h => h) (fun h => h)) (fun h => h)
      exact Bool.noConfusion (hc1.symm.trans (show (((!([(bxX (dotsV W H n f)), (bxY (dotsV W H n f)), (bxW (dotsV W H n f)), (bxH (dotsV W H n f))] == [(bxX (dotsV W H n f)), (bxY (dotsV W H n f)), (bxW (dotsV W H n f)), (bxH (dotsV W H n f))])) || ((bxB (dotsV W H n f)) != (bxB (dotsV W H n f)))) || false) = false from by simp))
    ·
      have hd1 := (or_f hc1).imp (fun h => (or_f h).imp (fun h => h) (fun h => h)) (fun h => h)
      refine gc_skip ?_
      refine gq_next ?_
      refine gc_seq ?_
      refine gc_region ?_
      refine nx (xo_alloc rfl z3) rfl ?_
      rintro _ _ ⟨g11, rfl, rfl⟩
      refine nu (xo_store 0 rfl s3 rfl rfl (by first | rfl | exact AS.one) rfl rfl (by simp)) ?_
      rintro _ _ ⟨rfl, rfl⟩
      refine go_nil ?_
      refine gq_next ?_
      refine gc_seq ?_
      refine gc_seq ?_
      refine gc_region ?_
      refine ne (eo_mv rfl rfl) rfl ?_
      refine go_nil ?_
      refine gq_next ?_
      refine gc_block ?_
      have hmo : 0 ≤ mo := m0
      refine gc_range (α := Int × Int) (enc := fun x => .agg #[.int .i64 x.1, .int .i64 x.2]) (S := fun xs => xs = (dotsV W H n f)) (Sp := fun xs => ∃ i, i < n ∧ f i = true ∧ vldB W H n = true ∧ xs = dotsL W f i ++ [((i : Int) % W, (i : Int) / W)]) (Nn := n + 1) (gB (dotsV W H n f) mo) (fun xs : List (Int × Int) => ⟨g11, 3, [.int .i64 ((xs.length : Nat) : Int)]⟩ :: ⟨g10, 40, [.slice A31 ((dotsV W H n f).length) k31]⟩ :: ⟨g7, 26, [.int .i64 (bxX (dotsV W H n f)), .int .i64 (bxY (dotsV W H n f)), .int .i64 (bxW (dotsV W H n f)), .int .i64 (bxH (dotsV W H n f))]⟩ :: ⟨g5, 26, [.int .i64 (bxX (dotsV W H n f)), .int .i64 (bxY (dotsV W H n f)), .int .i64 (bxW (dotsV W H n f)), .int .i64 (bxH (dotsV W H n f))]⟩ :: ⟨g4, 4, [.bool false]⟩ :: ⟨g3, 34, [.int .u16 mo]⟩ :: ⟨g2, 24, [.int .i64 W, .int .i64 H, .slice A n c]⟩ :: S31) (rB (dotsV W H n f) mo (fun xs : List (Int × Int) => ⟨g11, 3, [.int .i64 ((xs.length : Nat) : Int)]⟩ :: ⟨g10, 40, [.slice A31 ((dotsV W H n f).length) k31]⟩ :: ⟨g7, 26, [.int .i64 (bxX (dotsV W H n f)), .int .i64 (bxY (dotsV W H n f)), .int .i64 (bxW (dotsV W H n f)), .int .i64 (bxH (dotsV W H n f))]⟩ :: ⟨g5, 26, [.int .i64 (bxX (dotsV W H n f)), .int .i64 (bxY (dotsV W H n f)), .int .i64 (bxW (dotsV W H n f)), .int .i64 (bxH (dotsV W H n f))]⟩ :: ⟨g4, 4, [.bool false]⟩ :: ⟨g3, 34, [.int .u16 mo]⟩ :: ⟨g2, 24, [.int .i64 W, .int .i64 H, .slice A n c]⟩ :: S31)) (fun _ Bx => [(12, .pointer (some ⟨Bx, 0, none⟩)), (11, .pointer (some ⟨g11, 0, none⟩)), (10, .pointer (some ⟨g10, 0, none⟩)), (3, .pointer (some ⟨g3, 0, none⟩)), (4, .pointer (some ⟨g4, 0, none⟩))]) 43 (fun x => [.int .i64 x.1, .int .i64 x.2]) rfl en64 rfl (List.Sublist.cons_cons _ (List.Sublist.cons_cons _ (List.Sublist.cons_cons _ (List.Sublist.cons_cons _ (List.Sublist.cons_cons _ (List.Sublist.cons_cons _ (List.Sublist.cons_cons _ (List.sublist_append_right S29 S31)))))))) (fun _ => rfl) (gB_nil hmo) (fun _ _ _ h => h.1) (fun W1 hO => ?_) ?_ ?_ ?_ ?_
      · have h := pix_facts (A := [⟨g11, 3, [.int .i64 ((([] : List (Int × Int)).length : Nat) : Int)]⟩, ⟨g10, 40, [.slice A31 ((dotsV W H n f).length) k31]⟩, ⟨g7, 26, [.int .i64 (bxX (dotsV W H n f)), .int .i64 (bxY (dotsV W H n f)), .int .i64 (bxW (dotsV W H n f)), .int .i64 (bxH (dotsV W H n f))]⟩, ⟨g5, 26, [.int .i64 (bxX (dotsV W H n f)), .int .i64 (bxY (dotsV W H n f)), .int .i64 (bxW (dotsV W H n f)), .int .i64 (bxH (dotsV W H n f))]⟩, ⟨g4, 4, [.bool false]⟩, ⟨g3, 34, [.int .u16 mo]⟩, ⟨g2, 24, [.int .i64 W, .int .i64 H, .slice A n c]⟩]) (C := S31) hsp hSp hO
        exact dark_seq W H sp.adr n sp.cap f gp _ W1 h.1 h.2.1 h.2.2.1 h.2.2.2.1 h.2.2.2.2
      · intro l pre x W1 hG
        refine gr_region rfl (by rintro ⟨_, _, h⟩; exact h) ?_
        refine nx (xo_alloc rfl z43) rfl ?_
        rintro _ _ ⟨g12, rfl, rfl⟩
        refine nu (xo_storeA 0 rfl a43 rfl rfl (ones_cons (by first | rfl | exact AS.one) (ones_cons (by first | rfl | exact AS.one) ones_nil)) rfl rfl rfl rfl) ?_
        rintro _ _ ⟨rfl, rfl⟩
        refine go_nil ?_
        exact fun a5 W5 hF5 hO5 => ⟨_, hF5.weak ⟨rfl, rfl, rfl, rfl, rfl, trivial⟩, hO5⟩
      · intro l pre x g12 W1 hG hlen
        obtain ⟨hG1, hG2⟩ := hG
        have hdl := dotsV_le (W := W) (H := H) (n := n) (f := f)
        refine gr_block ?_
        refine gr_seq ?_
        refine gr_seq ?_
        refine gr_draw rfl [] [0, 1, 2, 3, 4, 5, 6, 7, 8, 9, 10, 11] [] [] (by kernel_rfl) (by kernel_rfl) ?_
        refine gp_nil ?_
        refine de rfl (eo_load 1 rfl s3 rfl rfl rfl rfl) rfl ?_
        refine de rfl (eo_load 2 rfl s40 rfl rfl rfl rfl) rfl ?_
        refine de rfl (eo_len rfl Try.underlying40 rfl) rfl ?_
        refine de rfl (eo_geq rfl rfl rfl) rfl ?_
        refine de rfl (eo_mv rfl rfl) rfl ?_
        refine dg rfl rfl rfl (fun h => eo_loadA 0 rfl a43 rfl rfl rfl rfl) rfl ?_
        refine dg rfl rfl rfl (fun h => eo_load 2 rfl s40 rfl rfl rfl rfl) rfl ?_
        refine dg rfl rfl rfl (fun h => eo_load 1 rfl s3 rfl rfl rfl rfl) rfl ?_
        refine dg rfl rfl rfl (fun h => eo_indexNS rfl sl40 (ev_if h rfl) (ev_if h rfl) (fun W1 hO => (hS31.rd (hO.tl 8 rfl (List.Sublist.refl _)))) (by have hg0 := of_decide_eq_false h; omega) (by have hg0 := of_decide_eq_false h; omega) (by have hg0 := of_decide_eq_false h; omega)) rfl ?_
        refine dg rfl rfl rfl (fun h => eo_loadNA rfl a43 (ev_if h rfl) (fun W1 hO => (hS31.rd (hO.tl 8 rfl (List.Sublist.refl _)))) (by have hg0 := of_decide_eq_false h; omega)) rfl ?_
        refine dg rfl rfl rfl (fun h => eo_neA rfl (ev_if h rfl) (ev_if h rfl) st43 (eq43 _ _ _ _)) rfl ?_
        refine de rfl (eo_or rfl rfl (fun hb => ev_if hb rfl)) rfl ?_
        refine ge_nil ?_
        refine ga_nil ?_
        refine gi_nil ?_
        refine gq_nq ?_
        refine gqr_next ?_
        refine gr_cond rfl (fun hc2 => ?_) (fun hc2 => ?_)
        ·
          have hd2 := (or_t hc2).imp (fun h => of_decide_eq_true h) (fun h => h)
          refine gr_seq ?_
          refine gr_region rfl (by rintro ⟨_, _, h⟩; exact h) ?_
          refine nu (xo_store 5 rfl s4 rfl rfl (by first | rfl | exact AS.one) rfl rfl (by simp)) ?_
          rintro _ _ ⟨rfl, rfl⟩
          refine go_nil ?_
          refine gqr_next ?_
          refine gr_ret ?_
          refine gq_then_ret ?_
          refine gq_block_ret ?_
          intro a5 W5 hF5 hO5
          refine ⟨_, ?_, hO5.sub (List.sublist_cons_self _ _)⟩
          exact ⟨rfl, .inl ⟨rfl, pre, x, rfl, hG1, fun ⟨h1, h2⟩ => by
            rcases hd2 with h | h
            · omega
            · exact pt_ne (i := pre.length) h h2⟩⟩
        ·
          have hd2 := (or_f hc2).imp (fun h => of_decide_eq_false h) (fun h => h)
          have hN := take_next hG1 (by omega) (pt_eq (i := pre.length) hd2.2)
          refine gr_skip ?_
          refine gqr_next ?_
          refine gr_seq ?_
          refine gr_region rfl (by rintro ⟨_, _, h⟩; exact h) ?_
          refine ne (eo_load 1 rfl s3 rfl rfl rfl rfl) rfl ?_
          refine ne (eo_add rfl rfl rfl (by omega) (by omega)) rfl ?_
          refine nu (xo_store 1 rfl s3 rfl rfl (by first | rfl | exact AS.one) rfl rfl (by simp)) ?_
          rintro _ _ ⟨rfl, rfl⟩
          refine go_nil ?_
          refine gqr_next ?_
          refine gr_seq ?_
          refine gr_region rfl (by rintro ⟨_, _, h⟩; exact h) ?_
          refine ne (eo_load 1 rfl s3 rfl rfl rfl rfl) rfl ?_
          refine ne (eo_load 6 rfl s34 rfl rfl rfl rfl) rfl ?_
          refine ne (eo_convi rfl rfl ⟨_, Try.underlying34⟩ Try.underlying3 (by omega) (by omega)) rfl ?_
          refine ne (eo_gtr rfl rfl rfl) rfl ?_
          refine go_nil ?_
          refine gqr_next ?_
          refine gr_cond rfl (fun hc3 => ?_) (fun hc3 => ?_)
          ·
            replace hc3 := of_decide_eq_true hc3
            refine gr_exit ?_
            refine gq_block_miss (by decide) ?_
            intro a5 W5 hF5 hO5
            have h5 := hO5.sub (List.sublist_cons_self _ _)
            have e5 : (((pre ++ [x]).length : Nat) : Int) = ((pre.length : Nat) : Int) + 1 := by simp
            refine ⟨(fun xs : List (Int × Int) => ⟨g11, 3, [.int .i64 ((xs.length : Nat) : Int)]⟩ :: ⟨g10, 40, [.slice A31 ((dotsV W H n f).length) k31]⟩ :: ⟨g7, 26, [.int .i64 (bxX (dotsV W H n f)), .int .i64 (bxY (dotsV W H n f)), .int .i64 (bxW (dotsV W H n f)), .int .i64 (bxH (dotsV W H n f))]⟩ :: ⟨g5, 26, [.int .i64 (bxX (dotsV W H n f)), .int .i64 (bxY (dotsV W H n f)), .int .i64 (bxW (dotsV W H n f)), .int .i64 (bxH (dotsV W H n f))]⟩ :: ⟨g4, 4, [.bool false]⟩ :: ⟨g3, 34, [.int .u16 mo]⟩ :: ⟨g2, 24, [.int .i64 W, .int .i64 H, .slice A n c]⟩ :: S31) (pre ++ [x]), ⟨rfl, .inr ⟨rfl, hN, by rw [e5]; omega, rfl⟩⟩, ?_⟩
            show Ow _ _ _ (⟨g11, 3, [.int .i64 (((pre ++ [x]).length : Nat) : Int)]⟩ :: ⟨g10, 40, [.slice A31 ((dotsV W H n f).length) k31]⟩ :: ⟨g7, 26, [.int .i64 (bxX (dotsV W H n f)), .int .i64 (bxY (dotsV W H n f)), .int .i64 (bxW (dotsV W H n f)), .int .i64 (bxH (dotsV W H n f))]⟩ :: ⟨g5, 26, [.int .i64 (bxX (dotsV W H n f)), .int .i64 (bxY (dotsV W H n f)), .int .i64 (bxW (dotsV W H n f)), .int .i64 (bxH (dotsV W H n f))]⟩ :: ⟨g4, 4, [.bool false]⟩ :: ⟨g3, 34, [.int .u16 mo]⟩ :: ⟨g2, 24, [.int .i64 W, .int .i64 H, .slice A n c]⟩ :: S31)
            rw [e5]
            exact h5
          ·
            replace hc3 := of_decide_eq_false hc3
            refine gr_skip ?_
            refine gq_block_end ?_
            intro a5 W5 hF5 hO5
            have h5 := hO5.sub (List.sublist_cons_self _ _)
            have e5 : (((pre ++ [x]).length : Nat) : Int) = ((pre.length : Nat) : Int) + 1 := by simp
            refine ⟨⟨hN, by rw [e5]; omega⟩, ?_⟩
            show Ow _ _ _ (⟨g11, 3, [.int .i64 (((pre ++ [x]).length : Nat) : Int)]⟩ :: ⟨g10, 40, [.slice A31 ((dotsV W H n f).length) k31]⟩ :: ⟨g7, 26, [.int .i64 (bxX (dotsV W H n f)), .int .i64 (bxY (dotsV W H n f)), .int .i64 (bxW (dotsV W H n f)), .int .i64 (bxH (dotsV W H n f))]⟩ :: ⟨g5, 26, [.int .i64 (bxX (dotsV W H n f)), .int .i64 (bxY (dotsV W H n f)), .int .i64 (bxW (dotsV W H n f)), .int .i64 (bxH (dotsV W H n f))]⟩ :: ⟨g4, 4, [.bool false]⟩ :: ⟨g3, 34, [.int .u16 mo]⟩ :: ⟨g2, 24, [.int .i64 W, .int .i64 H, .slice A n c]⟩ :: S31)
            rw [e5]
            exact h5
      · rintro D xs W1 hS ⟨hG1, hG2⟩ hOD hD hK
        have hDn := mark_notin hOD hK
        have hDy := ids_mark hOD hD
        have hln : xs.length = min (dotsV W H n f).length (mo + 1).toNat := by rw [hS] at hG2 ⊢; omega
        have hdl := dotsV_le (W := W) (H := H) (n := n) (f := f)
        refine gq_block_end ?_
        refine gq_next ?_
        refine gc_seq ?_
        refine gc_region ?_
        refine ne (eo_load 0 rfl s3 rfl rfl rfl rfl) rfl ?_
        refine ne (eo_load 1 rfl s40 rfl rfl rfl rfl) rfl ?_
        refine ne (eo_len rfl Try.underlying40 rfl) rfl ?_
        refine ne (eo_load 5 rfl s34 rfl rfl rfl rfl) rfl ?_
        refine ne (eo_convi rfl rfl ⟨_, Try.underlying34⟩ Try.underlying3 (by omega) (by omega)) rfl ?_
        refine ne (eo_add rfl rfl rfl (by omega) (by omega)) rfl ?_
        refine ne (eo_min rfl rfl rfl) rfl ?_
        refine ne (eo_eql rfl rfl rfl) rfl ?_
        refine ne (eo_mv rfl rfl) rfl ?_
        refine ng rfl rfl (fun h => eo_call rfl en13 rfl (fun W1 hO => examples_c W1  )) rfl ?_
        refine ne (eo_and rfl rfl (fun hb => ev_if hb rfl)) rfl ?_
        refine nu (xo_store 4 rfl s4 rfl rfl (by first | rfl | exact AS.one) rfl rfl (by simp)) ?_
        rintro _ _ ⟨rfl, rfl⟩
        refine go_nil ?_
        refine gq_next ?_
        refine gc_ret ?_
        refine gq_marks hK hDn (resCS 4 rfl s4 rfl rfl rfl rfl) ?_
        exact fun W2 hO2 => ⟨ret_bool (show (decide (((xs.length : Nat) : Int) = (min (((dotsV W H n f).length : Nat) : Int) (mo + 1))) && true) = true from by simp; omega), (hOD.back hO2 hDy).toExt⟩
      · rintro D c1 xs H1 W1 hSp ⟨hids, hRB⟩ hOD hD hK
        rcases hRB with ⟨rfl, hret⟩ | ⟨rfl, hx1, hx2, rfl⟩
        · exact (stop_no hSp hret).elim
        · obtain ⟨hp1, hp2⟩ := stop_pre hSp
          have hDn := mark_notin hOD hK
          have hDy := ids_mark hOD hD
          have hln : xs.length = min (dotsV W H n f).length (mo + 1).toNat := by omega
          have hdl := dotsV_le (W := W) (H := H) (n := n) (f := f)
          refine gc_exit ?_
          refine gq_block_hit ?_
          refine gq_next ?_
          refine gc_seq ?_
          refine gc_region ?_
          refine ne (eo_load 0 rfl s3 rfl rfl rfl rfl) rfl ?_
          refine ne (eo_load 1 rfl s40 rfl rfl rfl rfl) rfl ?_
          refine ne (eo_len rfl Try.underlying40 rfl) rfl ?_
          refine ne (eo_load 5 rfl s34 rfl rfl rfl rfl) rfl ?_
          refine ne (eo_convi rfl rfl ⟨_, Try.underlying34⟩ Try.underlying3 (by omega) (by omega)) rfl ?_
          refine ne (eo_add rfl rfl rfl (by omega) (by omega)) rfl ?_
          refine ne (eo_min rfl rfl rfl) rfl ?_
          refine ne (eo_eql rfl rfl rfl) rfl ?_
          refine ne (eo_mv rfl rfl) rfl ?_
          refine ng rfl rfl (fun h => eo_call rfl en13 rfl (fun W1 hO => examples_c W1  )) rfl ?_
          refine ne (eo_and rfl rfl (fun hb => ev_if hb rfl)) rfl ?_
          refine nu (xo_store 4 rfl s4 rfl rfl (by first | rfl | exact AS.one) rfl rfl (by simp)) ?_
          rintro _ _ ⟨rfl, rfl⟩
          refine go_nil ?_
          refine gq_next ?_
          refine gc_ret ?_
          refine gq_marks hK hDn (resCS 4 rfl s4 rfl rfl rfl rfl) ?_
          exact fun W2 hO2 => ⟨ret_bool (show (decide (((xs.length : Nat) : Int) = (min (((dotsV W H n f).length : Nat) : Int) (mo + 1))) && true) = true from by simp; omega), (hOD.back hO2 hDy).toExt⟩

end Go.Proofs.Ytefblgildcaldaa
