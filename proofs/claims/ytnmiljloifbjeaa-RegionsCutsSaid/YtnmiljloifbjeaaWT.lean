/-
  The walks of the functions of package regions and of the document's answers (part T): what each call returns, at every argument.
-/
import Derived.Test.YtnmiljloifbjeaaWI
import Derived.Test.YtnmiljloifbjeaaRu
namespace Go.Proofs.Ytnmiljloifbjeaa
open Go.RowKit Go.Eng

open Go.Bs
theorem en43 : Ent Try.prog 43 := ent_of Try.func43 (by kernel_rfl) rfl

/-- barscan/barscanref46.tight -/
theorem tight_no (W H : Int) (A : Option Addr) (n c : Nat) (f : Nat → Bool) (X Y BW BH : Int) (w : World) (hr : Rd w A (tab n (bv f))) (hv : vldB W H n = true) (hb : BIn W H ⟨X, Y, BW, BH⟩) (hz : bxS f W ⟨X, Y, BW, BH⟩ = 0) :
    Calls Try.prog 45 #[.agg #[.int .i64 W, .int .i64 H, .slice A n c], .agg #[.int .i64 X, .int .i64 Y, .int .i64 BW, .int .i64 BH]] w (fun e w' => e = .returned (.tuple #[.agg #[.int .i64 0, .int .i64 0, .int .i64 0, .int .i64 0], .bool false]) ∧ Ext w w') := by
  obtain ⟨v1, v2, v3, v4, v5, v6⟩ := vldB_iff.1 hv
  have v7 := vld_pos hv
  obtain ⟨b1, b2, b3, b4, b5, b6⟩ := bin_nums hb
  refine calls_enter (N := ⟨79, []⟩) [] ([]) Try.func45 rfl rfl rfl (Ow.start _) ?_
  refine gc_seq ?_
  refine gc_region ?_
  refine nx (xo_boxA rfl rfl) rfl ?_
  rintro _ _ ⟨g2, rfl, rfl⟩
  refine nx (xo_boxA rfl rfl) rfl ?_
  rintro _ _ ⟨g3, rfl, rfl⟩
  refine nx (xo_alloc rfl z32) rfl ?_
  rintro _ _ ⟨g4, rfl, rfl⟩
  refine ne (eo_as rfl rfl) rfl ?_
  refine go_nil ?_
  refine gq_next ?_
  refine gc_seq ?_
  refine gc_seq ?_
  refine gc_region ?_
  refine ne (eo_loadA 2 rfl a24 rfl rfl rfl rfl) rfl ?_
  refine ne (eo_loadA 1 rfl a32 rfl rfl rfl rfl) rfl ?_
  refine ne (eo_call rfl en43 rfl (fun W1 hO => rempty_c _ _ _ _ _ _ _ _ _ _ W1 (hr.old0 hO) hv (bin_mk (by omega) (by omega) (by omega) (by omega) (by omega) (by omega)))) rfl ?_
  refine go_nil ?_
  refine gq_next ?_
  refine gc_cond rfl (fun hc0 => ?_) (fun hc0 => ?_)
  ·
    have hd0 := of_decide_eq_true hc0
    refine gc_seq ?_
    refine gc_region ?_
    refine ne (eo_build rfl rfl (b32_)) rfl ?_
    refine nu (xo_storeA 0 rfl a32 rfl rfl (ones_cons (by first | rfl | exact AS.one) (ones_cons (by first | rfl | exact AS.one) (ones_cons (by first | rfl | exact AS.one) (ones_cons (by first | rfl | exact AS.one) ones_nil)))) rfl rfl rfl rfl) ?_
    rintro _ _ ⟨rfl, rfl⟩
    refine ne (eo_as rfl rfl) rfl ?_
    refine go_nil ?_
    refine gq_next ?_
    refine gc_ret ?_
    refine gq_then_ret ?_
    refine gq_results (resCT 0 rfl a32 rfl rfl rfl rfl rfl) ?_
    exact fun W1 hO => ⟨rfl, hO.toExt⟩
  ·
    have hd0 := of_decide_eq_false hc0
    exact absurd hz hd0

/-- barscan/barscanref46.tight -/
theorem tight_yes (W H : Int) (A : Option Addr) (n c : Nat) (f : Nat → Bool) (X Y BW BH : Int) (w : World) (hr : Rd w A (tab n (bv f))) (hv : vldB W H n = true) (hb : BIn W H ⟨X, Y, BW, BH⟩) (hd : HasD f W ⟨X, Y, BW, BH⟩) :
    Calls Try.prog 45 #[.agg #[.int .i64 W, .int .i64 H, .slice A n c], .agg #[.int .i64 X, .int .i64 Y, .int .i64 BW, .int .i64 BH]] w (fun e w' => e = .returned (.tuple #[.agg #[.int .i64 (redB f W ⟨X, Y, BW, BH⟩).X, .int .i64 (redB f W ⟨X, Y, BW, BH⟩).Y, .int .i64 (redB f W ⟨X, Y, BW, BH⟩).W, .int .i64 (redB f W ⟨X, Y, BW, BH⟩).H], .bool true]) ∧ Ext w w') := by
  obtain ⟨v1, v2, v3, v4, v5, v6⟩ := vldB_iff.1 hv
  have v7 := vld_pos hv
  obtain ⟨b1, b2, b3, b4, b5, b6⟩ := bin_nums hb
  refine calls_enter (N := ⟨79, []⟩) [] ([]) Try.func45 rfl rfl rfl (Ow.start _) ?_
  refine gc_seq ?_
  refine gc_region ?_
  refine nx (xo_boxA rfl rfl) rfl ?_
  rintro _ _ ⟨g2, rfl, rfl⟩
  refine nx (xo_boxA rfl rfl) rfl ?_
  rintro _ _ ⟨g3, rfl, rfl⟩
  refine nx (xo_alloc rfl z32) rfl ?_
  rintro _ _ ⟨g4, rfl, rfl⟩
  refine ne (eo_as rfl rfl) rfl ?_
  refine go_nil ?_
  refine gq_next ?_
  refine gc_seq ?_
  refine gc_seq ?_
  refine gc_region ?_
  refine ne (eo_loadA 2 rfl a24 rfl rfl rfl rfl) rfl ?_
  refine ne (eo_loadA 1 rfl a32 rfl rfl rfl rfl) rfl ?_
  refine ne (eo_call rfl en43 rfl (fun W1 hO => rempty_c _ _ _ _ _ _ _ _ _ _ W1 (hr.old0 hO) hv (bin_mk (by omega) (by omega) (by omega) (by omega) (by omega) (by omega)))) rfl ?_
  refine go_nil ?_
  refine gq_next ?_
  refine gc_cond rfl (fun hc0 => ?_) (fun hc0 => ?_)
  ·
    have hd0 := of_decide_eq_true hc0
    exact absurd hd0 (hasD_no hb hd)
  ·
    have hd0 := of_decide_eq_false hc0
    refine gc_skip ?_
    refine gq_next ?_
    refine gc_seq ?_
    refine gc_block ?_
    refine loop2 (fun (xx : Int) (ww : Int) => RI f W ⟨X, Y, BW, BH⟩ ⟨xx, Y, ww, BH⟩) (fun (xx : Int) (ww : Int) => ww.toNat) (fun (xx : Int) (ww : Int) => [(2, .pointer (some ⟨g2, 0, none⟩)), (3, .pointer (some ⟨g3, 0, none⟩)), (4, .pointer (some ⟨g4, 0, none⟩))]) (fun (xx : Int) (ww : Int) => [⟨g4, 32, [.int .i64 0, .int .i64 0, .int .i64 0, .int .i64 0]⟩, ⟨g3, 32, [.int .i64 xx, .int .i64 Y, .int .i64 ww, .int .i64 BH]⟩, ⟨g2, 24, [.int .i64 W, .int .i64 H, .slice A n c]⟩]) X BW (ri_new hd) ⟨rfl, rfl, rfl, trivial⟩ (List.Sublist.refl _) ?_
    rintro xx ww hI
    have hp : 1 ≤ ww ∧ 1 ≤ BH := hI.pos
    obtain ⟨e1, e2, e3, e4, e5, e6⟩ := bin_nums (hI.inn hb)
    refine gc_seq ?_
    refine gc_seq ?_
    refine gc_region ?_
    refine ne (eo_loadA 2 rfl a24 rfl rfl rfl rfl) rfl ?_
    refine ne (eo_field rfl f32_0 rfl) rfl ?_
    refine ne (eo_load 1 rfl s3 rfl rfl rfl rfl) rfl ?_
    refine ne (eo_field rfl f32_1 rfl) rfl ?_
    refine ne (eo_load 1 rfl s3 rfl rfl rfl rfl) rfl ?_
    refine ne (eo_field rfl f32_3 rfl) rfl ?_
    refine ne (eo_load 1 rfl s3 rfl rfl rfl rfl) rfl ?_
    refine ne (eo_build rfl rfl (b32_0123 _ _ _ _)) rfl ?_
    refine ne (eo_call rfl en43 rfl (fun W1 hO => rempty_c _ _ _ _ _ _ _ _ _ _ W1 (hr.old0 hO) hv (bin_mk (by omega) (by omega) (by omega) (by omega) (by omega) (by omega)))) rfl ?_
    refine go_nil ?_
    refine gq_next ?_
    refine gc_cond rfl (fun hc1 => ?_) (fun hc1 => ?_)
    ·
      have hd1 := of_decide_eq_true hc1
      refine gc_skip ?_
      refine gq_next ?_
      refine gc_block ?_
      refine gc_seq ?_
      refine gc_region ?_
      refine ne (eo_field rfl f32_0 rfl) rfl ?_
      refine ne (eo_load 1 rfl s3 rfl rfl rfl rfl) rfl ?_
      refine ne (eo_add rfl rfl rfl (by omega) (by omega)) rfl ?_
      refine ne (eo_field rfl f32_0 rfl) rfl ?_
      refine nu (xo_store 1 rfl s3 rfl rfl (by first | rfl | exact AS.one) rfl rfl (by simp)) ?_
      rintro _ _ ⟨rfl, rfl⟩
      refine go_nil ?_
      refine gq_next ?_
      refine gc_region ?_
      refine ne (eo_field rfl f32_2 rfl) rfl ?_
      refine ne (eo_load 1 rfl s3 rfl rfl rfl rfl) rfl ?_
      refine ne (eo_sub rfl rfl rfl (by omega) (by omega)) rfl ?_
      refine ne (eo_field rfl f32_2 rfl) rfl ?_
      refine nu (xo_store 1 rfl s3 rfl rfl (by first | rfl | exact AS.one) rfl rfl (by simp)) ?_
      rintro _ _ ⟨rfl, rfl⟩
      refine go_nil ?_
      refine gq_block_end ?_
      exact round2 (xx + 1) (ww - 1) (ri_lef hb hI hc1) (by omega) ⟨rfl, rfl, rfl, trivial⟩ (List.Sublist.refl _)
    ·
      have hd1 := of_decide_eq_false hc1
      have hL := ri_lefD (f := f) (t := ⟨xx, Y, ww, BH⟩) hb hI hc1
      refine gc_exit ?_
      refine gq_then_exit ?_
      refine gq_then_exit ?_
      refine gq_block_hit ?_
      refine gq_next ?_
      refine gc_seq ?_
      refine gc_block ?_
      refine loop1 (fun (w2 : Int) => RI f W ⟨X, Y, BW, BH⟩ ⟨xx, Y, w2, BH⟩ ∧ LefD f W ⟨xx, Y, w2, BH⟩) (fun (w2 : Int) => w2.toNat) (fun (w2 : Int) => [(2, .pointer (some ⟨g2, 0, none⟩)), (3, .pointer (some ⟨g3, 0, none⟩)), (4, .pointer (some ⟨g4, 0, none⟩))]) (fun (w2 : Int) => [⟨g4, 32, [.int .i64 0, .int .i64 0, .int .i64 0, .int .i64 0]⟩, ⟨g3, 32, [.int .i64 xx, .int .i64 Y, .int .i64 w2, .int .i64 BH]⟩, ⟨g2, 24, [.int .i64 W, .int .i64 H, .slice A n c]⟩]) ww ⟨hI, hL⟩ ⟨rfl, rfl, rfl, trivial⟩ (List.Sublist.refl _) ?_
      rintro w2 ⟨hI, hL⟩
      have hp : 1 ≤ w2 ∧ 1 ≤ BH := hI.pos
      obtain ⟨e1, e2, e3, e4, e5, e6⟩ := bin_nums (hI.inn hb)
      refine gc_seq ?_
      refine gc_seq ?_
      refine gc_region ?_
      refine ne (eo_loadA 2 rfl a24 rfl rfl rfl rfl) rfl ?_
      refine ne (eo_field rfl f32_0 rfl) rfl ?_
      refine ne (eo_load 1 rfl s3 rfl rfl rfl rfl) rfl ?_
      refine ne (eo_field rfl f32_2 rfl) rfl ?_
      refine ne (eo_load 1 rfl s3 rfl rfl rfl rfl) rfl ?_
      refine ne (eo_add rfl rfl rfl (by omega) (by omega)) rfl ?_
      refine ne (eo_sub rfl rfl rfl (by omega) (by omega)) rfl ?_
      refine ne (eo_field rfl f32_1 rfl) rfl ?_
      refine ne (eo_load 1 rfl s3 rfl rfl rfl rfl) rfl ?_
      refine ne (eo_field rfl f32_3 rfl) rfl ?_
      refine ne (eo_load 1 rfl s3 rfl rfl rfl rfl) rfl ?_
      refine ne (eo_build rfl rfl (b32_0123 _ _ _ _)) rfl ?_
      refine ne (eo_call rfl en43 rfl (fun W1 hO => rempty_c _ _ _ _ _ _ _ _ _ _ W1 (hr.old0 hO) hv (bin_mk (by omega) (by omega) (by omega) (by omega) (by omega) (by omega)))) rfl ?_
      refine go_nil ?_
      refine gq_next ?_
      refine gc_cond rfl (fun hc2 => ?_) (fun hc2 => ?_)
      ·
        have hd2 := of_decide_eq_true hc2
        refine gc_skip ?_
        refine gq_next ?_
        refine gc_block ?_
        refine gc_region ?_
        refine ne (eo_field rfl f32_2 rfl) rfl ?_
        refine ne (eo_load 1 rfl s3 rfl rfl rfl rfl) rfl ?_
        refine ne (eo_sub rfl rfl rfl (by omega) (by omega)) rfl ?_
        refine ne (eo_field rfl f32_2 rfl) rfl ?_
        refine nu (xo_store 1 rfl s3 rfl rfl (by first | rfl | exact AS.one) rfl rfl (by simp)) ?_
        rintro _ _ ⟨rfl, rfl⟩
        refine go_nil ?_
        refine gq_block_end ?_
        exact round1 (w2 - 1) ⟨ri_rig hb hI hc2, hL.keep hI (ri_rig hb hI hc2) (by first | rfl | (simp only; omega))⟩ (by omega) ⟨rfl, rfl, rfl, trivial⟩ (List.Sublist.refl _)
      ·
        have hd2 := of_decide_eq_false hc2
        have hR := ri_rigD (f := f) (t := ⟨xx, Y, w2, BH⟩) hb hI hc2
        refine gc_exit ?_
        refine gq_then_exit ?_
        refine gq_then_exit ?_
        refine gq_block_hit ?_
        refine gq_next ?_
        refine gc_seq ?_
        refine gc_block ?_
        refine loop2 (fun (yy : Int) (hh : Int) => RI f W ⟨X, Y, BW, BH⟩ ⟨xx, yy, w2, hh⟩ ∧ LefD f W ⟨xx, yy, w2, hh⟩ ∧ RigD f W ⟨xx, yy, w2, hh⟩) (fun (yy : Int) (hh : Int) => hh.toNat) (fun (yy : Int) (hh : Int) => [(2, .pointer (some ⟨g2, 0, none⟩)), (3, .pointer (some ⟨g3, 0, none⟩)), (4, .pointer (some ⟨g4, 0, none⟩))]) (fun (yy : Int) (hh : Int) => [⟨g4, 32, [.int .i64 0, .int .i64 0, .int .i64 0, .int .i64 0]⟩, ⟨g3, 32, [.int .i64 xx, .int .i64 yy, .int .i64 w2, .int .i64 hh]⟩, ⟨g2, 24, [.int .i64 W, .int .i64 H, .slice A n c]⟩]) Y BH ⟨hI, hL, hR⟩ ⟨rfl, rfl, rfl, trivial⟩ (List.Sublist.refl _) ?_
        rintro yy hh ⟨hI, hL, hR⟩
        have hp : 1 ≤ w2 ∧ 1 ≤ hh := hI.pos
        obtain ⟨e1, e2, e3, e4, e5, e6⟩ := bin_nums (hI.inn hb)
        refine gc_seq ?_
        refine gc_seq ?_
        refine gc_region ?_
        refine ne (eo_loadA 2 rfl a24 rfl rfl rfl rfl) rfl ?_
        refine ne (eo_field rfl f32_0 rfl) rfl ?_
        refine ne (eo_load 1 rfl s3 rfl rfl rfl rfl) rfl ?_
        refine ne (eo_field rfl f32_1 rfl) rfl ?_
        refine ne (eo_load 1 rfl s3 rfl rfl rfl rfl) rfl ?_
        refine ne (eo_field rfl f32_2 rfl) rfl ?_
        refine ne (eo_load 1 rfl s3 rfl rfl rfl rfl) rfl ?_
        refine ne (eo_build rfl rfl (b32_0123 _ _ _ _)) rfl ?_
        refine ne (eo_call rfl en43 rfl (fun W1 hO => rempty_c _ _ _ _ _ _ _ _ _ _ W1 (hr.old0 hO) hv (bin_mk (by omega) (by omega) (by omega) (by omega) (by omega) (by omega)))) rfl ?_
        refine go_nil ?_
        refine gq_next ?_
        refine gc_cond rfl (fun hc3 => ?_) (fun hc3 => ?_)
        ·
          have hd3 := of_decide_eq_true hc3
          refine gc_skip ?_
          refine gq_next ?_
          refine gc_block ?_
          refine gc_seq ?_
          refine gc_region ?_
          refine ne (eo_field rfl f32_1 rfl) rfl ?_
          refine ne (eo_load 1 rfl s3 rfl rfl rfl rfl) rfl ?_
          refine ne (eo_add rfl rfl rfl (by omega) (by omega)) rfl ?_
          refine ne (eo_field rfl f32_1 rfl) rfl ?_
          refine nu (xo_store 1 rfl s3 rfl rfl (by first | rfl | exact AS.one) rfl rfl (by simp)) ?_
          rintro _ _ ⟨rfl, rfl⟩
          refine go_nil ?_
          refine gq_next ?_
          refine gc_region ?_
          refine ne (eo_field rfl f32_3 rfl) rfl ?_
          refine ne (eo_load 1 rfl s3 rfl rfl rfl rfl) rfl ?_
          refine ne (eo_sub rfl rfl rfl (by omega) (by omega)) rfl ?_
          refine ne (eo_field rfl f32_3 rfl) rfl ?_
          refine nu (xo_store 1 rfl s3 rfl rfl (by first | rfl | exact AS.one) rfl rfl (by simp)) ?_
          rintro _ _ ⟨rfl, rfl⟩
          refine go_nil ?_
          refine gq_block_end ?_
          exact round2 (yy + 1) (hh - 1) ⟨ri_top hb hI hc3, hL.keep hI (ri_top hb hI hc3) (by first | rfl | (simp only; omega)), hR.keep hI (ri_top hb hI hc3) (by first | rfl | (simp only; omega))⟩ (by omega) ⟨rfl, rfl, rfl, trivial⟩ (List.Sublist.refl _)
        ·
          have hd3 := of_decide_eq_false hc3
          have hT := ri_topD (f := f) (t := ⟨xx, yy, w2, hh⟩) hb hI hc3
          refine gc_exit ?_
          refine gq_then_exit ?_
          refine gq_then_exit ?_
          refine gq_block_hit ?_
          refine gq_next ?_
          refine gc_seq ?_
          refine gc_block ?_
          refine loop1 (fun (h2 : Int) => RI f W ⟨X, Y, BW, BH⟩ ⟨xx, yy, w2, h2⟩ ∧ LefD f W ⟨xx, yy, w2, h2⟩ ∧ RigD f W ⟨xx, yy, w2, h2⟩ ∧ TopD f W ⟨xx, yy, w2, h2⟩) (fun (h2 : Int) => h2.toNat) (fun (h2 : Int) => [(2, .pointer (some ⟨g2, 0, none⟩)), (3, .pointer (some ⟨g3, 0, none⟩)), (4, .pointer (some ⟨g4, 0, none⟩))]) (fun (h2 : Int) => [⟨g4, 32, [.int .i64 0, .int .i64 0, .int .i64 0, .int .i64 0]⟩, ⟨g3, 32, [.int .i64 xx, .int .i64 yy, .int .i64 w2, .int .i64 h2]⟩, ⟨g2, 24, [.int .i64 W, .int .i64 H, .slice A n c]⟩]) hh ⟨hI, hL, hR, hT⟩ ⟨rfl, rfl, rfl, trivial⟩ (List.Sublist.refl _) ?_
          rintro h2 ⟨hI, hL, hR, hT⟩
          have hp : 1 ≤ w2 ∧ 1 ≤ h2 := hI.pos
          obtain ⟨e1, e2, e3, e4, e5, e6⟩ := bin_nums (hI.inn hb)
          refine gc_seq ?_
          refine gc_seq ?_
          refine gc_region ?_
          refine ne (eo_loadA 2 rfl a24 rfl rfl rfl rfl) rfl ?_
          refine ne (eo_field rfl f32_0 rfl) rfl ?_
          refine ne (eo_load 1 rfl s3 rfl rfl rfl rfl) rfl ?_
          refine ne (eo_field rfl f32_1 rfl) rfl ?_
          refine ne (eo_load 1 rfl s3 rfl rfl rfl rfl) rfl ?_
          refine ne (eo_field rfl f32_3 rfl) rfl ?_
          refine ne (eo_load 1 rfl s3 rfl rfl rfl rfl) rfl ?_
          refine ne (eo_add rfl rfl rfl (by omega) (by omega)) rfl ?_
          refine ne (eo_sub rfl rfl rfl (by omega) (by omega)) rfl ?_
          refine ne (eo_field rfl f32_2 rfl) rfl ?_
          refine ne (eo_load 1 rfl s3 rfl rfl rfl rfl) rfl ?_
          refine ne (eo_build rfl rfl (b32_0123 _ _ _ _)) rfl ?_
          refine ne (eo_call rfl en43 rfl (fun W1 hO => rempty_c _ _ _ _ _ _ _ _ _ _ W1 (hr.old0 hO) hv (bin_mk (by omega) (by omega) (by omega) (by omega) (by omega) (by omega)))) rfl ?_
          refine go_nil ?_
          refine gq_next ?_
          refine gc_cond rfl (fun hc4 => ?_) (fun hc4 => ?_)
          ·
            have hd4 := of_decide_eq_true hc4
            refine gc_skip ?_
            refine gq_next ?_
            refine gc_block ?_
            refine gc_region ?_
            refine ne (eo_field rfl f32_3 rfl) rfl ?_
            refine ne (eo_load 1 rfl s3 rfl rfl rfl rfl) rfl ?_
            refine ne (eo_sub rfl rfl rfl (by omega) (by omega)) rfl ?_
            refine ne (eo_field rfl f32_3 rfl) rfl ?_
            refine nu (xo_store 1 rfl s3 rfl rfl (by first | rfl | exact AS.one) rfl rfl (by simp)) ?_
            rintro _ _ ⟨rfl, rfl⟩
            refine go_nil ?_
            refine gq_block_end ?_
            exact round1 (h2 - 1) ⟨ri_bot hb hI hc4, hL.keep hI (ri_bot hb hI hc4) (by first | rfl | (simp only; omega)), hR.keep hI (ri_bot hb hI hc4) (by first | rfl | (simp only; omega)), hT.keep hI (ri_bot hb hI hc4) (by first | rfl | (simp only; omega))⟩ (by omega) ⟨rfl, rfl, rfl, trivial⟩ (List.Sublist.refl _)
          ·
            have hd4 := of_decide_eq_false hc4
            have hB := ri_botD (f := f) (t := ⟨xx, yy, w2, h2⟩) hb hI hc4
            refine gc_exit ?_
            refine gq_then_exit ?_
            refine gq_then_exit ?_
            refine gq_block_hit ?_
            refine gq_next ?_
            refine gc_seq ?_
            refine gc_region ?_
            refine ne (eo_loadA 1 rfl a32 rfl rfl rfl rfl) rfl ?_
            refine nu (xo_storeA 0 rfl a32 rfl rfl (ones_cons (by first | rfl | exact AS.one) (ones_cons (by first | rfl | exact AS.one) (ones_cons (by first | rfl | exact AS.one) (ones_cons (by first | rfl | exact AS.one) ones_nil)))) rfl rfl rfl rfl) ?_
            rintro _ _ ⟨rfl, rfl⟩
            refine ne (eo_as rfl rfl) rfl ?_
            refine go_nil ?_
            refine gq_next ?_
            refine gc_ret ?_
            refine gq_results (resCT 0 rfl a32 rfl rfl rfl rfl rfl) ?_
            exact fun W1 hO => ⟨ret_boxb (hI.done hb hT hB hL hR), hO.toExt⟩

end Go.Proofs.Ytnmiljloifbjeaa
