/-
  The walks of the functions of package regions and of the document's answers (part H): what each call returns, at every argument.
-/
import Derived.Test.YtnmiljloifbjeaaWC
namespace Go.Proofs.Ytnmiljloifbjeaa
open Go.RowKit Go.Eng

open Go.Bs
theorem f64_0 : FieldAt Try.prog 64 0 0 := ⟨_, _, 1, Try.underlying64, rfl, by kernel_rfl, rfl⟩
theorem en42 : Ent Try.prog 42 := ent_of Try.func42 (by kernel_rfl) rfl

/-- (*barscan/regions.cutter).reduced -/
theorem red_c (g : Nat) (W H : Int) (A : Option Addr) (c : Nat) (f : Nat → Bool) (gx gy fd : Int) (X Y BW BH : Int) (w : World) (hr : Rd w A (tab ((W + 1) * (H + 1)).toNat (iv .i32 (sumG (bw f) W)))) (hc : ∀ (k : Nat) (u : Value), [.int .i64 (W + 1), .slice A ((W + 1) * (H + 1)).toNat c, .int .i64 gx, .int .i64 gy, .int .i64 fd][k]? = some u → w.cell? ⟨g, k, none⟩ = some u) (w1 : 1 ≤ W) (w2 : W ≤ 4096) (h1 : 1 ≤ H) (h2 : H ≤ 4096) (hb : BIn W H ⟨X, Y, BW, BH⟩) (hd : HasD f W ⟨X, Y, BW, BH⟩) :
    Calls Try.prog 41 #[.pointer (some ⟨g, 0, none⟩), .agg #[.int .i64 X, .int .i64 Y, .int .i64 BW, .int .i64 BH]] w (fun e w' => e = .returned (.agg #[.int .i64 (redB f W ⟨X, Y, BW, BH⟩).X, .int .i64 (redB f W ⟨X, Y, BW, BH⟩).Y, .int .i64 (redB f W ⟨X, Y, BW, BH⟩).W, .int .i64 (redB f W ⟨X, Y, BW, BH⟩).H]) ∧ Ext w w') := by
  refine calls_enter (N := ⟨70, []⟩) [] ([]) Try.func41 rfl rfl rfl (Ow.start _) ?_
  refine gc_seq ?_
  refine gc_region ?_
  refine nx (xo_boxA rfl rfl) rfl ?_
  rintro _ _ ⟨g3, rfl, rfl⟩
  refine nx (xo_alloc rfl z32) rfl ?_
  rintro _ _ ⟨g4, rfl, rfl⟩
  refine go_nil ?_
  refine gq_next ?_
  refine gc_seq ?_
  refine gc_block ?_
  refine loop2 (fun (yy : Int) (hh : Int) => RI f W ⟨X, Y, BW, BH⟩ ⟨X, yy, BW, hh⟩) (fun (yy : Int) (hh : Int) => hh.toNat) (fun (yy : Int) (hh : Int) => [(0, .pointer (some ⟨g, 0, none⟩)), (3, .pointer (some ⟨g3, 0, none⟩)), (4, .pointer (some ⟨g4, 0, none⟩))]) (fun (yy : Int) (hh : Int) => [⟨g4, 32, [.int .i64 0, .int .i64 0, .int .i64 0, .int .i64 0]⟩, ⟨g3, 32, [.int .i64 X, .int .i64 yy, .int .i64 BW, .int .i64 hh]⟩]) Y BH (ri_new hd) ⟨rfl, rfl, rfl, trivial⟩ (List.Sublist.refl _) ?_
  rintro yy hh hI
  have hp : 1 ≤ BW ∧ 1 ≤ hh := hI.pos
  obtain ⟨e1, e2, e3, e4, e5, e6⟩ := bin_nums (hI.inn hb)
  refine gc_seq ?_
  refine gc_seq ?_
  refine gc_draw [] [0, 1, 2, 3, 4, 5, 6, 7] [] [] (by kernel_rfl) (by kernel_rfl) ?_
  refine gp_nil ?_
  refine de rfl (eo_mv rfl rfl) rfl ?_
  refine de rfl (eo_nilChk rfl rfl) rfl ?_
  refine de rfl (eo_field rfl f64_0 rfl) rfl ?_
  refine de rfl (eo_loadAO (cs := [.int .i64 (W + 1), .slice A (((W + 1) * (H + 1)).toNat) c]) rfl a61 rfl hc (by simp) rfl (by intro j hj; rcases j with _ | j; (· rfl); rcases j with _ | j; (· rfl); exact absurd hj (by omega))) rfl ?_
  refine de rfl (eo_loadA 1 rfl a32 rfl rfl rfl rfl) rfl ?_
  refine de rfl (eo_field rfl f32_1 rfl) rfl ?_
  refine de rfl (eo_load 1 rfl s3 rfl rfl rfl rfl) rfl ?_
  refine de rfl (eo_call rfl en42 rfl (fun W1 hO => empty_c _ _ _ _ _ _ _ _ _ _ _ W1 (hr.old0 hO) (by omega) (by omega) (by omega) (by omega) (bin_mk (by omega) (by omega) (by omega) (by omega) (by omega) (by omega)) (hk_f (by omega)))) rfl ?_
  refine ge_nil ?_
  refine ga_nil ?_
  refine gi_nil ?_
  refine gq_nq ?_
  refine gq_next ?_
  refine gc_cond rfl (fun hc0 => ?_) (fun hc0 => ?_)
  ·
    refine gc_skip ?_
    refine gq_next ?_
    refine gc_block ?_
    refine gc_region ?_
    refine ne (eo_field rfl f32_1 rfl) rfl ?_
    refine ne (eo_load 1 rfl s3 rfl rfl rfl rfl) rfl ?_
    refine ne (eo_add rfl rfl rfl (by omega) (by omega)) rfl ?_
    refine ne (eo_field rfl f32_3 rfl) rfl ?_
    refine ne (eo_load 1 rfl s3 rfl rfl rfl rfl) rfl ?_
    refine ne (eo_sub rfl rfl rfl (by omega) (by omega)) rfl ?_
    refine ne (eo_field rfl f32_1 rfl) rfl ?_
    refine nu (xo_store 1 rfl s3 rfl rfl (by first | rfl | exact AS.one) rfl rfl (by simp)) ?_
    rintro _ _ ⟨rfl, rfl⟩
    refine ne (eo_field rfl f32_3 rfl) rfl ?_
    refine nu (xo_store 1 rfl s3 rfl rfl (by first | rfl | exact AS.one) rfl rfl (by simp)) ?_
    rintro _ _ ⟨rfl, rfl⟩
    refine go_nil ?_
    refine gq_block_end ?_
    exact round2 (yy + 1) (hh - 1) (ri_top hb hI hc0) (by omega) ⟨rfl, rfl, rfl, trivial⟩ (List.Sublist.refl _)
  ·
    have hT := ri_topD (f := f) (t := ⟨X, yy, BW, hh⟩) hb hI hc0
    refine gc_exit ?_
    refine gq_then_exit ?_
    refine gq_then_exit ?_
    refine gq_block_hit ?_
    refine gq_next ?_
    refine gc_seq ?_
    refine gc_block ?_
    refine loop1 (fun (h2 : Int) => RI f W ⟨X, Y, BW, BH⟩ ⟨X, yy, BW, h2⟩ ∧ TopD f W ⟨X, yy, BW, h2⟩) (fun (h2 : Int) => h2.toNat) (fun (h2 : Int) => [(0, .pointer (some ⟨g, 0, none⟩)), (3, .pointer (some ⟨g3, 0, none⟩)), (4, .pointer (some ⟨g4, 0, none⟩))]) (fun (h2 : Int) => [⟨g4, 32, [.int .i64 0, .int .i64 0, .int .i64 0, .int .i64 0]⟩, ⟨g3, 32, [.int .i64 X, .int .i64 yy, .int .i64 BW, .int .i64 h2]⟩]) hh ⟨hI, hT⟩ ⟨rfl, rfl, rfl, trivial⟩ (List.Sublist.refl _) ?_
    rintro h2 ⟨hI, hT⟩
    have hp : 1 ≤ BW ∧ 1 ≤ h2 := hI.pos
    obtain ⟨e1, e2, e3, e4, e5, e6⟩ := bin_nums (hI.inn hb)
    refine gc_seq ?_
    refine gc_seq ?_
    refine gc_draw [] [0, 1, 2, 3, 4, 5, 6, 7, 8, 9, 10, 11] [] [] (by kernel_rfl) (by kernel_rfl) ?_
    refine gp_nil ?_
    refine de rfl (eo_mv rfl rfl) rfl ?_
    refine de rfl (eo_nilChk rfl rfl) rfl ?_
    refine de rfl (eo_field rfl f64_0 rfl) rfl ?_
    refine de rfl (eo_loadAO (cs := [.int .i64 (W + 1), .slice A (((W + 1) * (H + 1)).toNat) c]) rfl a61 rfl hc (by simp) rfl (by intro j hj; rcases j with _ | j; (· rfl); rcases j with _ | j; (· rfl); exact absurd hj (by omega))) rfl ?_
    refine de rfl (eo_loadA 1 rfl a32 rfl rfl rfl rfl) rfl ?_
    refine de rfl (eo_field rfl f32_1 rfl) rfl ?_
    refine de rfl (eo_load 1 rfl s3 rfl rfl rfl rfl) rfl ?_
    refine de rfl (eo_field rfl f32_3 rfl) rfl ?_
    refine de rfl (eo_load 1 rfl s3 rfl rfl rfl rfl) rfl ?_
    refine de rfl (eo_add rfl rfl rfl (by omega) (by omega)) rfl ?_
    refine de rfl (eo_sub rfl rfl rfl (by omega) (by omega)) rfl ?_
    refine de rfl (eo_call rfl en42 rfl (fun W1 hO => empty_c _ _ _ _ _ _ _ _ _ _ _ W1 (hr.old0 hO) (by omega) (by omega) (by omega) (by omega) (bin_mk (by omega) (by omega) (by omega) (by omega) (by omega) (by omega)) (hk_f (by omega)))) rfl ?_
    refine ge_nil ?_
    refine ga_nil ?_
    refine gi_nil ?_
    refine gq_nq ?_
    refine gq_next ?_
    refine gc_cond rfl (fun hc1 => ?_) (fun hc1 => ?_)
    ·
      refine gc_skip ?_
      refine gq_next ?_
      refine gc_block ?_
      refine gc_region ?_
      refine ne (eo_field rfl f32_3 rfl) rfl ?_
      refine ne (eo_load 1 rfl s3 rfl rfl rfl rfl) rfl ?_
      refine ne (eo_sub rfl rfl rfl (by omega) (by omega)) rfl ?_
      refine ne (eo_field rfl f32_3 rfl) rfl ?_
      refine nu (xo_store 1 rfl s3 rfl rfl (by first | rfl | exact AS.one) rfl rfl (by simp)) ?_
      rintro _ _ ⟨rfl, rfl⟩
      refine go_nil ?_
      refine gq_block_end ?_
      exact round1 (h2 - 1) ⟨ri_bot hb hI hc1, hT.keep hI (ri_bot hb hI hc1) (by first | rfl | (simp only; omega))⟩ (by omega) ⟨rfl, rfl, rfl, trivial⟩ (List.Sublist.refl _)
    ·
      have hB := ri_botD (f := f) (t := ⟨X, yy, BW, h2⟩) hb hI hc1
      refine gc_exit ?_
      refine gq_then_exit ?_
      refine gq_then_exit ?_
      refine gq_block_hit ?_
      refine gq_next ?_
      refine gc_seq ?_
      refine gc_block ?_
      refine loop2 (fun (xx : Int) (ww : Int) => RI f W ⟨X, Y, BW, BH⟩ ⟨xx, yy, ww, h2⟩ ∧ TopD f W ⟨xx, yy, ww, h2⟩ ∧ BotD f W ⟨xx, yy, ww, h2⟩) (fun (xx : Int) (ww : Int) => ww.toNat) (fun (xx : Int) (ww : Int) => [(0, .pointer (some ⟨g, 0, none⟩)), (3, .pointer (some ⟨g3, 0, none⟩)), (4, .pointer (some ⟨g4, 0, none⟩))]) (fun (xx : Int) (ww : Int) => [⟨g4, 32, [.int .i64 0, .int .i64 0, .int .i64 0, .int .i64 0]⟩, ⟨g3, 32, [.int .i64 xx, .int .i64 yy, .int .i64 ww, .int .i64 h2]⟩]) X BW ⟨hI, hT, hB⟩ ⟨rfl, rfl, rfl, trivial⟩ (List.Sublist.refl _) ?_
      rintro xx ww ⟨hI, hT, hB⟩
      have hp : 1 ≤ ww ∧ 1 ≤ h2 := hI.pos
      obtain ⟨e1, e2, e3, e4, e5, e6⟩ := bin_nums (hI.inn hb)
      refine gc_seq ?_
      refine gc_seq ?_
      refine gc_draw [] [0, 1, 2, 3, 4, 5, 6, 7] [] [] (by kernel_rfl) (by kernel_rfl) ?_
      refine gp_nil ?_
      refine de rfl (eo_mv rfl rfl) rfl ?_
      refine de rfl (eo_nilChk rfl rfl) rfl ?_
      refine de rfl (eo_field rfl f64_0 rfl) rfl ?_
      refine de rfl (eo_loadAO (cs := [.int .i64 (W + 1), .slice A (((W + 1) * (H + 1)).toNat) c]) rfl a61 rfl hc (by simp) rfl (by intro j hj; rcases j with _ | j; (· rfl); rcases j with _ | j; (· rfl); exact absurd hj (by omega))) rfl ?_
      refine de rfl (eo_loadA 1 rfl a32 rfl rfl rfl rfl) rfl ?_
      refine de rfl (eo_field rfl f32_0 rfl) rfl ?_
      refine de rfl (eo_load 1 rfl s3 rfl rfl rfl rfl) rfl ?_
      refine de rfl (eo_call rfl en42 rfl (fun W1 hO => empty_c _ _ _ _ _ _ _ _ _ _ _ W1 (hr.old0 hO) (by omega) (by omega) (by omega) (by omega) (bin_mk (by omega) (by omega) (by omega) (by omega) (by omega) (by omega)) (hk_t (by omega)))) rfl ?_
      refine ge_nil ?_
      refine ga_nil ?_
      refine gi_nil ?_
      refine gq_nq ?_
      refine gq_next ?_
      refine gc_cond rfl (fun hc2 => ?_) (fun hc2 => ?_)
      ·
        refine gc_skip ?_
        refine gq_next ?_
        refine gc_block ?_
        refine gc_region ?_
        refine ne (eo_field rfl f32_0 rfl) rfl ?_
        refine ne (eo_load 1 rfl s3 rfl rfl rfl rfl) rfl ?_
        refine ne (eo_add rfl rfl rfl (by omega) (by omega)) rfl ?_
        refine ne (eo_field rfl f32_2 rfl) rfl ?_
        refine ne (eo_load 1 rfl s3 rfl rfl rfl rfl) rfl ?_
        refine ne (eo_sub rfl rfl rfl (by omega) (by omega)) rfl ?_
        refine ne (eo_field rfl f32_0 rfl) rfl ?_
        refine nu (xo_store 1 rfl s3 rfl rfl (by first | rfl | exact AS.one) rfl rfl (by simp)) ?_
        rintro _ _ ⟨rfl, rfl⟩
        refine ne (eo_field rfl f32_2 rfl) rfl ?_
        refine nu (xo_store 1 rfl s3 rfl rfl (by first | rfl | exact AS.one) rfl rfl (by simp)) ?_
        rintro _ _ ⟨rfl, rfl⟩
        refine go_nil ?_
        refine gq_block_end ?_
        exact round2 (xx + 1) (ww - 1) ⟨ri_lef hb hI hc2, hT.keep hI (ri_lef hb hI hc2) (by first | rfl | (simp only; omega)), hB.keep hI (ri_lef hb hI hc2) (by first | rfl | (simp only; omega))⟩ (by omega) ⟨rfl, rfl, rfl, trivial⟩ (List.Sublist.refl _)
      ·
        have hL := ri_lefD (f := f) (t := ⟨xx, yy, ww, h2⟩) hb hI hc2
        refine gc_exit ?_
        refine gq_then_exit ?_
        refine gq_then_exit ?_
        refine gq_block_hit ?_
        refine gq_next ?_
        refine gc_seq ?_
        refine gc_block ?_
        refine loop1 (fun (w2 : Int) => RI f W ⟨X, Y, BW, BH⟩ ⟨xx, yy, w2, h2⟩ ∧ TopD f W ⟨xx, yy, w2, h2⟩ ∧ BotD f W ⟨xx, yy, w2, h2⟩ ∧ LefD f W ⟨xx, yy, w2, h2⟩) (fun (w2 : Int) => w2.toNat) (fun (w2 : Int) => [(0, .pointer (some ⟨g, 0, none⟩)), (3, .pointer (some ⟨g3, 0, none⟩)), (4, .pointer (some ⟨g4, 0, none⟩))]) (fun (w2 : Int) => [⟨g4, 32, [.int .i64 0, .int .i64 0, .int .i64 0, .int .i64 0]⟩, ⟨g3, 32, [.int .i64 xx, .int .i64 yy, .int .i64 w2, .int .i64 h2]⟩]) ww ⟨hI, hT, hB, hL⟩ ⟨rfl, rfl, rfl, trivial⟩ (List.Sublist.refl _) ?_
        rintro w2 ⟨hI, hT, hB, hL⟩
        have hp : 1 ≤ w2 ∧ 1 ≤ h2 := hI.pos
        obtain ⟨e1, e2, e3, e4, e5, e6⟩ := bin_nums (hI.inn hb)
        refine gc_seq ?_
        refine gc_seq ?_
        refine gc_draw [] [0, 1, 2, 3, 4, 5, 6, 7, 8, 9, 10, 11] [] [] (by kernel_rfl) (by kernel_rfl) ?_
        refine gp_nil ?_
        refine de rfl (eo_mv rfl rfl) rfl ?_
        refine de rfl (eo_nilChk rfl rfl) rfl ?_
        refine de rfl (eo_field rfl f64_0 rfl) rfl ?_
        refine de rfl (eo_loadAO (cs := [.int .i64 (W + 1), .slice A (((W + 1) * (H + 1)).toNat) c]) rfl a61 rfl hc (by simp) rfl (by intro j hj; rcases j with _ | j; (· rfl); rcases j with _ | j; (· rfl); exact absurd hj (by omega))) rfl ?_
        refine de rfl (eo_loadA 1 rfl a32 rfl rfl rfl rfl) rfl ?_
        refine de rfl (eo_field rfl f32_0 rfl) rfl ?_
        refine de rfl (eo_load 1 rfl s3 rfl rfl rfl rfl) rfl ?_
        refine de rfl (eo_field rfl f32_2 rfl) rfl ?_
        refine de rfl (eo_load 1 rfl s3 rfl rfl rfl rfl) rfl ?_
        refine de rfl (eo_add rfl rfl rfl (by omega) (by omega)) rfl ?_
        refine de rfl (eo_sub rfl rfl rfl (by omega) (by omega)) rfl ?_
        refine de rfl (eo_call rfl en42 rfl (fun W1 hO => empty_c _ _ _ _ _ _ _ _ _ _ _ W1 (hr.old0 hO) (by omega) (by omega) (by omega) (by omega) (bin_mk (by omega) (by omega) (by omega) (by omega) (by omega) (by omega)) (hk_t (by omega)))) rfl ?_
        refine ge_nil ?_
        refine ga_nil ?_
        refine gi_nil ?_
        refine gq_nq ?_
        refine gq_next ?_
        refine gc_cond rfl (fun hc3 => ?_) (fun hc3 => ?_)
        ·
          refine gc_skip ?_
          refine gq_next ?_
          refine gc_block ?_
          refine gc_region ?_
          refine ne (eo_field rfl f32_2 rfl) rfl ?_
          refine ne (eo_load 1 rfl s3 rfl rfl rfl rfl) rfl ?_
          refine ne (eo_sub rfl rfl rfl (by omega) (by omega)) rfl ?_
          refine ne (eo_field rfl f32_2 rfl) rfl ?_
          refine nu (xo_store 1 rfl s3 rfl rfl (by first | rfl | exact AS.one) rfl rfl (by simp)) ?_
          rintro _ _ ⟨rfl, rfl⟩
          refine go_nil ?_
          refine gq_block_end ?_
          exact round1 (w2 - 1) ⟨ri_rig hb hI hc3, hT.keep hI (ri_rig hb hI hc3) (by first | rfl | (simp only; omega)), hB.keep hI (ri_rig hb hI hc3) (by first | rfl | (simp only; omega)), hL.keep hI (ri_rig hb hI hc3) (by first | rfl | (simp only; omega))⟩ (by omega) ⟨rfl, rfl, rfl, trivial⟩ (List.Sublist.refl _)
        ·
          have hR := ri_rigD (f := f) (t := ⟨xx, yy, w2, h2⟩) hb hI hc3
          refine gc_exit ?_
          refine gq_then_exit ?_
          refine gq_then_exit ?_
          refine gq_block_hit ?_
          refine gq_next ?_
          refine gc_seq ?_
          refine gc_region ?_
          refine ne (eo_loadA 1 rfl a32 rfl rfl rfl rfl) rfl ?_
          refine nu (xo_storeA 0 rfl a32 rfl rfl (ones_cons (by first | rfl | exact AS.one) (ones_cons (by first | rfl | exact AS.one) (ones_cons (by first | rfl | exact AS.one) (ones_cons (by first | rfl | exact AS.one) ones_nil)))) rfl rfl rfl rfl) ?_
          rintro _ _ ⟨rfl, rfl⟩
          refine go_nil ?_
          refine gq_next ?_
          refine gc_ret ?_
          refine gq_results (resC 0 rfl a32 rfl rfl rfl rfl) ?_
          exact fun W1 hO => ⟨ret_aggB (hI.done hb hT hB hL hR), hO.toExt⟩

end Go.Proofs.Ytnmiljloifbjeaa
