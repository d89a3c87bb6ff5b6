/-
  The walks of the functions of package regions and of the document's answers (part L): what each call returns, at every argument.
-/
import Derived.Test.YtnmiljloifbjeaaWK
namespace Go.Proofs.Ytnmiljloifbjeaa
open Go.RowKit Go.Eng

open Go.Bs
theorem en11 : Ent Try.prog 11 := ent_of Try.func11 (by kernel_rfl) rfl
theorem sl27 : TySl Try.prog 27 32 4 := ⟨Try.underlying27, by kernel_rfl⟩
theorem en35 : Ent Try.prog 35 := ent_of Try.func35 (by kernel_rfl) rfl
theorem b54_01 (x0 : Int) (x1_0 : Int) (x1_1 : Int) (x1_2 : Int) (x1_3 : Int) (W : World) : (Instr.build 54 #[(0, .int .i64 x0), (1, .agg #[.int .i64 x1_0, .int .i64 x1_1, .int .i64 x1_2, .int .i64 x1_3])]).run Try.prog W = .ok (.agg #[.int .i64 x0, .int .i64 x1_0, .int .i64 x1_1, .int .i64 x1_2, .int .i64 x1_3]) W := by kernel_rfl
theorem lit49_1 {x0 x1 x2 x3 x4 : Int} (W : World) : (Instr.buildSlice 49 1 #[(0, .agg #[.int .i64 x0, .int .i64 x1, .int .i64 x2, .int .i64 x3, .int .i64 x4])]).run Try.prog W = .ok (.slice (some ⟨W.heap.size, 0, none⟩) 1 1) (W.alloc (.cells #[.int .i64 x0, .int .i64 x1, .int .i64 x2, .int .i64 x3, .int .i64 x4] 54)) := by kernel_rfl
theorem en_54 : TyEN Try.prog 54 (.agg #[.int .i64 0, .int .i64 0, .int .i64 0, .int .i64 0, .int .i64 0]) 5 40 := ⟨rfl, by omega, by kernel_rfl⟩

/-- barscan/regions.Regions -/
theorem regions_x (W H : Int) (A : Option Addr) (n c : Nat) (f : Nat → Bool) (gx : Int) (gy : Int) (w : World) (hr : Rd w A (tab n (bv f))) (hn3 : n ≤ 3000) :
    Calls Try.prog 21 #[.agg #[.int .i64 W, .int .i64 H, .slice A n c], .int .i64 gx, .int .i64 gy] w (fun e w' => ∃ v Hn, e = .returned v ∧ RNs 5 (cutR ⟨W, H, n, f⟩ gx gy).1.length (rgG (clsI f W) (cutR ⟨W, H, n, f⟩ gx gy).1) (cutR ⟨W, H, n, f⟩ gx gy).2 v Hn ∧ Ow [] w w' Hn) := by
  refine calls_enter (N := ⟨42, []⟩) [] ([]) Try.func21 rfl rfl rfl (Ow.start _) ?_
  refine gc_seq ?_
  refine gc_region ?_
  refine nx (xo_boxA rfl rfl) rfl ?_
  rintro _ _ ⟨g3, rfl, rfl⟩
  refine ne (eo_as rfl rfl) rfl ?_
  refine ne (eo_as rfl rfl) rfl ?_
  refine go_nil ?_
  refine gq_next ?_
  refine gc_seq ?_
  refine gc_region ?_
  refine ne (eo_loadA 0 rfl a24 rfl rfl rfl rfl) rfl ?_
  refine ne (eo_mv rfl rfl) rfl ?_
  refine ne (eo_mv rfl rfl) rfl ?_
  refine nx (xo_freshT rfl en11 rfl (fun W1 hO => cut_x _ _ _ _ _ _ _ _ W1 (hr.old0 hO) (by omega))) rfl ?_
  rintro _ _ ⟨S18, ⟨A18, k18, rfl, hk18, hS18⟩, rfl⟩
  refine ne (eo_mv rfl rfl) rfl ?_
  refine ne (eo_extract rfl rfl rfl) rfl ?_
  refine ne (eo_extract rfl rfl rfl) rfl ?_
  refine ne (eo_as rfl rfl) rfl ?_
  refine ne (eo_as rfl rfl) rfl ?_
  refine go_nil ?_
  refine gq_next ?_
  refine gc_seq ?_
  refine gc_seq ?_
  refine gc_region ?_
  refine ne (eo_mv rfl rfl) rfl ?_
  refine ne (eo_neq rfl rfl rfl) rfl ?_
  refine go_nil ?_
  refine gq_next ?_
  refine gc_cond rfl (fun hc0 => ?_) (fun hc0 => ?_)
  ·
    replace hc0 := of_decide_eq_true hc0
    refine gc_seq ?_
    refine gc_region ?_
    refine ne (eo_mv rfl rfl) rfl ?_
    refine ne (eo_as rfl rfl) rfl ?_
    refine ne (eo_as rfl rfl) rfl ?_
    refine go_nil ?_
    refine gq_next ?_
    refine gc_ret ?_
    refine gq_then_ret ?_
    refine gq_results (res2 rfl rfl rfl) ?_
    exact fun W1 hO => rns_nil hO (by rw [cutR_err (by omega)]; rfl) rfl
  ·
    replace hc0 := of_decide_eq_false hc0
    have hz : (cutR ⟨W, H, n, f⟩ gx gy).2 = 0 := by omega
    obtain ⟨hv, hgt⟩ := cutR_zero hz
    obtain ⟨v1, v2, v3, v4, v5, v6⟩ := vldB_iff.1 hv
    have v7 := vld_pos hv
    have hdv := cutR_dv (f := f) (gx := gx) (gy := gy) hv hgt
    have hln := cutR_len (W := W) (H := H) (n := n) (f := f) (gx := gx) (gy := gy)
    refine gc_skip ?_
    refine gq_next ?_
    refine gc_seq ?_
    refine gc_region ?_
    refine ne (eo_loadA 0 rfl a24 rfl rfl rfl rfl) rfl ?_
    refine nx (xo_freshT rfl en26 rfl (fun W1 hO => count_x _ _ _ _ _ _ W1 (hr.old0 hO) (by assumption))) rfl ?_
    rintro _ _ ⟨S25, ⟨A25, k25, rfl, hk25, hS25⟩, rfl⟩
    refine nx (xo_alloc rfl z61) rfl ?_
    rintro _ _ ⟨g10, rfl, rfl⟩
    refine nu (xo_storeA 0 rfl a61 rfl rfl (ones_cons (by first | rfl | exact AS.one) (ones_cons (by first | rfl | exact AS.one) ones_nil)) rfl rfl rfl rfl) ?_
    rintro _ _ ⟨rfl, rfl⟩
    refine go_nil ?_
    refine gq_next ?_
    refine gc_seq ?_
    refine gc_region ?_
    refine ne (eo_as rfl rfl) rfl ?_
    refine go_nil ?_
    refine gq_next ?_
    refine gc_seq ?_
    refine gc_seq ?_
    refine gc_region ?_
    refine ne (eo_mv rfl rfl) rfl ?_
    refine ne (eo_len rfl Try.underlying27 rfl) rfl ?_
    refine ne (eo_mv rfl rfl) rfl ?_
    refine go_nil ?_
    refine gq_next ?_
    refine gc_block ?_
    refine loop2 (fun (i : Nat) (s : AS) => i ≤ (cutR ⟨W, H, n, f⟩ gx gy).1.length ∧ s.Ok 5 i (tab (i * 5) (iv .i64 (rgG (clsI f W) (cutR ⟨W, H, n, f⟩ gx gy).1)))) (fun (i : Nat) (s : AS) => (cutR ⟨W, H, n, f⟩ gx gy).1.length - i) (fun (i : Nat) (s : AS) => [(10, .pointer (some ⟨g10, 0, none⟩)), (11, s.val i), (26, .slice A18 ((cutR ⟨W, H, n, f⟩ gx gy).1.length) k18), (27, .int .i64 (((cutR ⟨W, H, n, f⟩ gx gy).1.length : Nat) : Int)), (28, .int .i64 (i : Int))]) (fun (i : Nat) (s : AS) => ⟨g10, 61, [.int .i64 (W + 1), .slice A25 (((W + 1) * (H + 1)).toNat) k25]⟩ :: ⟨g3, 24, [.int .i64 W, .int .i64 H, .slice A n c]⟩ :: ((S18 ++ S25) ++ s.blks 54 (tab (i * 5) (iv .i64 (rgG (clsI f W) (cutR ⟨W, H, n, f⟩ gx gy).1))))) 0 .nil ⟨by omega, AS.OkN⟩ ⟨rfl, rfl, rfl, rfl, rfl, trivial⟩ (List.Sublist.cons_cons _ (List.Sublist.cons_cons _ sub_nil)) ?_
    rintro i s ⟨hi, hs⟩
    refine gc_seq ?_
    refine gc_region ?_
    refine ne (eo_lss rfl rfl rfl) rfl ?_
    refine go_nil ?_
    refine gq_next ?_
    refine gc_seq ?_
    refine gc_cond rfl (fun hc1 => ?_) (fun hc1 => ?_)
    ·
      replace hc1 := of_decide_eq_true hc1
      refine gc_skip ?_
      refine gq_next ?_
      refine gc_seq ?_
      refine gc_block ?_
      refine gc_seq ?_
      refine gc_region ?_
      refine ne (eo_indexNS rfl sl27 rfl rfl (fun W1 hO => (hS18.rd (hO.tl 2 rfl ((List.sublist_append_left _ _).trans (List.sublist_append_left _ _))))) (by omega) (by omega) (by omega)) rfl ?_
      refine ne (eo_loadNA rfl a32 rfl (fun W1 hO => (hS18.rd (hO.tl 2 rfl ((List.sublist_append_left _ _).trans (List.sublist_append_left _ _))))) (by omega)) rfl ?_
      refine nx (xo_alloc rfl z32) rfl ?_
      rintro _ _ ⟨g13, rfl, rfl⟩
      refine nu (xo_storeA 0 rfl a32 rfl rfl (ones_cons (by first | rfl | exact AS.one) (ones_cons (by first | rfl | exact AS.one) (ones_cons (by first | rfl | exact AS.one) (ones_cons (by first | rfl | exact AS.one) ones_nil)))) rfl rfl rfl rfl) ?_
      rintro _ _ ⟨rfl, rfl⟩
      refine go_nil ?_
      refine gq_next ?_
      refine gc_weak (L' := [(10, .pointer (some ⟨g10, 0, none⟩)), (11, s.val i), (13, .pointer (some ⟨g13, 0, none⟩)), (26, .slice A18 ((cutR ⟨W, H, n, f⟩ gx gy).1.length) k18), (27, .int .i64 (((cutR ⟨W, H, n, f⟩ gx gy).1.length : Nat) : Int)), (28, .int .i64 (i : Int))]) (H' := ⟨g13, 32, [.int .i64 ((bxG (cutR ⟨W, H, n, f⟩ gx gy).1) (i * 4 + 0)), .int .i64 ((bxG (cutR ⟨W, H, n, f⟩ gx gy).1) (i * 4 + 1)), .int .i64 ((bxG (cutR ⟨W, H, n, f⟩ gx gy).1) (i * 4 + 2)), .int .i64 ((bxG (cutR ⟨W, H, n, f⟩ gx gy).1) (i * 4 + 3))]⟩ :: ⟨g10, 61, [.int .i64 (W + 1), .slice A25 (((W + 1) * (H + 1)).toNat) k25]⟩ :: ⟨g3, 24, [.int .i64 W, .int .i64 H, .slice A n c]⟩ :: ((S18 ++ S25) ++ s.blks 54 (tab (i * 5) (iv .i64 (rgG (clsI f W) (cutR ⟨W, H, n, f⟩ gx gy).1))))) ⟨rfl, rfl, rfl, rfl, rfl, rfl, trivial⟩ (List.Sublist.refl _) ?_
      rw [bxG_0 (l := (cutR ⟨W, H, n, f⟩ gx gy).1) (i := i) rfl, bxG_1 (l := (cutR ⟨W, H, n, f⟩ gx gy).1) (i := i) rfl, bxG_2 (l := (cutR ⟨W, H, n, f⟩ gx gy).1) (i := i) rfl, bxG_3 (l := (cutR ⟨W, H, n, f⟩ gx gy).1) (i := i) rfl]
      have hins := tg_ins (hdv.tg _ (bx_mem (l := (cutR ⟨W, H, n, f⟩ gx gy).1) (i := i) (by omega)))
      refine gc_draw [] [0, 1, 2, 3, 4, 5] [6] [7, 8] (by kernel_rfl) (by kernel_rfl) ?_
      refine gp_nil ?_
      refine de rfl (eo_mv rfl rfl) rfl ?_
      refine de rfl (eo_loadA 1 rfl a61 rfl rfl rfl rfl) rfl ?_
      refine de rfl (eo_loadA 0 rfl a32 rfl rfl rfl rfl) rfl ?_
      refine de rfl (eo_call rfl en35 rfl (fun W1 hO => cls_c _ _ _ _ _ _ _ _ _ W1 (hS25.rd (hO.tl 3 rfl ((List.sublist_append_right _ _).trans (List.sublist_append_left _ _)))) (by omega) (by omega) (by omega) (by omega) hins)) rfl ?_
      refine de rfl (eo_loadA 0 rfl a32 rfl rfl rfl rfl) rfl ?_
      refine de rfl (eo_build rfl rfl (b54_01 _ _ _ _ _)) rfl ?_
      refine ge_nil ?_
      refine da rfl (xo_lit rfl rfl lit49_1) rfl ?_
      rintro _ _ ⟨g38, rfl, rfl⟩
      refine ⟨by first | exact (List.Sublist.cons _ (List.Sublist.refl _)) | exact (List.sublist_append_left _ _), ?_⟩
      refine ga_nil ?_
      refine ix rfl (xo_appNT [(clsI f W ((cutR ⟨W, H, n, f⟩ gx gy).1.getD i bx0)), ((cutR ⟨W, H, n, f⟩ gx gy).1.getD i bx0).X, ((cutR ⟨W, H, n, f⟩ gx gy).1.getD i bx0).Y, ((cutR ⟨W, H, n, f⟩ gx gy).1.getD i bx0).W, ((cutR ⟨W, H, n, f⟩ gx gy).1.getD i bx0).H] (⟨g38, 54, [.int .i64 (clsI f W ((cutR ⟨W, H, n, f⟩ gx gy).1.getD i bx0)), .int .i64 (((cutR ⟨W, H, n, f⟩ gx gy).1.getD i bx0).X), .int .i64 (((cutR ⟨W, H, n, f⟩ gx gy).1.getD i bx0).Y), .int .i64 (((cutR ⟨W, H, n, f⟩ gx gy).1.getD i bx0).W), .int .i64 (((cutR ⟨W, H, n, f⟩ gx gy).1.getD i bx0).H)]⟩ :: ⟨g13, 32, [.int .i64 (((cutR ⟨W, H, n, f⟩ gx gy).1.getD i bx0).X), .int .i64 (((cutR ⟨W, H, n, f⟩ gx gy).1.getD i bx0).Y), .int .i64 (((cutR ⟨W, H, n, f⟩ gx gy).1.getD i bx0).W), .int .i64 (((cutR ⟨W, H, n, f⟩ gx gy).1.getD i bx0).H)]⟩ :: ⟨g10, 61, [.int .i64 (W + 1), .slice A25 (((W + 1) * (H + 1)).toNat) k25]⟩ :: ⟨g3, 24, [.int .i64 W, .int .i64 H, .slice A n c]⟩ :: (S18 ++ S25)) rfl rfl Try.underlying49 en_54 rfl hs rfl rfl rfl (rg_new rfl) (by omega) (by decide)) rfl ?_
      rintro _ _ ⟨s39, hs39, rfl, rfl⟩
      refine ie rfl (eo_as rfl rfl) rfl ?_
      refine gi_nil ?_
      refine gq_nq ?_
      refine gq_block_end ?_
      refine gq_next ?_
      refine gc_region ?_
      refine ne (eo_add rfl rfl rfl (by omega) (by omega)) rfl ?_
      refine ne (eo_mv rfl rfl) rfl ?_
      refine go_nil ?_
      exact round2 (i + 1) s39 ⟨by omega, hs39⟩ (by omega) ⟨rfl, rfl, rfl, rfl, rfl, trivial⟩ (List.Sublist.cons _ (List.Sublist.cons _ (List.Sublist.refl _)))
    ·
      replace hc1 := of_decide_eq_false hc1
      refine gc_exit ?_
      refine gq_then_exit ?_
      refine gq_then_exit ?_
      refine gq_block_hit ?_
      refine gq_next ?_
      refine gc_seq ?_
      refine gc_region ?_
      refine ne (eo_mv rfl rfl) rfl ?_
      refine ne (eo_as rfl rfl) rfl ?_
      refine ne (eo_as rfl rfl) rfl ?_
      refine go_nil ?_
      refine gq_next ?_
      refine gc_ret ?_
      refine gq_results (res2 rfl rfl rfl) ?_
      exact fun W1 hO => rns_as hO (List.Sublist.cons _ (List.Sublist.cons _ (List.sublist_append_right _ _))) hs (by omega) (by omega) (fun j _ => rfl)

end Go.Proofs.Ytnmiljloifbjeaa
