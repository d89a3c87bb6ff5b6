/-
  The walks of the functions of package regions and of the document's answers (part D): what each call returns, at every argument.
-/
import Derived.Test.YtnmiljloifbjeaaWC
namespace Go.Proofs.Ytnmiljloifbjeaa
open Go.RowKit Go.Eng

open Go.Bs
theorem en42 : Ent Try.prog 42 := ent_of Try.func42 (by kernel_rfl) rfl
theorem sl34 : TySl Try.prog 34 38 2 := ⟨Try.underlying34, by kernel_rfl⟩
theorem lit34_1 {x0 x1 : Int} (W : World) : (Instr.buildSlice 34 1 #[(0, .agg #[.int .i64 x0, .int .i64 x1])]).run Try.prog W = .ok (.slice (some ⟨W.heap.size, 0, none⟩) 1 1) (W.alloc (.cells #[.int .i64 x0, .int .i64 x1] 38)) := by kernel_rfl
theorem en_38 : TyEN Try.prog 38 (.agg #[.int .i64 0, .int .i64 0]) 2 16 := ⟨rfl, by omega, by kernel_rfl⟩

/-- (barscan/regions.counts).gaps -/
theorem gaps_x (W H : Int) (A : Option Addr) (c : Nat) (f : Nat → Bool) (X Y BW BH : Int) (v : Bool) (w : World) (hr : Rd w A (tab ((W + 1) * (H + 1)).toNat (iv .i32 (sumG (bw f) W)))) (w1 : 1 ≤ W) (w2 : W ≤ 4096) (h1 : 1 ≤ H) (h2 : H ≤ 4096) (hb : BIn W H ⟨X, Y, BW, BH⟩) :
    Calls Try.prog 30 #[.agg #[.int .i64 (W + 1), .slice A (((W + 1) * (H + 1)).toNat) c], .agg #[.int .i64 X, .int .i64 Y, .int .i64 BW, .int .i64 BH], .bool v] w (fun e w' => ∃ v9 Hn, e = .returned v9 ∧ RLN 2 (gpV f W ⟨X, Y, BW, BH⟩ v).length (ptG (gpV f W ⟨X, Y, BW, BH⟩ v)) v9 Hn ∧ Ow [] w w' Hn) := by
  obtain ⟨b1, b2, b3, b4, b5, b6⟩ := bin_nums hb
  refine calls_enter (N := ⟨75, []⟩) [] ([]) Try.func30 rfl rfl rfl (Ow.start _) ?_
  refine gc_seq ?_
  refine gc_region ?_
  refine nx (xo_boxA rfl rfl) rfl ?_
  rintro _ _ ⟨g3, rfl, rfl⟩
  refine nx (xo_boxA rfl rfl) rfl ?_
  rintro _ _ ⟨g4, rfl, rfl⟩
  refine ne (eo_as rfl rfl) rfl ?_
  refine go_nil ?_
  refine gq_next ?_
  refine gc_seq ?_
  refine gc_draw [] [0, 1, 2, 3, 4, 5, 6, 7, 8] [] [] (by kernel_rfl) (by kernel_rfl) ?_
  refine gp_nil ?_
  refine de rfl (eo_field rfl f32_1 rfl) rfl ?_
  refine de rfl (eo_load 0 rfl s3 rfl rfl rfl rfl) rfl ?_
  refine de rfl (eo_field rfl f32_1 rfl) rfl ?_
  refine de rfl (eo_load 0 rfl s3 rfl rfl rfl rfl) rfl ?_
  refine de rfl (eo_field rfl f32_3 rfl) rfl ?_
  refine de rfl (eo_load 0 rfl s3 rfl rfl rfl rfl) rfl ?_
  refine de rfl (eo_add rfl rfl rfl (by omega) (by omega)) rfl ?_
  refine de rfl (eo_as rfl rfl) rfl ?_
  refine de rfl (eo_as rfl rfl) rfl ?_
  refine ge_nil ?_
  refine ga_nil ?_
  refine gi_nil ?_
  refine gq_nq ?_
  refine gq_next ?_
  refine gc_seq ?_
  refine gc_seq ?_
  refine gc_region ?_
  refine ne (eo_mv rfl rfl) rfl ?_
  refine go_nil ?_
  refine gq_next ?_
  refine gc_cond rfl (fun hc0 => ?_) (fun hc0 => ?_)
  ·
    subst hc0
    refine gc_draw [] [0, 1, 2, 3, 4, 5, 6, 7, 8] [] [] (by kernel_rfl) (by kernel_rfl) ?_
    refine gp_nil ?_
    refine de rfl (eo_field rfl f32_0 rfl) rfl ?_
    refine de rfl (eo_load 0 rfl s3 rfl rfl rfl rfl) rfl ?_
    refine de rfl (eo_field rfl f32_0 rfl) rfl ?_
    refine de rfl (eo_load 0 rfl s3 rfl rfl rfl rfl) rfl ?_
    refine de rfl (eo_field rfl f32_2 rfl) rfl ?_
    refine de rfl (eo_load 0 rfl s3 rfl rfl rfl rfl) rfl ?_
    refine de rfl (eo_add rfl rfl rfl (by omega) (by omega)) rfl ?_
    refine de rfl (eo_as rfl rfl) rfl ?_
    refine de rfl (eo_as rfl rfl) rfl ?_
    refine ge_nil ?_
    refine ga_nil ?_
    refine gi_nil ?_
    refine gq_nq ?_
    refine gq_next ?_
    refine gc_seq ?_
    refine gc_region ?_
    refine ne (eo_as rfl rfl) rfl ?_
    refine go_nil ?_
    refine gq_next ?_
    refine gc_seq ?_
    refine gc_seq ?_
    refine gc_region ?_
    refine ne (eo_mv rfl rfl) rfl ?_
    refine ne (eo_as rfl rfl) rfl ?_
    refine go_nil ?_
    refine gq_next ?_
    refine gc_block ?_
    refine loop4 (fun (i : Nat) (k : Nat) (f1 : Nat → Int) (s : AS) => i ≤ BW.toNat ∧ k = (gpL (emL f W ⟨X, Y, BW, BH⟩ true) X i).length ∧ s.Ok 2 k (tab (k * 2) (iv .i64 f1)) ∧ ∀ j, j < k * 2 → f1 j = ptG (gpL (emL f W ⟨X, Y, BW, BH⟩ true) X i) j) (fun (i : Nat) (k : Nat) (f1 : Nat → Int) (s : AS) => BW.toNat - i) (fun (i : Nat) (k : Nat) (f1 : Nat → Int) (s : AS) => [(2, .bool true), (3, .pointer (some ⟨g3, 0, none⟩)), (4, .pointer (some ⟨g4, 0, none⟩)), (8, .int .i64 (X + BW)), (9, s.val k), (10, .int .i64 (X + (i : Int)))]) (fun (i : Nat) (k : Nat) (f1 : Nat → Int) (s : AS) => ⟨g4, 32, [.int .i64 X, .int .i64 Y, .int .i64 BW, .int .i64 BH]⟩ :: ⟨g3, 61, [.int .i64 (W + 1), .slice A (((W + 1) * (H + 1)).toNat) c]⟩ :: s.blks 38 (tab (k * 2) (iv .i64 f1))) 0 0 (fun _ => 0) .nil ⟨by omega, rfl, AS.OkN, fun j hj => by omega⟩ ⟨rfl, rfl, rfl, rfl, rfl, (look_int rfl (by omega)), trivial⟩ (List.Sublist.refl _) ?_
    rintro i k f1 s ⟨hi, hk, hs, hI⟩
    refine gc_seq ?_
    refine gc_seq ?_
    refine gc_region ?_
    refine ne (eo_mv rfl rfl) rfl ?_
    refine ne (eo_mv rfl rfl) rfl ?_
    refine ne (eo_lss rfl rfl rfl) rfl ?_
    refine go_nil ?_
    refine gq_next ?_
    refine gc_cond rfl (fun hc1 => ?_) (fun hc1 => ?_)
    ·
      replace hc1 := of_decide_eq_true hc1
      have hgl := gp_len (e := (emL f W ⟨X, Y, BW, BH⟩ true)) (a := X) (n := i)
      have hlb : 0 < k → X ≤ f1 ((((k : Nat) : Int) - 1).toNat * 2 + 0) ∧ 1 ≤ f1 ((((k : Nat) : Int) - 1).toNat * 2 + 1) ∧ f1 ((((k : Nat) : Int) - 1).toNat * 2 + 0) + f1 ((((k : Nat) : Int) - 1).toNat * 2 + 1) ≤ X + i := fun h => by rw [show (((k : Nat) : Int) - 1).toNat = k - 1 by omega]; exact gp_bd hk hI h
      refine gc_skip ?_
      refine gq_next ?_
      refine gc_seq ?_
      refine gc_block ?_
      refine gc_seq ?_
      refine gc_seq ?_
      refine gc_region ?_
      refine ne (eo_loadA 1 rfl a61 rfl rfl rfl rfl) rfl ?_
      refine ne (eo_loadA 0 rfl a32 rfl rfl rfl rfl) rfl ?_
      refine ne (eo_mv rfl rfl) rfl ?_
      refine ne (eo_mv rfl rfl) rfl ?_
      refine ne (eo_call rfl en42 rfl (fun W1 hO => empty_c _ _ _ _ _ _ _ _ _ _ _ W1 (hr.old0 hO) (by omega) (by omega) (by omega) (by omega) (bin_mk (by omega) (by omega) (by omega) (by omega) (by omega) (by omega)) (hk_t (by omega)))) rfl ?_
      refine ne (eo_not rfl rfl) rfl ?_
      refine go_nil ?_
      refine gq_next ?_
      refine gc_cond rfl (fun hc2 => ?_) (fun hc2 => ?_)
      ·
        have hd2 := (not_t hc2)
        have hne := not_t hc2
        refine gc_exit ?_
        refine gq_then_exit ?_
        refine gq_block_hit ?_
        refine gq_next ?_
        refine gc_region ?_
        refine ne (eo_mv rfl rfl) rfl ?_
        refine ne (eo_add rfl rfl rfl (by omega) (by omega)) rfl ?_
        refine ne (eo_as rfl rfl) rfl ?_
        refine go_nil ?_
        exact round4 (i + 1) k f1 s ⟨by omega, by rw [gpL_no hne]; exact hk, hs, by rw [gpL_no hne]; exact hI⟩ (by omega) ⟨rfl, rfl, rfl, rfl, rfl, (look_int rfl (by omega)), trivial⟩ (List.Sublist.refl _)
      ·
        have hd2 := (not_f hc2)
        have hne := not_f hc2
        refine gc_skip ?_
        refine gq_next ?_
        refine gc_seq ?_
        refine gc_region ?_
        refine ne (eo_mv rfl rfl) rfl ?_
        refine ne (eo_lenAS rfl Try.underlying34 rfl hs) rfl ?_
        refine ne (eo_as rfl rfl) rfl ?_
        refine go_nil ?_
        refine gq_next ?_
        refine gc_seq ?_
        rw [AS.val_eq hs]
        refine gc_draw [] [0, 1, 2, 3, 4, 5, 6, 7, 8, 9, 10, 11, 12, 13, 14, 15, 16, 17, 18] [] [] (by kernel_rfl) (by kernel_rfl) ?_
        refine gp_nil ?_
        refine de rfl (eo_mv rfl rfl) rfl ?_
        refine de rfl (eo_gtr rfl rfl rfl) rfl ?_
        refine de rfl (eo_mv rfl rfl) rfl ?_
        refine dg rfl rfl rfl (fun h => eo_mv rfl rfl) rfl ?_
        refine dg rfl rfl rfl (fun h => eo_mv rfl rfl) rfl ?_
        refine dg rfl rfl rfl (fun h => eo_sub rfl (ev_if h rfl) rfl (by have hg0 := of_decide_eq_true h; omega) (by have hg0 := of_decide_eq_true h; omega)) rfl ?_
        refine dg rfl rfl rfl (fun h => eo_indexNS rfl sl34 (ev_if h rfl) (ev_if h rfl) (fun W1 hO => ((rds_asN hs).rd (hO.tl 2 rfl (List.Sublist.refl _)))) (by have hg0 := of_decide_eq_true h; omega) (by have hg0 := of_decide_eq_true h; omega) (by have hg0 := of_decide_eq_true h; omega)) rfl ?_
        refine dg rfl rfl rfl (fun h => eo_field rfl f38_0 (ev_if h rfl)) rfl ?_
        refine dg rfl rfl rfl (fun h => eo_loadNS rfl s3 (ev_if h rfl) (fun W1 hO => ((rds_asN hs).rd (hO.tl 2 rfl (List.Sublist.refl _)))) (by have hg0 := of_decide_eq_true h; omega)) rfl ?_
        refine dg rfl rfl rfl (fun h => eo_mv rfl rfl) rfl ?_
        refine dg rfl rfl rfl (fun h => eo_mv rfl rfl) rfl ?_
        refine dg rfl rfl rfl (fun h => eo_sub rfl (ev_if h rfl) rfl (by have hg0 := of_decide_eq_true h; omega) (by have hg0 := of_decide_eq_true h; omega)) rfl ?_
        refine dg rfl rfl rfl (fun h => eo_indexNS rfl sl34 (ev_if h rfl) (ev_if h rfl) (fun W1 hO => ((rds_asN hs).rd (hO.tl 2 rfl (List.Sublist.refl _)))) (by have hg0 := of_decide_eq_true h; omega) (by have hg0 := of_decide_eq_true h; omega) (by have hg0 := of_decide_eq_true h; omega)) rfl ?_
        refine dg rfl rfl rfl (fun h => eo_field rfl f38_1 (ev_if h rfl)) rfl ?_
        refine dg rfl rfl rfl (fun h => eo_loadNS rfl s3 (ev_if h rfl) (fun W1 hO => ((rds_asN hs).rd (hO.tl 2 rfl (List.Sublist.refl _)))) (by have hg0 := of_decide_eq_true h; omega)) rfl ?_
        refine dg rfl rfl rfl (fun h => eo_add rfl (ev_if h rfl) (ev_if h rfl) (by have hg0 := of_decide_eq_true h; omega) (by have hg0 := of_decide_eq_true h; omega)) rfl ?_
        refine dg rfl rfl rfl (fun h => eo_mv rfl rfl) rfl ?_
        refine dg rfl rfl rfl (fun h => eo_eql rfl (ev_if h rfl) (ev_if h rfl)) rfl ?_
        refine de rfl (eo_and rfl rfl (fun hb => ev_if hb rfl)) rfl ?_
        refine ge_nil ?_
        refine ga_nil ?_
        refine gi_nil ?_
        refine gq_nq ?_
        refine gq_next ?_
        refine gc_cond rfl (fun hc3 => ?_) (fun hc3 => ?_)
        ·
          have hd3 := (and_t hc3).imp (fun h => of_decide_eq_true h) (fun h => of_decide_eq_true h)
          rw [← AS.val_eq hs]
          have hlq : f1 (0 + (((k : Nat) : Int) - 1).toNat * 2 + 1) = f1 ((((k : Nat) : Int) - 1).toNat * 2 + 1) := by rw [Nat.zero_add]
          have hg2 := gp_ext (q := 0 + (((k : Nat) : Int) - 1).toNat * 2 + 1) hk hI hne (by omega) (by have e1 := hd3.2; rwa [show (((k : Nat) : Int) - 1).toNat * 2 + 0 = (k - 1) * 2 by omega, show (((k : Nat) : Int) - 1).toNat * 2 + 1 = (k - 1) * 2 + 1 by omega] at e1) (by omega)
          obtain ⟨gq, spq, cq, rfl, hcq⟩ := as_atN hs (by omega)
          refine gc_region ?_
          refine ne (eo_mv rfl rfl) rfl ?_
          refine ne (eo_mv rfl rfl) rfl ?_
          refine ne (eo_sub rfl rfl rfl (by omega) (by omega)) rfl ?_
          refine ne (eo_indexN rfl sl34 rfl rfl (by omega) (by omega)) rfl ?_
          refine ne (eo_field rfl f38_1 rfl) rfl ?_
          refine ne (eo_geti 2 rfl s3 rfl rfl (by omega)) rfl ?_
          refine ne (eo_add rfl rfl rfl (by omega) (by omega)) rfl ?_
          refine ne (eo_indexN rfl sl34 rfl rfl (by omega) (by omega)) rfl ?_
          refine ne (eo_field rfl f38_1 rfl) rfl ?_
          refine nu (xo_seti 2 rfl s3 rfl rfl rfl (by omega)) ?_
          rintro _ _ ⟨rfl, rfl⟩
          refine go_nil ?_
          refine gq_block_end ?_
          refine gq_next ?_
          refine gc_region ?_
          refine ne (eo_mv rfl rfl) rfl ?_
          refine ne (eo_add rfl rfl rfl (by omega) (by omega)) rfl ?_
          refine ne (eo_as rfl rfl) rfl ?_
          refine go_nil ?_
          exact round4 (i + 1) k (upd f1 (0 + ((((k : Nat) : Int) - 1)).toNat * 2 + 1) ((f1 (0 + ((((k : Nat) : Int) - 1)).toNat * 2 + 1)) + 1)) (.at_ gq spq cq) ⟨by omega, hg2.1, as_updN hs, hg2.2⟩ (by omega) ⟨rfl, rfl, rfl, rfl, rfl, (look_int rfl (by omega)), trivial⟩ (List.Sublist.refl _)
        ·
          have hd3 := (and_f hc3).imp (fun h => of_decide_eq_false h) (fun h => of_decide_eq_false h)
          rw [← AS.val_eq hs]
          have hg2 := gp_app hk hI hne (fun ⟨p1, p2⟩ => hd3.elim (fun q => q (by omega)) fun q => q (by rw [show (((k : Nat) : Int) - 1).toNat * 2 + 0 = (k - 1) * 2 by omega, show (((k : Nat) : Int) - 1).toNat * 2 + 1 = (k - 1) * 2 + 1 by omega]; exact p2))
          refine gc_region ?_
          refine ne (eo_mv rfl rfl) rfl ?_
          refine ne (eo_mv rfl rfl) rfl ?_
          refine ne (eo_build rfl rfl (b38_01 _ _)) rfl ?_
          refine nx (xo_lit rfl rfl lit34_1) rfl ?_
          rintro _ _ ⟨g72, rfl, rfl⟩
          refine nx (xo_appG (k' := k + 1) (G := (ptG (gpL (emL f W ⟨X, Y, BW, BH⟩ true) X (i + 1)))) [(X + (i : Int)), 1] ([⟨g72, 38, [.int .i64 (X + (i : Int)), .int .i64 1]⟩, ⟨g4, 32, [.int .i64 X, .int .i64 Y, .int .i64 BW, .int .i64 BH]⟩, ⟨g3, 61, [.int .i64 (W + 1), .slice A (((W + 1) * (H + 1)).toNat) c]⟩]) rfl rfl Try.underlying34 en_38 rfl hs rfl rfl rfl hg2.2.1 hg2.2.2 (by omega) (by decide) rfl) rfl ?_
          rintro _ _ ⟨s73, hs73, rfl, rfl⟩
          refine ne (eo_as rfl rfl) rfl ?_
          refine go_nil ?_
          refine gq_block_end ?_
          refine gq_next ?_
          refine gc_region ?_
          refine ne (eo_mv rfl rfl) rfl ?_
          refine ne (eo_add rfl rfl rfl (by omega) (by omega)) rfl ?_
          refine ne (eo_as rfl rfl) rfl ?_
          refine go_nil ?_
          exact round4 (i + 1) (k + 1) (ptG (gpL (emL f W ⟨X, Y, BW, BH⟩ true) X (i + 1))) s73 ⟨by omega, hg2.1, hs73, fun j _ => rfl⟩ (by omega) ⟨rfl, rfl, rfl, rfl, rfl, (look_int rfl (by omega)), trivial⟩ (List.Sublist.cons _ (List.Sublist.refl _))
    ·
      replace hc1 := of_decide_eq_false hc1
      refine gc_exit ?_
      refine gq_then_exit ?_
      refine gq_then_exit ?_
      refine gq_block_hit ?_
      refine gq_next ?_
      refine gc_seq ?_
      refine gc_region ?_
      refine ne (eo_mv rfl rfl) rfl ?_
      refine ne (eo_as rfl rfl) rfl ?_
      refine go_nil ?_
      refine gq_next ?_
      refine gc_ret ?_
      refine gq_results (res1 rfl rfl) ?_
      rw [show i = BW.toNat by omega] at hk hI
      exact fun W1 hO => rln_as 2 hO rfl hs hk hI
  ·
    subst hc0
    refine gc_skip ?_
    refine gq_next ?_
    refine gc_seq ?_
    refine gc_region ?_
    refine ne (eo_as rfl rfl) rfl ?_
    refine go_nil ?_
    refine gq_next ?_
    refine gc_seq ?_
    refine gc_seq ?_
    refine gc_region ?_
    refine ne (eo_mv rfl rfl) rfl ?_
    refine ne (eo_as rfl rfl) rfl ?_
    refine go_nil ?_
    refine gq_next ?_
    refine gc_block ?_
    refine loop4 (fun (i : Nat) (k : Nat) (f1 : Nat → Int) (s : AS) => i ≤ BH.toNat ∧ k = (gpL (emL f W ⟨X, Y, BW, BH⟩ false) Y i).length ∧ s.Ok 2 k (tab (k * 2) (iv .i64 f1)) ∧ ∀ j, j < k * 2 → f1 j = ptG (gpL (emL f W ⟨X, Y, BW, BH⟩ false) Y i) j) (fun (i : Nat) (k : Nat) (f1 : Nat → Int) (s : AS) => BH.toNat - i) (fun (i : Nat) (k : Nat) (f1 : Nat → Int) (s : AS) => [(2, .bool false), (3, .pointer (some ⟨g3, 0, none⟩)), (4, .pointer (some ⟨g4, 0, none⟩)), (8, .int .i64 (Y + BH)), (9, s.val k), (10, .int .i64 (Y + (i : Int)))]) (fun (i : Nat) (k : Nat) (f1 : Nat → Int) (s : AS) => ⟨g4, 32, [.int .i64 X, .int .i64 Y, .int .i64 BW, .int .i64 BH]⟩ :: ⟨g3, 61, [.int .i64 (W + 1), .slice A (((W + 1) * (H + 1)).toNat) c]⟩ :: s.blks 38 (tab (k * 2) (iv .i64 f1))) 0 0 (fun _ => 0) .nil ⟨by omega, rfl, AS.OkN, fun j hj => by omega⟩ ⟨rfl, rfl, rfl, rfl, rfl, (look_int rfl (by omega)), trivial⟩ (List.Sublist.refl _) ?_
    rintro i k f1 s ⟨hi, hk, hs, hI⟩
    refine gc_seq ?_
    refine gc_seq ?_
    refine gc_region ?_
    refine ne (eo_mv rfl rfl) rfl ?_
    refine ne (eo_mv rfl rfl) rfl ?_
    refine ne (eo_lss rfl rfl rfl) rfl ?_
    refine go_nil ?_
    refine gq_next ?_
    refine gc_cond rfl (fun hc1 => ?_) (fun hc1 => ?_)
    ·
      replace hc1 := of_decide_eq_true hc1
      have hgl := gp_len (e := (emL f W ⟨X, Y, BW, BH⟩ false)) (a := Y) (n := i)
      have hlb : 0 < k → Y ≤ f1 ((((k : Nat) : Int) - 1).toNat * 2 + 0) ∧ 1 ≤ f1 ((((k : Nat) : Int) - 1).toNat * 2 + 1) ∧ f1 ((((k : Nat) : Int) - 1).toNat * 2 + 0) + f1 ((((k : Nat) : Int) - 1).toNat * 2 + 1) ≤ Y + i := fun h => by rw [show (((k : Nat) : Int) - 1).toNat = k - 1 by omega]; exact gp_bd hk hI h
      refine gc_skip ?_
      refine gq_next ?_
      refine gc_seq ?_
      refine gc_block ?_
      refine gc_seq ?_
      refine gc_seq ?_
      refine gc_region ?_
      refine ne (eo_loadA 1 rfl a61 rfl rfl rfl rfl) rfl ?_
      refine ne (eo_loadA 0 rfl a32 rfl rfl rfl rfl) rfl ?_
      refine ne (eo_mv rfl rfl) rfl ?_
      refine ne (eo_mv rfl rfl) rfl ?_
      refine ne (eo_call rfl en42 rfl (fun W1 hO => empty_c _ _ _ _ _ _ _ _ _ _ _ W1 (hr.old0 hO) (by omega) (by omega) (by omega) (by omega) (bin_mk (by omega) (by omega) (by omega) (by omega) (by omega) (by omega)) (hk_f (by omega)))) rfl ?_
      refine ne (eo_not rfl rfl) rfl ?_
      refine go_nil ?_
      refine gq_next ?_
      refine gc_cond rfl (fun hc2 => ?_) (fun hc2 => ?_)
      ·
        have hd2 := (not_t hc2)
        have hne := not_t hc2
        refine gc_exit ?_
        refine gq_then_exit ?_
        refine gq_block_hit ?_
        refine gq_next ?_
        refine gc_region ?_
        refine ne (eo_mv rfl rfl) rfl ?_
        refine ne (eo_add rfl rfl rfl (by omega) (by omega)) rfl ?_
        refine ne (eo_as rfl rfl) rfl ?_
        refine go_nil ?_
        exact round4 (i + 1) k f1 s ⟨by omega, by rw [gpL_no hne]; exact hk, hs, by rw [gpL_no hne]; exact hI⟩ (by omega) ⟨rfl, rfl, rfl, rfl, rfl, (look_int rfl (by omega)), trivial⟩ (List.Sublist.refl _)
      ·
        have hd2 := (not_f hc2)
        have hne := not_f hc2
        refine gc_skip ?_
        refine gq_next ?_
        refine gc_seq ?_
        refine gc_region ?_
        refine ne (eo_mv rfl rfl) rfl ?_
        refine ne (eo_lenAS rfl Try.underlying34 rfl hs) rfl ?_
        refine ne (eo_as rfl rfl) rfl ?_
        refine go_nil ?_
        refine gq_next ?_
        refine gc_seq ?_
        rw [AS.val_eq hs]
        refine gc_draw [] [0, 1, 2, 3, 4, 5, 6, 7, 8, 9, 10, 11, 12, 13, 14, 15, 16, 17, 18] [] [] (by kernel_rfl) (by kernel_rfl) ?_
        refine gp_nil ?_
        refine de rfl (eo_mv rfl rfl) rfl ?_
        refine de rfl (eo_gtr rfl rfl rfl) rfl ?_
        refine de rfl (eo_mv rfl rfl) rfl ?_
        refine dg rfl rfl rfl (fun h => eo_mv rfl rfl) rfl ?_
        refine dg rfl rfl rfl (fun h => eo_mv rfl rfl) rfl ?_
        refine dg rfl rfl rfl (fun h => eo_sub rfl (ev_if h rfl) rfl (by have hg0 := of_decide_eq_true h; omega) (by have hg0 := of_decide_eq_true h; omega)) rfl ?_
        refine dg rfl rfl rfl (fun h => eo_indexNS rfl sl34 (ev_if h rfl) (ev_if h rfl) (fun W1 hO => ((rds_asN hs).rd (hO.tl 2 rfl (List.Sublist.refl _)))) (by have hg0 := of_decide_eq_true h; omega) (by have hg0 := of_decide_eq_true h; omega) (by have hg0 := of_decide_eq_true h; omega)) rfl ?_
        refine dg rfl rfl rfl (fun h => eo_field rfl f38_0 (ev_if h rfl)) rfl ?_
        refine dg rfl rfl rfl (fun h => eo_loadNS rfl s3 (ev_if h rfl) (fun W1 hO => ((rds_asN hs).rd (hO.tl 2 rfl (List.Sublist.refl _)))) (by have hg0 := of_decide_eq_true h; omega)) rfl ?_
        refine dg rfl rfl rfl (fun h => eo_mv rfl rfl) rfl ?_
        refine dg rfl rfl rfl (fun h => eo_mv rfl rfl) rfl ?_
        refine dg rfl rfl rfl (fun h => eo_sub rfl (ev_if h rfl) rfl (by have hg0 := of_decide_eq_true h; omega) (by have hg0 := of_decide_eq_true h; omega)) rfl ?_
        refine dg rfl rfl rfl (fun h => eo_indexNS rfl sl34 (ev_if h rfl) (ev_if h rfl) (fun W1 hO => ((rds_asN hs).rd (hO.tl 2 rfl (List.Sublist.refl _)))) (by have hg0 := of_decide_eq_true h; omega) (by have hg0 := of_decide_eq_true h; omega) (by have hg0 := of_decide_eq_true h; omega)) rfl ?_
        refine dg rfl rfl rfl (fun h => eo_field rfl f38_1 (ev_if h rfl)) rfl ?_
        refine dg rfl rfl rfl (fun h => eo_loadNS rfl s3 (ev_if h rfl) (fun W1 hO => ((rds_asN hs).rd (hO.tl 2 rfl (List.Sublist.refl _)))) (by have hg0 := of_decide_eq_true h; omega)) rfl ?_
        refine dg rfl rfl rfl (fun h => eo_add rfl (ev_if h rfl) (ev_if h rfl) (by have hg0 := of_decide_eq_true h; omega) (by have hg0 := of_decide_eq_true h; omega)) rfl ?_
        refine dg rfl rfl rfl (fun h => eo_mv rfl rfl) rfl ?_
        refine dg rfl rfl rfl (fun h => eo_eql rfl (ev_if h rfl) (ev_if h rfl)) rfl ?_
        refine de rfl (eo_and rfl rfl (fun hb => ev_if hb rfl)) rfl ?_
        refine ge_nil ?_
        refine ga_nil ?_
        refine gi_nil ?_
        refine gq_nq ?_
        refine gq_next ?_
        refine gc_cond rfl (fun hc3 => ?_) (fun hc3 => ?_)
        ·
          have hd3 := (and_t hc3).imp (fun h => of_decide_eq_true h) (fun h => of_decide_eq_true h)
          rw [← AS.val_eq hs]
          have hlq : f1 (0 + (((k : Nat) : Int) - 1).toNat * 2 + 1) = f1 ((((k : Nat) : Int) - 1).toNat * 2 + 1) := by rw [Nat.zero_add]
          have hg2 := gp_ext (q := 0 + (((k : Nat) : Int) - 1).toNat * 2 + 1) hk hI hne (by omega) (by have e1 := hd3.2; rwa [show (((k : Nat) : Int) - 1).toNat * 2 + 0 = (k - 1) * 2 by omega, show (((k : Nat) : Int) - 1).toNat * 2 + 1 = (k - 1) * 2 + 1 by omega] at e1) (by omega)
          obtain ⟨gq, spq, cq, rfl, hcq⟩ := as_atN hs (by omega)
          refine gc_region ?_
          refine ne (eo_mv rfl rfl) rfl ?_
          refine ne (eo_mv rfl rfl) rfl ?_
          refine ne (eo_sub rfl rfl rfl (by omega) (by omega)) rfl ?_
          refine ne (eo_indexN rfl sl34 rfl rfl (by omega) (by omega)) rfl ?_
          refine ne (eo_field rfl f38_1 rfl) rfl ?_
          refine ne (eo_geti 2 rfl s3 rfl rfl (by omega)) rfl ?_
          refine ne (eo_add rfl rfl rfl (by omega) (by omega)) rfl ?_
          refine ne (eo_indexN rfl sl34 rfl rfl (by omega) (by omega)) rfl ?_
          refine ne (eo_field rfl f38_1 rfl) rfl ?_
          refine nu (xo_seti 2 rfl s3 rfl rfl rfl (by omega)) ?_
          rintro _ _ ⟨rfl, rfl⟩
          refine go_nil ?_
          refine gq_block_end ?_
          refine gq_next ?_
          refine gc_region ?_
          refine ne (eo_mv rfl rfl) rfl ?_
          refine ne (eo_add rfl rfl rfl (by omega) (by omega)) rfl ?_
          refine ne (eo_as rfl rfl) rfl ?_
          refine go_nil ?_
          exact round4 (i + 1) k (upd f1 (0 + ((((k : Nat) : Int) - 1)).toNat * 2 + 1) ((f1 (0 + ((((k : Nat) : Int) - 1)).toNat * 2 + 1)) + 1)) (.at_ gq spq cq) ⟨by omega, hg2.1, as_updN hs, hg2.2⟩ (by omega) ⟨rfl, rfl, rfl, rfl, rfl, (look_int rfl (by omega)), trivial⟩ (List.Sublist.refl _)
        ·
          have hd3 := (and_f hc3).imp (fun h => of_decide_eq_false h) (fun h => of_decide_eq_false h)
          rw [← AS.val_eq hs]
          have hg2 := gp_app hk hI hne (fun ⟨p1, p2⟩ => hd3.elim (fun q => q (by omega)) fun q => q (by rw [show (((k : Nat) : Int) - 1).toNat * 2 + 0 = (k - 1) * 2 by omega, show (((k : Nat) : Int) - 1).toNat * 2 + 1 = (k - 1) * 2 + 1 by omega]; exact p2))
          refine gc_region ?_
          refine ne (eo_mv rfl rfl) rfl ?_
          refine ne (eo_mv rfl rfl) rfl ?_
          refine ne (eo_build rfl rfl (b38_01 _ _)) rfl ?_
          refine nx (xo_lit rfl rfl lit34_1) rfl ?_
          rintro _ _ ⟨g72, rfl, rfl⟩
          refine nx (xo_appG (k' := k + 1) (G := (ptG (gpL (emL f W ⟨X, Y, BW, BH⟩ false) Y (i + 1)))) [(Y + (i : Int)), 1] ([⟨g72, 38, [.int .i64 (Y + (i : Int)), .int .i64 1]⟩, ⟨g4, 32, [.int .i64 X, .int .i64 Y, .int .i64 BW, .int .i64 BH]⟩, ⟨g3, 61, [.int .i64 (W + 1), .slice A (((W + 1) * (H + 1)).toNat) c]⟩]) rfl rfl Try.underlying34 en_38 rfl hs rfl rfl rfl hg2.2.1 hg2.2.2 (by omega) (by decide) rfl) rfl ?_
          rintro _ _ ⟨s73, hs73, rfl, rfl⟩
          refine ne (eo_as rfl rfl) rfl ?_
          refine go_nil ?_
          refine gq_block_end ?_
          refine gq_next ?_
          refine gc_region ?_
          refine ne (eo_mv rfl rfl) rfl ?_
          refine ne (eo_add rfl rfl rfl (by omega) (by omega)) rfl ?_
          refine ne (eo_as rfl rfl) rfl ?_
          refine go_nil ?_
          exact round4 (i + 1) (k + 1) (ptG (gpL (emL f W ⟨X, Y, BW, BH⟩ false) Y (i + 1))) s73 ⟨by omega, hg2.1, hs73, fun j _ => rfl⟩ (by omega) ⟨rfl, rfl, rfl, rfl, rfl, (look_int rfl (by omega)), trivial⟩ (List.Sublist.cons _ (List.Sublist.refl _))
    ·
      replace hc1 := of_decide_eq_false hc1
      refine gc_exit ?_
      refine gq_then_exit ?_
      refine gq_then_exit ?_
      refine gq_block_hit ?_
      refine gq_next ?_
      refine gc_seq ?_
      refine gc_region ?_
      refine ne (eo_mv rfl rfl) rfl ?_
      refine ne (eo_as rfl rfl) rfl ?_
      refine go_nil ?_
      refine gq_next ?_
      refine gc_ret ?_
      refine gq_results (res1 rfl rfl) ?_
      rw [show i = BH.toNat by omega] at hk hI
      exact fun W1 hO => rln_as 2 hO rfl hs hk hI

end Go.Proofs.Ytnmiljloifbjeaa
