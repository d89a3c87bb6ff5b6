/-
  The walks of the functions of package regions and of the document's answers (part Q): what each call returns, at every argument.
-/
import Derived.Test.YtnmiljloifbjeaaWI
import Derived.Test.YtnmiljloifbjeaaRu
import Derived.Test.YtnmiljloifbjeaaRgm
namespace Go.Proofs.Ytnmiljloifbjeaa
open Go.RowKit Go.Eng

open Go.Bs
theorem en43 : Ent Try.prog 43 := ent_of Try.func43 (by kernel_rfl) rfl
theorem b38_0 (x0 : Int) (W : World) : (Instr.build 38 #[(0, .int .i64 x0)]).run Try.prog W = .ok (.agg #[.int .i64 x0, .int .i64 0]) W := by kernel_rfl
theorem lit34_1 {x0 x1 : Int} (W : World) : (Instr.buildSlice 34 1 #[(0, .agg #[.int .i64 x0, .int .i64 x1])]).run Try.prog W = .ok (.slice (some ⟨W.heap.size, 0, none⟩) 1 1) (W.alloc (.cells #[.int .i64 x0, .int .i64 x1] 38)) := by kernel_rfl
theorem en_38 : TyEN Try.prog 38 (.agg #[.int .i64 0, .int .i64 0]) 2 16 := ⟨rfl, by omega, by kernel_rfl⟩
theorem sl34 : TySl Try.prog 34 38 2 := ⟨Try.underlying34, by kernel_rfl⟩

/-- barscan/barscanref46.gaps -/
theorem rgaps_x (W H : Int) (A : Option Addr) (n c : Nat) (f : Nat → Bool) (X Y BW BH : Int) (v : Bool) (w : World) (hr : Rd w A (tab n (bv f))) (hv : vldB W H n = true) (hb : BIn W H ⟨X, Y, BW, BH⟩) :
    Calls Try.prog 34 #[.agg #[.int .i64 W, .int .i64 H, .slice A n c], .agg #[.int .i64 X, .int .i64 Y, .int .i64 BW, .int .i64 BH], .bool v] w (fun e w' => ∃ v9 Hn, e = .returned v9 ∧ RLN 2 (gpV f W ⟨X, Y, BW, BH⟩ v).length (ptG (gpV f W ⟨X, Y, BW, BH⟩ v)) v9 Hn ∧ Ow [] w w' Hn) := by
  obtain ⟨v1, v2, v3, v4, v5, v6⟩ := vldB_iff.1 hv
  have v7 := vld_pos hv
  obtain ⟨b1, b2, b3, b4, b5, b6⟩ := bin_nums hb
  refine calls_enter (N := ⟨74, []⟩) [] ([]) Try.func34 rfl rfl rfl (Ow.start _) ?_
  refine gc_seq ?_
  refine gc_region ?_
  refine nx (xo_boxA rfl rfl) rfl ?_
  rintro _ _ ⟨g3, rfl, rfl⟩
  refine nx (xo_boxA rfl rfl) rfl ?_
  rintro _ _ ⟨g4, rfl, rfl⟩
  refine ne (eo_as rfl rfl) rfl ?_
  refine go_nil ?_
  refine gq_next ?_
  refine gc_seq ?_
  refine gc_region ?_
  refine ne (eo_as rfl rfl) rfl ?_
  refine go_nil ?_
  refine gq_next ?_
  refine gc_seq ?_
  refine gc_draw [] [0, 1, 2, 3, 4, 5] [] [] (by kernel_rfl) (by kernel_rfl) ?_
  refine gp_nil ?_
  refine de rfl (eo_field rfl f32_1 rfl) rfl ?_
  refine de rfl (eo_load 0 rfl s3 rfl rfl rfl rfl) rfl ?_
  refine de rfl (eo_field rfl f32_3 rfl) rfl ?_
  refine de rfl (eo_load 0 rfl s3 rfl rfl rfl rfl) rfl ?_
  refine de rfl (eo_as rfl rfl) rfl ?_
  refine de rfl (eo_as rfl rfl) rfl ?_
  refine ge_nil ?_
  refine ga_nil ?_
  refine gi_nil ?_
  refine gq_nq ?_
  refine gq_next ?_
  refine gc_seq ?_
  refine gc_seq ?_
  refine gc_region ?_
  refine ne (eo_mv rfl rfl) rfl ?_
  refine go_nil ?_
  refine gq_next ?_
  refine gc_cond rfl (fun hc0 => ?_) (fun hc0 => ?_)
  ·
    subst hc0
    refine gc_draw [] [0, 1, 2, 3, 4, 5] [] [] (by kernel_rfl) (by kernel_rfl) ?_
    refine gp_nil ?_
    refine de rfl (eo_field rfl f32_0 rfl) rfl ?_
    refine de rfl (eo_load 0 rfl s3 rfl rfl rfl rfl) rfl ?_
    refine de rfl (eo_field rfl f32_2 rfl) rfl ?_
    refine de rfl (eo_load 0 rfl s3 rfl rfl rfl rfl) rfl ?_
    refine de rfl (eo_as rfl rfl) rfl ?_
    refine de rfl (eo_as rfl rfl) rfl ?_
    refine ge_nil ?_
    refine ga_nil ?_
    refine gi_nil ?_
    refine gq_nq ?_
    refine gq_next ?_
    refine gc_seq ?_
    refine gc_region ?_
    refine ne (eo_as rfl rfl) rfl ?_
    refine go_nil ?_
    refine gq_next ?_
    refine gc_seq ?_
    refine gc_seq ?_
    refine gc_region ?_
    refine ne (eo_mv rfl rfl) rfl ?_
    refine ne (eo_as rfl rfl) rfl ?_
    refine go_nil ?_
    refine gq_next ?_
    refine gc_block ?_
    refine loop4 (fun (i : Nat) (k : Nat) (f1 : Nat → Int) (s : AS) => i ≤ BW.toNat ∧ k = (gpL (emL f W ⟨X, Y, BW, BH⟩ true) X i).length ∧ s.Ok 2 k (tab (k * 2) (iv .i64 f1)) ∧ ∀ j, j < k * 2 → f1 j = ptG (gpL (emL f W ⟨X, Y, BW, BH⟩ true) X i) j) (fun (i : Nat) (k : Nat) (f1 : Nat → Int) (s : AS) => BW.toNat - i) (fun (i : Nat) (k : Nat) (f1 : Nat → Int) (s : AS) => [(2, .bool true), (3, .pointer (some ⟨g3, 0, none⟩)), (4, .pointer (some ⟨g4, 0, none⟩)), (7, s.val k), (8, .int .i64 X), (9, .int .i64 BW), (10, .bool (decide (1 ≤ i) && emL f W ⟨X, Y, BW, BH⟩ true (X + (i : Int) - 1))), (11, .int .i64 (X + (i : Int)))]) (fun (i : Nat) (k : Nat) (f1 : Nat → Int) (s : AS) => ⟨g4, 32, [.int .i64 X, .int .i64 Y, .int .i64 BW, .int .i64 BH]⟩ :: ⟨g3, 24, [.int .i64 W, .int .i64 H, .slice A n c]⟩ :: s.blks 38 (tab (k * 2) (iv .i64 f1))) 0 0 (fun _ => 0) .nil ⟨by omega, rfl, AS.OkN, fun j hj => by omega⟩ ⟨rfl, rfl, rfl, rfl, rfl, rfl, (look_bool rfl rfl), (look_int rfl (by omega)), trivial⟩ (List.Sublist.refl _) ?_
    rintro i k f1 s ⟨hi, hk, hs, hI⟩
    refine gc_seq ?_
    refine gc_seq ?_
    refine gc_region ?_
    refine ne (eo_mv rfl rfl) rfl ?_
    refine ne (eo_mv rfl rfl) rfl ?_
    refine ne (eo_mv rfl rfl) rfl ?_
    refine ne (eo_add rfl rfl rfl (by omega) (by omega)) rfl ?_
    refine ne (eo_lss rfl rfl rfl) rfl ?_
    refine go_nil ?_
    refine gq_next ?_
    refine gc_cond rfl (fun hc1 => ?_) (fun hc1 => ?_)
    ·
      replace hc1 := of_decide_eq_true hc1
      have hgl := gp_len (e := (emL f W ⟨X, Y, BW, BH⟩ true)) (a := X) (n := i)
      have hgf := gp_opF hk hI
      refine gc_skip ?_
      refine gq_next ?_
      refine gc_seq ?_
      refine gc_block ?_
      refine gc_seq ?_
      refine gc_region ?_
      refine ne (eo_field rfl f32_0 rfl) rfl ?_
      refine ne (eo_load 0 rfl s3 rfl rfl rfl rfl) rfl ?_
      refine ne (eo_mv rfl rfl) rfl ?_
      refine ne (eo_field rfl f32_2 rfl) rfl ?_
      refine ne (eo_load 0 rfl s3 rfl rfl rfl rfl) rfl ?_
      refine ne (eo_build rfl rfl (b32_0123 _ _ _ _)) rfl ?_
      refine nx (xo_alloc rfl z32) rfl ?_
      rintro _ _ ⟨g12, rfl, rfl⟩
      refine nu (xo_storeA 0 rfl a32 rfl rfl (ones_cons (by first | rfl | exact AS.one) (ones_cons (by first | rfl | exact AS.one) (ones_cons (by first | rfl | exact AS.one) (ones_cons (by first | rfl | exact AS.one) ones_nil)))) rfl rfl rfl rfl) ?_
      rintro _ _ ⟨rfl, rfl⟩
      refine go_nil ?_
      refine gq_next ?_
      refine gc_seq ?_
      refine gc_seq ?_
      refine gc_region ?_
      refine ne (eo_mv rfl rfl) rfl ?_
      refine go_nil ?_
      refine gq_next ?_
      refine gc_cond rfl (fun hc2 => ?_) (fun hc2 => ?_)
      ·
        refine gc_region ?_
        refine ne (eo_mv rfl rfl) rfl ?_
        refine ne (eo_field rfl f32_1 rfl) rfl ?_
        refine ne (eo_load 1 rfl s3 rfl rfl rfl rfl) rfl ?_
        refine ne (eo_field rfl f32_3 rfl) rfl ?_
        refine ne (eo_load 1 rfl s3 rfl rfl rfl rfl) rfl ?_
        refine ne (eo_build rfl rfl (b32_0123 _ _ _ _)) rfl ?_
        refine nu (xo_storeA 0 rfl a32 rfl rfl (ones_cons (by first | rfl | exact AS.one) (ones_cons (by first | rfl | exact AS.one) (ones_cons (by first | rfl | exact AS.one) (ones_cons (by first | rfl | exact AS.one) ones_nil)))) rfl rfl rfl rfl) ?_
        rintro _ _ ⟨rfl, rfl⟩
        refine go_nil ?_
        refine gq_next ?_
        refine gc_seq ?_
        refine gc_region ?_
        refine ne (eo_loadA 2 rfl a24 rfl rfl rfl rfl) rfl ?_
        refine ne (eo_loadA 0 rfl a32 rfl rfl rfl rfl) rfl ?_
        refine ne (eo_call rfl en43 rfl (fun W1 hO => calls_bool (b' := (emL f W ⟨X, Y, BW, BH⟩ true (X + (i : Int)))) rfl (rempty_c _ _ _ _ _ _ _ _ _ _ W1 (hr.old0 hO) hv (bin_mk (by omega) (by omega) (by omega) (by omega) (by omega) (by omega))))) rfl ?_
        refine ne (eo_as rfl rfl) rfl ?_
        refine go_nil ?_
        refine gq_next ?_
        refine gc_seq ?_
        refine gc_seq ?_
        refine gc_region ?_
        refine ne (eo_mv rfl rfl) rfl ?_
        refine ne (eo_mv rfl rfl) rfl ?_
        refine ng rfl rfl (fun h => eo_mv rfl rfl) rfl ?_
        refine ng rfl rfl (fun h => eo_not rfl (ev_if h rfl)) rfl ?_
        refine ne (eo_and rfl rfl (fun hb => ev_if hb rfl)) rfl ?_
        refine go_nil ?_
        refine gq_next ?_
        refine gc_cond rfl (fun hc3 => ?_) (fun hc3 => ?_)
        ·
          have hd3 := (and_t hc3).imp (fun h => h) (fun h => (not_t h))
          have hg2 := gp_opn (q := k * 2 + 1) hk hI hd3.1 hd3.2 rfl
          refine gc_region ?_
          refine ne (eo_mv rfl rfl) rfl ?_
          refine ne (eo_mv rfl rfl) rfl ?_
          refine ne (eo_build rfl rfl (b38_0 _)) rfl ?_
          refine nx (xo_lit rfl rfl lit34_1) rfl ?_
          rintro _ _ ⟨g55, rfl, rfl⟩
          refine nx (xo_appG (k' := k + 1) (G := (ptG (gpL (emL f W ⟨X, Y, BW, BH⟩ true) X i ++ [(X + (i : Int), 0)]))) [(X + (i : Int)), 0] ([⟨g55, 38, [.int .i64 (X + (i : Int)), .int .i64 0]⟩, ⟨g12, 32, [.int .i64 (X + (i : Int)), .int .i64 Y, .int .i64 1, .int .i64 BH]⟩, ⟨g4, 32, [.int .i64 X, .int .i64 Y, .int .i64 BW, .int .i64 BH]⟩, ⟨g3, 24, [.int .i64 W, .int .i64 H, .slice A n c]⟩]) rfl rfl Try.underlying34 en_38 rfl hs rfl rfl rfl hgf.1 hgf.2.1 (by omega) (by decide) rfl) rfl ?_
          rintro _ _ ⟨s56, hs56, rfl, rfl⟩
          refine ne (eo_as rfl rfl) rfl ?_
          refine go_nil ?_
          refine gq_next ?_
          refine gc_seq ?_
          refine gc_seq ?_
          refine gc_region ?_
          refine ne (eo_mv rfl rfl) rfl ?_
          refine go_nil ?_
          refine gq_next ?_
          refine gc_cond rfl (fun hc4 => ?_) (fun hc4 => ?_)
          ·
            obtain ⟨gq, spq, cq, rfl, hcq⟩ := as_atN hs56 (by omega)
            have hix : 0 + ((((k + 1 : Nat) : Int)) - 1).toNat * 2 + 1 = k * 2 + 1 := by omega
            have hq0 := hgf.2.2
            rw [← hix] at hg2 hq0
            refine gc_region ?_
            refine ne (eo_mv rfl rfl) rfl ?_
            refine ne (eo_mv rfl rfl) rfl ?_
            refine ne (eo_len rfl Try.underlying34 rfl) rfl ?_
            refine ne (eo_sub rfl rfl rfl (by omega) (by omega)) rfl ?_
            refine ne (eo_mv rfl rfl) rfl ?_
            refine ne (eo_mv rfl rfl) rfl ?_
            refine ne (eo_len rfl Try.underlying34 rfl) rfl ?_
            refine ne (eo_sub rfl rfl rfl (by omega) (by omega)) rfl ?_
            refine ne (eo_indexN rfl sl34 rfl rfl (by omega) (by omega)) rfl ?_
            refine ne (eo_field rfl f38_1 rfl) rfl ?_
            refine ne (eo_geti 4 rfl s3 rfl rfl (by omega)) rfl ?_
            refine ne (eo_add rfl rfl rfl (by omega) (by omega)) rfl ?_
            refine ne (eo_indexN rfl sl34 rfl rfl (by omega) (by omega)) rfl ?_
            refine ne (eo_field rfl f38_1 rfl) rfl ?_
            refine nu (xo_seti 4 rfl s3 rfl rfl rfl (by omega)) ?_
            rintro _ _ ⟨rfl, rfl⟩
            refine go_nil ?_
            refine gq_next ?_
            refine gc_region ?_
            refine ne (eo_mv rfl rfl) rfl ?_
            refine ne (eo_as rfl rfl) rfl ?_
            refine go_nil ?_
            refine gq_block_end ?_
            refine gq_next ?_
            refine gc_region ?_
            refine ne (eo_mv rfl rfl) rfl ?_
            refine ne (eo_add rfl rfl rfl (by omega) (by omega)) rfl ?_
            refine ne (eo_as rfl rfl) rfl ?_
            refine go_nil ?_
            exact round4 (i + 1) (k + 1) (upd (ptG (gpL (emL f W ⟨X, Y, BW, BH⟩ true) X i ++ [(X + (i : Int), 0)])) (0 + (((((k + 1) : Nat) : Int) - 1)).toNat * 2 + 1) (((ptG (gpL (emL f W ⟨X, Y, BW, BH⟩ true) X i ++ [(X + (i : Int), 0)])) (0 + (((((k + 1) : Nat) : Int) - 1)).toNat * 2 + 1)) + 1)) (.at_ gq spq cq) ⟨by omega, hg2.1, as_updN hs56, hg2.2⟩ (by omega) ⟨rfl, rfl, rfl, rfl, rfl, rfl, (look_bool rfl op_next), (look_int rfl (by omega)), trivial⟩ (List.Sublist.cons _ (List.Sublist.cons _ (List.Sublist.refl _)))
          ·
            exact absurd (hd3.1.symm.trans hc4) (by decide)
        ·
          have hd3 := (and_f hc3).imp (fun h => h) (fun h => (not_f h))
          refine gc_skip ?_
          refine gq_next ?_
          refine gc_seq ?_
          refine gc_seq ?_
          refine gc_region ?_
          refine ne (eo_mv rfl rfl) rfl ?_
          refine go_nil ?_
          refine gq_next ?_
          refine gc_cond rfl (fun hc4 => ?_) (fun hc4 => ?_)
          ·
            have hop := hd3.elim (fun q => absurd hc4 (by rw [q]; decide)) id
            have hgc := gp_cont hk hI hop
            have hgb := gp_bd hk hI hgc.1
            have hg2 := gp_ext (q := 0 + (((k : Nat) : Int) - 1).toNat * 2 + 1) hk hI hc4 hgc.1 hgc.2 (by omega)
            have hlq : f1 (0 + (((k : Nat) : Int) - 1).toNat * 2 + 1) = f1 ((k - 1) * 2 + 1) := by congr 1; omega
            obtain ⟨gq, spq, cq, rfl, hcq⟩ := as_atN hs (by omega)
            refine gc_region ?_
            refine ne (eo_mv rfl rfl) rfl ?_
            refine ne (eo_mv rfl rfl) rfl ?_
            refine ne (eo_len rfl Try.underlying34 rfl) rfl ?_
            refine ne (eo_sub rfl rfl rfl (by omega) (by omega)) rfl ?_
            refine ne (eo_mv rfl rfl) rfl ?_
            refine ne (eo_mv rfl rfl) rfl ?_
            refine ne (eo_len rfl Try.underlying34 rfl) rfl ?_
            refine ne (eo_sub rfl rfl rfl (by omega) (by omega)) rfl ?_
            refine ne (eo_indexN rfl sl34 rfl rfl (by omega) (by omega)) rfl ?_
            refine ne (eo_field rfl f38_1 rfl) rfl ?_
            refine ne (eo_geti 3 rfl s3 rfl rfl (by omega)) rfl ?_
            refine ne (eo_add rfl rfl rfl (by omega) (by omega)) rfl ?_
            refine ne (eo_indexN rfl sl34 rfl rfl (by omega) (by omega)) rfl ?_
            refine ne (eo_field rfl f38_1 rfl) rfl ?_
            refine nu (xo_seti 3 rfl s3 rfl rfl rfl (by omega)) ?_
            rintro _ _ ⟨rfl, rfl⟩
            refine go_nil ?_
            refine gq_next ?_
            refine gc_region ?_
            refine ne (eo_mv rfl rfl) rfl ?_
            refine ne (eo_as rfl rfl) rfl ?_
            refine go_nil ?_
            refine gq_block_end ?_
            refine gq_next ?_
            refine gc_region ?_
            refine ne (eo_mv rfl rfl) rfl ?_
            refine ne (eo_add rfl rfl rfl (by omega) (by omega)) rfl ?_
            refine ne (eo_as rfl rfl) rfl ?_
            refine go_nil ?_
            exact round4 (i + 1) k (upd f1 (0 + ((((k : Nat) : Int) - 1)).toNat * 2 + 1) ((f1 (0 + ((((k : Nat) : Int) - 1)).toNat * 2 + 1)) + 1)) (.at_ gq spq cq) ⟨by omega, hg2.1, as_updN hs, hg2.2⟩ (by omega) ⟨rfl, rfl, rfl, rfl, rfl, rfl, (look_bool rfl op_next), (look_int rfl (by omega)), trivial⟩ (List.Sublist.cons _ (List.Sublist.refl _))
          ·
            refine gc_skip ?_
            refine gq_next ?_
            refine gc_region ?_
            refine ne (eo_mv rfl rfl) rfl ?_
            refine ne (eo_as rfl rfl) rfl ?_
            refine go_nil ?_
            refine gq_block_end ?_
            refine gq_next ?_
            refine gc_region ?_
            refine ne (eo_mv rfl rfl) rfl ?_
            refine ne (eo_add rfl rfl rfl (by omega) (by omega)) rfl ?_
            refine ne (eo_as rfl rfl) rfl ?_
            refine go_nil ?_
            exact round4 (i + 1) k f1 s ⟨by omega, by rw [gpL_no hc4]; exact hk, hs, by rw [gpL_no hc4]; exact hI⟩ (by omega) ⟨rfl, rfl, rfl, rfl, rfl, rfl, (look_bool rfl op_next), (look_int rfl (by omega)), trivial⟩ (List.Sublist.cons _ (List.Sublist.refl _))
      ·
        first | exact absurd hc2 (by decide) | exact Bool.noConfusion hc2 | (exfalso; omega)
    ·
      replace hc1 := of_decide_eq_false hc1
      refine gc_exit ?_
      refine gq_then_exit ?_
      refine gq_then_exit ?_
      refine gq_block_hit ?_
      refine gq_next ?_
      refine gc_seq ?_
      refine gc_region ?_
      refine ne (eo_mv rfl rfl) rfl ?_
      refine ne (eo_as rfl rfl) rfl ?_
      refine go_nil ?_
      refine gq_next ?_
      refine gc_ret ?_
      refine gq_results (res1 rfl rfl) ?_
      rw [show i = BW.toNat by omega] at hk hI
      exact fun W1 hO => rln_as 2 hO rfl hs hk hI
  ·
    subst hc0
    refine gc_skip ?_
    refine gq_next ?_
    refine gc_seq ?_
    refine gc_region ?_
    refine ne (eo_as rfl rfl) rfl ?_
    refine go_nil ?_
    refine gq_next ?_
    refine gc_seq ?_
    refine gc_seq ?_
    refine gc_region ?_
    refine ne (eo_mv rfl rfl) rfl ?_
    refine ne (eo_as rfl rfl) rfl ?_
    refine go_nil ?_
    refine gq_next ?_
    refine gc_block ?_
    refine loop4 (fun (i : Nat) (k : Nat) (f1 : Nat → Int) (s : AS) => i ≤ BH.toNat ∧ k = (gpL (emL f W ⟨X, Y, BW, BH⟩ false) Y i).length ∧ s.Ok 2 k (tab (k * 2) (iv .i64 f1)) ∧ ∀ j, j < k * 2 → f1 j = ptG (gpL (emL f W ⟨X, Y, BW, BH⟩ false) Y i) j) (fun (i : Nat) (k : Nat) (f1 : Nat → Int) (s : AS) => BH.toNat - i) (fun (i : Nat) (k : Nat) (f1 : Nat → Int) (s : AS) => [(2, .bool false), (3, .pointer (some ⟨g3, 0, none⟩)), (4, .pointer (some ⟨g4, 0, none⟩)), (7, s.val k), (8, .int .i64 Y), (9, .int .i64 BH), (10, .bool (decide (1 ≤ i) && emL f W ⟨X, Y, BW, BH⟩ false (Y + (i : Int) - 1))), (11, .int .i64 (Y + (i : Int)))]) (fun (i : Nat) (k : Nat) (f1 : Nat → Int) (s : AS) => ⟨g4, 32, [.int .i64 X, .int .i64 Y, .int .i64 BW, .int .i64 BH]⟩ :: ⟨g3, 24, [.int .i64 W, .int .i64 H, .slice A n c]⟩ :: s.blks 38 (tab (k * 2) (iv .i64 f1))) 0 0 (fun _ => 0) .nil ⟨by omega, rfl, AS.OkN, fun j hj => by omega⟩ ⟨rfl, rfl, rfl, rfl, rfl, rfl, (look_bool rfl rfl), (look_int rfl (by omega)), trivial⟩ (List.Sublist.refl _) ?_
    rintro i k f1 s ⟨hi, hk, hs, hI⟩
    refine gc_seq ?_
    refine gc_seq ?_
    refine gc_region ?_
    refine ne (eo_mv rfl rfl) rfl ?_
    refine ne (eo_mv rfl rfl) rfl ?_
    refine ne (eo_mv rfl rfl) rfl ?_
    refine ne (eo_add rfl rfl rfl (by omega) (by omega)) rfl ?_
    refine ne (eo_lss rfl rfl rfl) rfl ?_
    refine go_nil ?_
    refine gq_next ?_
    refine gc_cond rfl (fun hc1 => ?_) (fun hc1 => ?_)
    ·
      replace hc1 := of_decide_eq_true hc1
      have hgl := gp_len (e := (emL f W ⟨X, Y, BW, BH⟩ false)) (a := Y) (n := i)
      have hgf := gp_opF hk hI
      refine gc_skip ?_
      refine gq_next ?_
      refine gc_seq ?_
      refine gc_block ?_
      refine gc_seq ?_
      refine gc_region ?_
      refine ne (eo_field rfl f32_0 rfl) rfl ?_
      refine ne (eo_load 0 rfl s3 rfl rfl rfl rfl) rfl ?_
      refine ne (eo_mv rfl rfl) rfl ?_
      refine ne (eo_field rfl f32_2 rfl) rfl ?_
      refine ne (eo_load 0 rfl s3 rfl rfl rfl rfl) rfl ?_
      refine ne (eo_build rfl rfl (b32_0123 _ _ _ _)) rfl ?_
      refine nx (xo_alloc rfl z32) rfl ?_
      rintro _ _ ⟨g12, rfl, rfl⟩
      refine nu (xo_storeA 0 rfl a32 rfl rfl (ones_cons (by first | rfl | exact AS.one) (ones_cons (by first | rfl | exact AS.one) (ones_cons (by first | rfl | exact AS.one) (ones_cons (by first | rfl | exact AS.one) ones_nil)))) rfl rfl rfl rfl) ?_
      rintro _ _ ⟨rfl, rfl⟩
      refine go_nil ?_
      refine gq_next ?_
      refine gc_seq ?_
      refine gc_seq ?_
      refine gc_region ?_
      refine ne (eo_mv rfl rfl) rfl ?_
      refine go_nil ?_
      refine gq_next ?_
      refine gc_cond rfl (fun hc2 => ?_) (fun hc2 => ?_)
      ·
        first | exact absurd hc2 (by decide) | exact Bool.noConfusion hc2 | (exfalso; omega)
      ·
        refine gc_skip ?_
        refine gq_next ?_
        refine gc_seq ?_
        refine gc_region ?_
        refine ne (eo_loadA 2 rfl a24 rfl rfl rfl rfl) rfl ?_
        refine ne (eo_loadA 0 rfl a32 rfl rfl rfl rfl) rfl ?_
        refine ne (eo_call rfl en43 rfl (fun W1 hO => calls_bool (b' := (emL f W ⟨X, Y, BW, BH⟩ false (Y + (i : Int)))) rfl (rempty_c _ _ _ _ _ _ _ _ _ _ W1 (hr.old0 hO) hv (bin_mk (by omega) (by omega) (by omega) (by omega) (by omega) (by omega))))) rfl ?_
        refine ne (eo_as rfl rfl) rfl ?_
        refine go_nil ?_
        refine gq_next ?_
        refine gc_seq ?_
        refine gc_seq ?_
        refine gc_region ?_
        refine ne (eo_mv rfl rfl) rfl ?_
        refine ne (eo_mv rfl rfl) rfl ?_
        refine ng rfl rfl (fun h => eo_mv rfl rfl) rfl ?_
        refine ng rfl rfl (fun h => eo_not rfl (ev_if h rfl)) rfl ?_
        refine ne (eo_and rfl rfl (fun hb => ev_if hb rfl)) rfl ?_
        refine go_nil ?_
        refine gq_next ?_
        refine gc_cond rfl (fun hc3 => ?_) (fun hc3 => ?_)
        ·
          have hd3 := (and_t hc3).imp (fun h => h) (fun h => (not_t h))
          have hg2 := gp_opn (q := k * 2 + 1) hk hI hd3.1 hd3.2 rfl
          refine gc_region ?_
          refine ne (eo_mv rfl rfl) rfl ?_
          refine ne (eo_mv rfl rfl) rfl ?_
          refine ne (eo_build rfl rfl (b38_0 _)) rfl ?_
          refine nx (xo_lit rfl rfl lit34_1) rfl ?_
          rintro _ _ ⟨g55, rfl, rfl⟩
          refine nx (xo_appG (k' := k + 1) (G := (ptG (gpL (emL f W ⟨X, Y, BW, BH⟩ false) Y i ++ [(Y + (i : Int), 0)]))) [(Y + (i : Int)), 0] ([⟨g55, 38, [.int .i64 (Y + (i : Int)), .int .i64 0]⟩, ⟨g12, 32, [.int .i64 X, .int .i64 (Y + (i : Int)), .int .i64 BW, .int .i64 1]⟩, ⟨g4, 32, [.int .i64 X, .int .i64 Y, .int .i64 BW, .int .i64 BH]⟩, ⟨g3, 24, [.int .i64 W, .int .i64 H, .slice A n c]⟩]) rfl rfl Try.underlying34 en_38 rfl hs rfl rfl rfl hgf.1 hgf.2.1 (by omega) (by decide) rfl) rfl ?_
          rintro _ _ ⟨s56, hs56, rfl, rfl⟩
          refine ne (eo_as rfl rfl) rfl ?_
          refine go_nil ?_
          refine gq_next ?_
          refine gc_seq ?_
          refine gc_seq ?_
          refine gc_region ?_
          refine ne (eo_mv rfl rfl) rfl ?_
          refine go_nil ?_
          refine gq_next ?_
          refine gc_cond rfl (fun hc4 => ?_) (fun hc4 => ?_)
          ·
            obtain ⟨gq, spq, cq, rfl, hcq⟩ := as_atN hs56 (by omega)
            have hix : 0 + ((((k + 1 : Nat) : Int)) - 1).toNat * 2 + 1 = k * 2 + 1 := by omega
            have hq0 := hgf.2.2
            rw [← hix] at hg2 hq0
            refine gc_region ?_
            refine ne (eo_mv rfl rfl) rfl ?_
            refine ne (eo_mv rfl rfl) rfl ?_
            refine ne (eo_len rfl Try.underlying34 rfl) rfl ?_
            refine ne (eo_sub rfl rfl rfl (by omega) (by omega)) rfl ?_
            refine ne (eo_mv rfl rfl) rfl ?_
            refine ne (eo_mv rfl rfl) rfl ?_
            refine ne (eo_len rfl Try.underlying34 rfl) rfl ?_
            refine ne (eo_sub rfl rfl rfl (by omega) (by omega)) rfl ?_
            refine ne (eo_indexN rfl sl34 rfl rfl (by omega) (by omega)) rfl ?_
            refine ne (eo_field rfl f38_1 rfl) rfl ?_
            refine ne (eo_geti 4 rfl s3 rfl rfl (by omega)) rfl ?_
            refine ne (eo_add rfl rfl rfl (by omega) (by omega)) rfl ?_
            refine ne (eo_indexN rfl sl34 rfl rfl (by omega) (by omega)) rfl ?_
            refine ne (eo_field rfl f38_1 rfl) rfl ?_
            refine nu (xo_seti 4 rfl s3 rfl rfl rfl (by omega)) ?_
            rintro _ _ ⟨rfl, rfl⟩
            refine go_nil ?_
            refine gq_next ?_
            refine gc_region ?_
            refine ne (eo_mv rfl rfl) rfl ?_
            refine ne (eo_as rfl rfl) rfl ?_
            refine go_nil ?_
            refine gq_block_end ?_
            refine gq_next ?_
            refine gc_region ?_
            refine ne (eo_mv rfl rfl) rfl ?_
            refine ne (eo_add rfl rfl rfl (by omega) (by omega)) rfl ?_
            refine ne (eo_as rfl rfl) rfl ?_
            refine go_nil ?_
            exact round4 (i + 1) (k + 1) (upd (ptG (gpL (emL f W ⟨X, Y, BW, BH⟩ false) Y i ++ [(Y + (i : Int), 0)])) (0 + (((((k + 1) : Nat) : Int) - 1)).toNat * 2 + 1) (((ptG (gpL (emL f W ⟨X, Y, BW, BH⟩ false) Y i ++ [(Y + (i : Int), 0)])) (0 + (((((k + 1) : Nat) : Int) - 1)).toNat * 2 + 1)) + 1)) (.at_ gq spq cq) ⟨by omega, hg2.1, as_updN hs56, hg2.2⟩ (by omega) ⟨rfl, rfl, rfl, rfl, rfl, rfl, (look_bool rfl op_next), (look_int rfl (by omega)), trivial⟩ (List.Sublist.cons _ (List.Sublist.cons _ (List.Sublist.refl _)))
          ·
            exact absurd (hd3.1.symm.trans hc4) (by decide)
        ·
          have hd3 := (and_f hc3).imp (fun h => h) (fun h => (not_f h))
          refine gc_skip ?_
          refine gq_next ?_
          refine gc_seq ?_
          refine gc_seq ?_
          refine gc_region ?_
          refine ne (eo_mv rfl rfl) rfl ?_
          refine go_nil ?_
          refine gq_next ?_
          refine gc_cond rfl (fun hc4 => ?_) (fun hc4 => ?_)
          ·
            have hop := hd3.elim (fun q => absurd hc4 (by rw [q]; decide)) id
            have hgc := gp_cont hk hI hop
            have hgb := gp_bd hk hI hgc.1
            have hg2 := gp_ext (q := 0 + (((k : Nat) : Int) - 1).toNat * 2 + 1) hk hI hc4 hgc.1 hgc.2 (by omega)
            have hlq : f1 (0 + (((k : Nat) : Int) - 1).toNat * 2 + 1) = f1 ((k - 1) * 2 + 1) := by congr 1; omega
            obtain ⟨gq, spq, cq, rfl, hcq⟩ := as_atN hs (by omega)
            refine gc_region ?_
            refine ne (eo_mv rfl rfl) rfl ?_
            refine ne (eo_mv rfl rfl) rfl ?_
            refine ne (eo_len rfl Try.underlying34 rfl) rfl ?_
            refine ne (eo_sub rfl rfl rfl (by omega) (by omega)) rfl ?_
            refine ne (eo_mv rfl rfl) rfl ?_
            refine ne (eo_mv rfl rfl) rfl ?_
            refine ne (eo_len rfl Try.underlying34 rfl) rfl ?_
            refine ne (eo_sub rfl rfl rfl (by omega) (by omega)) rfl ?_
            refine ne (eo_indexN rfl sl34 rfl rfl (by omega) (by omega)) rfl ?_
            refine ne (eo_field rfl f38_1 rfl) rfl ?_
            refine ne (eo_geti 3 rfl s3 rfl rfl (by omega)) rfl ?_
            refine ne (eo_add rfl rfl rfl (by omega) (by omega)) rfl ?_
            refine ne (eo_indexN rfl sl34 rfl rfl (by omega) (by omega)) rfl ?_
            refine ne (eo_field rfl f38_1 rfl) rfl ?_
            refine nu (xo_seti 3 rfl s3 rfl rfl rfl (by omega)) ?_
            rintro _ _ ⟨rfl, rfl⟩
            refine go_nil ?_
            refine gq_next ?_
            refine gc_region ?_
            refine ne (eo_mv rfl rfl) rfl ?_
            refine ne (eo_as rfl rfl) rfl ?_
            refine go_nil ?_
            refine gq_block_end ?_
            refine gq_next ?_
            refine gc_region ?_
            refine ne (eo_mv rfl rfl) rfl ?_
            refine ne (eo_add rfl rfl rfl (by omega) (by omega)) rfl ?_
            refine ne (eo_as rfl rfl) rfl ?_
            refine go_nil ?_
            exact round4 (i + 1) k (upd f1 (0 + ((((k : Nat) : Int) - 1)).toNat * 2 + 1) ((f1 (0 + ((((k : Nat) : Int) - 1)).toNat * 2 + 1)) + 1)) (.at_ gq spq cq) ⟨by omega, hg2.1, as_updN hs, hg2.2⟩ (by omega) ⟨rfl, rfl, rfl, rfl, rfl, rfl, (look_bool rfl op_next), (look_int rfl (by omega)), trivial⟩ (List.Sublist.cons _ (List.Sublist.refl _))
          ·
            refine gc_skip ?_
            refine gq_next ?_
            refine gc_region ?_
            refine ne (eo_mv rfl rfl) rfl ?_
            refine ne (eo_as rfl rfl) rfl ?_
            refine go_nil ?_
            refine gq_block_end ?_
            refine gq_next ?_
            refine gc_region ?_
            refine ne (eo_mv rfl rfl) rfl ?_
            refine ne (eo_add rfl rfl rfl (by omega) (by omega)) rfl ?_
            refine ne (eo_as rfl rfl) rfl ?_
            refine go_nil ?_
            exact round4 (i + 1) k f1 s ⟨by omega, by rw [gpL_no hc4]; exact hk, hs, by rw [gpL_no hc4]; exact hI⟩ (by omega) ⟨rfl, rfl, rfl, rfl, rfl, rfl, (look_bool rfl op_next), (look_int rfl (by omega)), trivial⟩ (List.Sublist.cons _ (List.Sublist.refl _))
    ·
      replace hc1 := of_decide_eq_false hc1
      refine gc_exit ?_
      refine gq_then_exit ?_
      refine gq_then_exit ?_
      refine gq_block_hit ?_
      refine gq_next ?_
      refine gc_seq ?_
      refine gc_region ?_
      refine ne (eo_mv rfl rfl) rfl ?_
      refine ne (eo_as rfl rfl) rfl ?_
      refine go_nil ?_
      refine gq_next ?_
      refine gc_ret ?_
      refine gq_results (res1 rfl rfl) ?_
      rw [show i = BH.toNat by omega] at hk hI
      exact fun W1 hO => rln_as 2 hO rfl hs hk hI

end Go.Proofs.Ytnmiljloifbjeaa
