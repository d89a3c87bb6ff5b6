/-
  The walks of the functions of package raster and of the document's answer (part B): what each call returns, at every argument.
-/
import Derived.Test.YtefblgildcaldaaWA
namespace Go.Proofs.Ytefblgildcaldaa
open Go.RowKit Go.Eng

open Go.Bs
theorem f26_2 : FieldAt Try.prog 26 2 2 := ⟨_, _, 0, Try.underlying26, rfl, by kernel_rfl, rfl⟩
theorem f26_3 : FieldAt Try.prog 26 3 3 := ⟨_, _, 0, Try.underlying26, rfl, by kernel_rfl, rfl⟩
theorem b24_01 (x0 : Int) (x1 : Int) (W : World) : (Instr.build 24 #[(0, .int .i64 x0), (1, .int .i64 x1)]).run Try.prog W = .ok (.agg #[.int .i64 x0, .int .i64 x1, .slice none 0 0]) W := by kernel_rfl
theorem f26_0 : FieldAt Try.prog 26 0 0 := ⟨_, _, 0, Try.underlying26, rfl, by kernel_rfl, rfl⟩
theorem en50 : Ent Try.prog 50 := ent_of Try.func50 (by kernel_rfl) rfl
theorem f26_1 : FieldAt Try.prog 26 1 1 := ⟨_, _, 0, Try.underlying26, rfl, by kernel_rfl, rfl⟩
theorem en32 : Ent Try.prog 32 := ent_of Try.func32 (by kernel_rfl) rfl
theorem en48 : Ent Try.prog 48 := ent_of Try.func48 (by kernel_rfl) rfl
theorem en47 : Ent Try.prog 47 := ent_of Try.func47 (by kernel_rfl) rfl
theorem s5 : TyS Try.prog 5 := ⟨⟨_, Try.underlying5, rfl⟩, by kernel_rfl⟩
theorem en58 : Ent Try.prog 58 := ent_of Try.func58 (by kernel_rfl) rfl
theorem en59 : Ent Try.prog 59 := ent_of Try.func59 (by kernel_rfl) rfl
theorem en51 : Ent Try.prog 51 := ent_of Try.func51 (by kernel_rfl) rfl
theorem en53 : Ent Try.prog 53 := ent_of Try.func53 (by kernel_rfl) rfl
theorem en54 : Ent Try.prog 54 := ent_of Try.func54 (by kernel_rfl) rfl
theorem en55 : Ent Try.prog 55 := ent_of Try.func55 (by kernel_rfl) rfl
theorem z55 : TyZ Try.prog 55 [.int .i64 0, .int .i64 0, .slice none 0 0] := .inl (by kernel_rfl)
theorem en29 : Ent Try.prog 29 := ent_of Try.func29 (by kernel_rfl) rfl
theorem en62 : Ent Try.prog 62 := ent_of Try.func62 (by kernel_rfl) rfl
theorem en63 : Ent Try.prog 63 := ent_of Try.func63 (by kernel_rfl) rfl
theorem b55_012 (x0 : Int) (x1 : Int) (x2A : Option Addr) (x2n x2c : Nat) (W : World) : (Instr.build 55 #[(0, .int .i64 x0), (1, .int .i64 x1), (2, .slice x2A x2n x2c)]).run Try.prog W = .ok (.agg #[.int .i64 x0, .int .i64 x1, .slice x2A x2n x2c]) W := by kernel_rfl
theorem b55_  (W : World) : (Instr.build 55 #[]).run Try.prog W = .ok (.agg #[.int .i64 0, .int .i64 0, .slice none 0 0]) W := by kernel_rfl

/-- barscan/barscanref31.Crop -/
theorem rcrop_ok (X Y BW BH W H : Int) (A : Option Addr) (n c : Nat) (f : Nat → Bool) (w : World) (hr : Rd w A (tab n (bv f))) (hv : vldB W H n = true) (hf : fitsB BW BH = true) :
    Calls Try.prog 15 #[.agg #[.int .i64 W, .int .i64 H, .slice A n c], .agg #[.int .i64 X, .int .i64 Y, .int .i64 BW, .int .i64 BH]] w fun e w' => ∃ v Hn, e = .returned v ∧ RE 4 BW BH (BW * BH).toNat (cropF 10000 W H n f X Y BW) v Hn ∧ Ow [] w w' Hn := by
  have hb := fits_bd hf
  obtain ⟨f1, f2, f3, f4, f5⟩ := fitsB_iff.1 hf
  have hnx := nearI_bd (m := 10000) (n := X) (by omega)
  have hny := nearI_bd (m := 10000) (n := Y) (by omega)
  refine calls_enter (N := ⟨55, []⟩) ([]) ([]) Try.func15 rfl rfl rfl (Ow.start _) ?_
  refine gc_seq ?_
  refine gc_region ?_
  refine nx (xo_boxA rfl rfl) rfl ?_
  rintro _ _ ⟨g2, rfl, rfl⟩
  refine nx (xo_boxA rfl rfl) rfl ?_
  rintro _ _ ⟨g3, rfl, rfl⟩
  refine nx (xo_alloc rfl z24) rfl ?_
  rintro _ _ ⟨g4, rfl, rfl⟩
  refine ne (eo_as rfl rfl) rfl ?_
  refine go_nil ?_
  refine gq_next ?_
  refine gc_seq ?_
  refine gc_seq ?_
  refine gc_region ?_
  refine ne (by first | exact eo_loadA 0 rfl a24 rfl rfl rfl rfl | exact eo_loadA 1 rfl a24 rfl rfl rfl rfl | exact eo_loadA 2 rfl a24 rfl rfl rfl rfl | exact eo_loadA 3 rfl a24 rfl rfl rfl rfl | exact eo_loadA 4 rfl a24 rfl rfl rfl rfl | exact eo_loadA 5 rfl a24 rfl rfl rfl rfl) rfl ?_
  refine ne (eo_call rfl en36 rfl (fun W _ => valid_c _ _ _ _ _ W)) rfl ?_
  refine ne (eo_not rfl rfl) rfl ?_
  refine go_nil ?_
  refine gq_next ?_
  refine gc_cond rfl (fun hc11 => ?_) (fun hc11 => ?_)
  ·
    exact absurd hv (by simpa using hc11)
  ·
    refine gc_skip ?_
    refine gq_next ?_
    refine gc_seq ?_
    refine gc_seq ?_
    refine gc_region ?_
    refine ne (eo_field rfl f26_2 rfl) rfl ?_
    refine ne (by first | exact eo_load 0 rfl s3 rfl rfl rfl rfl | exact eo_load 1 rfl s3 rfl rfl rfl rfl | exact eo_load 2 rfl s3 rfl rfl rfl rfl | exact eo_load 3 rfl s3 rfl rfl rfl rfl | exact eo_load 4 rfl s3 rfl rfl rfl rfl | exact eo_load 5 rfl s3 rfl rfl rfl rfl) rfl ?_
    refine ne (eo_field rfl f26_3 rfl) rfl ?_
    refine ne (by first | exact eo_load 0 rfl s3 rfl rfl rfl rfl | exact eo_load 1 rfl s3 rfl rfl rfl rfl | exact eo_load 2 rfl s3 rfl rfl rfl rfl | exact eo_load 3 rfl s3 rfl rfl rfl rfl | exact eo_load 4 rfl s3 rfl rfl rfl rfl | exact eo_load 5 rfl s3 rfl rfl rfl rfl) rfl ?_
    refine ne (eo_call rfl en49 rfl (fun W _ => fits_c _ _ W)) rfl ?_
    refine ne (eo_not rfl rfl) rfl ?_
    refine go_nil ?_
    refine gq_next ?_
    refine gc_cond rfl (fun hc18 => ?_) (fun hc18 => ?_)
    ·
      exact absurd hf (by simpa using hc18)
    ·
      refine gc_skip ?_
      refine gq_next ?_
      refine gc_seq ?_
      refine gc_region ?_
      refine ne (eo_field rfl f26_2 rfl) rfl ?_
      refine ne (by first | exact eo_load 0 rfl s3 rfl rfl rfl rfl | exact eo_load 1 rfl s3 rfl rfl rfl rfl | exact eo_load 2 rfl s3 rfl rfl rfl rfl | exact eo_load 3 rfl s3 rfl rfl rfl rfl | exact eo_load 4 rfl s3 rfl rfl rfl rfl | exact eo_load 5 rfl s3 rfl rfl rfl rfl) rfl ?_
      refine ne (eo_field rfl f26_3 rfl) rfl ?_
      refine ne (by first | exact eo_load 0 rfl s3 rfl rfl rfl rfl | exact eo_load 1 rfl s3 rfl rfl rfl rfl | exact eo_load 2 rfl s3 rfl rfl rfl rfl | exact eo_load 3 rfl s3 rfl rfl rfl rfl | exact eo_load 4 rfl s3 rfl rfl rfl rfl | exact eo_load 5 rfl s3 rfl rfl rfl rfl) rfl ?_
      refine ne (eo_build rfl rfl (b24_01 _ _)) rfl ?_
      refine nx (xo_alloc rfl z24) rfl ?_
      rintro _ _ ⟨g6, rfl, rfl⟩
      refine nu (by first | exact xo_storeA 0 rfl a24 rfl rfl (ones_cons (by first | rfl | exact AS.one) (ones_cons (by first | rfl | exact AS.one) (ones_cons (by first | rfl | exact AS.one) ones_nil))) rfl rfl rfl rfl | exact xo_storeA 1 rfl a24 rfl rfl (ones_cons (by first | rfl | exact AS.one) (ones_cons (by first | rfl | exact AS.one) (ones_cons (by first | rfl | exact AS.one) ones_nil))) rfl rfl rfl rfl | exact xo_storeA 2 rfl a24 rfl rfl (ones_cons (by first | rfl | exact AS.one) (ones_cons (by first | rfl | exact AS.one) (ones_cons (by first | rfl | exact AS.one) ones_nil))) rfl rfl rfl rfl | exact xo_storeA 3 rfl a24 rfl rfl (ones_cons (by first | rfl | exact AS.one) (ones_cons (by first | rfl | exact AS.one) (ones_cons (by first | rfl | exact AS.one) ones_nil))) rfl rfl rfl rfl | exact xo_storeA 4 rfl a24 rfl rfl (ones_cons (by first | rfl | exact AS.one) (ones_cons (by first | rfl | exact AS.one) (ones_cons (by first | rfl | exact AS.one) ones_nil))) rfl rfl rfl rfl | exact xo_storeA 5 rfl a24 rfl rfl (ones_cons (by first | rfl | exact AS.one) (ones_cons (by first | rfl | exact AS.one) (ones_cons (by first | rfl | exact AS.one) ones_nil))) rfl rfl rfl rfl) ?_
      rintro _ _ ⟨rfl, rfl⟩
      refine go_nil ?_
      refine gq_next ?_
      refine gc_seq ?_
      refine gc_seq ?_
      refine gc_region ?_
      refine ne (eo_as rfl rfl) rfl ?_
      refine go_nil ?_
      refine gq_next ?_
      refine gc_block ?_
      refine loop3 (fun (y : Nat) (k : Nat) (s : AS) => (y : Int) ≤ BH ∧ (k : Int) = y * BW ∧ s.Ok 1 k (tab k (bv (cropF 10000 W H n f X Y BW)))) (fun (y : Nat) (k : Nat) (s : AS) => (BH - y).toNat) (fun (y : Nat) (k : Nat) (s : AS) => [(2, .pointer (some ⟨g2, 0, none⟩)), (3, .pointer (some ⟨g3, 0, none⟩)), (4, .pointer (some ⟨g4, 0, none⟩)), (6, .pointer (some ⟨g6, 0, none⟩)), (7, .int .i64 y)]) (fun (y : Nat) (k : Nat) (s : AS) => [⟨g6, 24, [.int .i64 BW, .int .i64 BH, s.val k]⟩, ⟨g4, 24, [.int .i64 0, .int .i64 0, .slice none 0 0]⟩, ⟨g3, 26, [.int .i64 X, .int .i64 Y, .int .i64 BW, .int .i64 BH]⟩, ⟨g2, 24, [.int .i64 W, .int .i64 H, .slice A n c]⟩] ++ s.blks 4 (tab k (bv (cropF 10000 W H n f X Y BW)))) 0 0 .nil ⟨by omega, by simp, AS.Ok0⟩ ⟨rfl, rfl, rfl, rfl, rfl, trivial⟩ (by first | exact List.Sublist.refl _ | exact List.Sublist.cons _ (List.Sublist.refl _) | exact List.Sublist.cons _ (List.Sublist.cons _ (List.Sublist.refl _)) | exact List.Sublist.cons _ (List.Sublist.cons _ (List.Sublist.cons _ (List.Sublist.refl _))) | exact List.Sublist.cons_cons _ (List.Sublist.cons _ (List.Sublist.refl _))) ?_
      rintro y k s ⟨hy, hk, hs⟩
      refine gc_seq ?_
      refine gc_seq ?_
      refine gc_region ?_
      refine ne (eo_mv rfl rfl) rfl ?_
      refine ne (eo_field rfl f26_3 rfl) rfl ?_
      refine ne (by first | exact eo_load 0 rfl s3 rfl rfl rfl rfl | exact eo_load 1 rfl s3 rfl rfl rfl rfl | exact eo_load 2 rfl s3 rfl rfl rfl rfl | exact eo_load 3 rfl s3 rfl rfl rfl rfl | exact eo_load 4 rfl s3 rfl rfl rfl rfl | exact eo_load 5 rfl s3 rfl rfl rfl rfl) rfl ?_
      refine ne (eo_lss rfl rfl rfl) rfl ?_
      refine go_nil ?_
      refine gq_next ?_
      refine gc_cond rfl (fun hc28 => ?_) (fun hc28 => ?_)
      ·
        replace hc28 := of_decide_eq_true hc28
        refine gc_skip ?_
        refine gq_next ?_
        refine gc_seq ?_
        refine gc_block ?_
        refine gc_seq ?_
        refine gc_region ?_
        refine ne (eo_as rfl rfl) rfl ?_
        refine go_nil ?_
        refine gq_next ?_
        refine gc_block ?_
        refine loop3 (fun (x : Nat) (k : Nat) (s : AS) => (x : Int) ≤ BW ∧ (k : Int) = y * BW + x ∧ s.Ok 1 k (tab k (bv (cropF 10000 W H n f X Y BW)))) (fun (x : Nat) (k : Nat) (s : AS) => (BW - x).toNat) (fun (x : Nat) (k : Nat) (s : AS) => [(2, .pointer (some ⟨g2, 0, none⟩)), (3, .pointer (some ⟨g3, 0, none⟩)), (4, .pointer (some ⟨g4, 0, none⟩)), (6, .pointer (some ⟨g6, 0, none⟩)), (7, .int .i64 y), (8, .int .i64 x)]) (fun (x : Nat) (k : Nat) (s : AS) => [⟨g6, 24, [.int .i64 BW, .int .i64 BH, s.val k]⟩, ⟨g4, 24, [.int .i64 0, .int .i64 0, .slice none 0 0]⟩, ⟨g3, 26, [.int .i64 X, .int .i64 Y, .int .i64 BW, .int .i64 BH]⟩, ⟨g2, 24, [.int .i64 W, .int .i64 H, .slice A n c]⟩] ++ s.blks 4 (tab k (bv (cropF 10000 W H n f X Y BW)))) 0 k s ⟨by omega, by omega, hs⟩ ⟨rfl, rfl, rfl, rfl, rfl, rfl, trivial⟩ (by first | exact List.Sublist.refl _ | exact List.Sublist.cons _ (List.Sublist.refl _) | exact List.Sublist.cons _ (List.Sublist.cons _ (List.Sublist.refl _)) | exact List.Sublist.cons _ (List.Sublist.cons _ (List.Sublist.cons _ (List.Sublist.refl _))) | exact List.Sublist.cons_cons _ (List.Sublist.cons _ (List.Sublist.refl _))) ?_
        rintro x k s ⟨hx, hk, hs⟩
        have hyb := idx_bd (W := BW) (H := BH) (x := 0) (y := y) (by omega) (by omega) (by omega) (by omega)
        refine gc_seq ?_
        refine gc_seq ?_
        refine gc_region ?_
        refine ne (eo_mv rfl rfl) rfl ?_
        refine ne (eo_field rfl f26_2 rfl) rfl ?_
        refine ne (by first | exact eo_load 0 rfl s3 rfl rfl rfl rfl | exact eo_load 1 rfl s3 rfl rfl rfl rfl | exact eo_load 2 rfl s3 rfl rfl rfl rfl | exact eo_load 3 rfl s3 rfl rfl rfl rfl | exact eo_load 4 rfl s3 rfl rfl rfl rfl | exact eo_load 5 rfl s3 rfl rfl rfl rfl) rfl ?_
        refine ne (eo_lss rfl rfl rfl) rfl ?_
        refine go_nil ?_
        refine gq_next ?_
        refine gc_cond rfl (fun hc34 => ?_) (fun hc34 => ?_)
        ·
          replace hc34 := of_decide_eq_true hc34
          refine gc_skip ?_
          refine gq_next ?_
          refine gc_seq ?_
          refine gc_block ?_
          refine gc_draw [] [0, 1, 2, 3, 4, 5, 6, 7, 8, 9, 10, 11, 12, 13] [14] [15, 16, 17] (by kernel_rfl) (by kernel_rfl) ?_
          refine gp_nil ?_
          refine de rfl (eo_field rfl f24_2 rfl) rfl ?_
          refine de rfl (by first | exact eo_load 0 rfl s22 rfl rfl rfl rfl | exact eo_load 1 rfl s22 rfl rfl rfl rfl | exact eo_load 2 rfl s22 rfl rfl rfl rfl | exact eo_load 3 rfl s22 rfl rfl rfl rfl | exact eo_load 4 rfl s22 rfl rfl rfl rfl | exact eo_load 5 rfl s22 rfl rfl rfl rfl) rfl ?_
          refine de rfl (by first | exact eo_loadA 0 rfl a24 rfl rfl rfl rfl | exact eo_loadA 1 rfl a24 rfl rfl rfl rfl | exact eo_loadA 2 rfl a24 rfl rfl rfl rfl | exact eo_loadA 3 rfl a24 rfl rfl rfl rfl | exact eo_loadA 4 rfl a24 rfl rfl rfl rfl | exact eo_loadA 5 rfl a24 rfl rfl rfl rfl) rfl ?_
          refine de rfl (eo_field rfl f26_0 rfl) rfl ?_
          refine de rfl (by first | exact eo_load 0 rfl s3 rfl rfl rfl rfl | exact eo_load 1 rfl s3 rfl rfl rfl rfl | exact eo_load 2 rfl s3 rfl rfl rfl rfl | exact eo_load 3 rfl s3 rfl rfl rfl rfl | exact eo_load 4 rfl s3 rfl rfl rfl rfl | exact eo_load 5 rfl s3 rfl rfl rfl rfl) rfl ?_
          refine de rfl (eo_call rfl en50 rfl (fun W _ => rnear_c _ W)) rfl ?_
          refine de rfl (eo_mv rfl rfl) rfl ?_
          refine de rfl (eo_add rfl rfl rfl (by omega) (by omega)) rfl ?_
          refine de rfl (eo_field rfl f26_1 rfl) rfl ?_
          refine de rfl (by first | exact eo_load 0 rfl s3 rfl rfl rfl rfl | exact eo_load 1 rfl s3 rfl rfl rfl rfl | exact eo_load 2 rfl s3 rfl rfl rfl rfl | exact eo_load 3 rfl s3 rfl rfl rfl rfl | exact eo_load 4 rfl s3 rfl rfl rfl rfl | exact eo_load 5 rfl s3 rfl rfl rfl rfl) rfl ?_
          refine de rfl (eo_call rfl en50 rfl (fun W _ => rnear_c _ W)) rfl ?_
          refine de rfl (eo_mv rfl rfl) rfl ?_
          refine de rfl (eo_add rfl rfl rfl (by omega) (by omega)) rfl ?_
          refine de rfl (eo_call rfl en32 rfl (fun W hO => rat_c _ _ _ _ _ _ _ _ W (hr.old0 hO))) rfl ?_
          refine ge_nil ?_
          refine da rfl (xo_lit1 rfl Try.underlying22 e4 rfl rfl) rfl ?_
          rintro _ _ ⟨g51, rfl, rfl⟩
          refine ⟨(by first | exact List.Sublist.refl _ | exact List.Sublist.cons _ (List.Sublist.refl _) | exact List.Sublist.cons _ (List.Sublist.cons _ (List.Sublist.refl _)) | exact List.Sublist.cons _ (List.Sublist.cons _ (List.Sublist.cons _ (List.Sublist.refl _))) | exact List.Sublist.cons_cons _ (List.Sublist.cons _ (List.Sublist.refl _))), ?_⟩
          refine ga_nil ?_
          refine ix rfl (xo_app1b 5 rfl rfl Try.underlying22 e4 rfl hs rfl rfl (by unfold cropF; rw [(dm hk (by omega) (by omega)).1, (dm hk (by omega) (by omega)).2]) (by omega)) rfl ?_
          rintro _ _ ⟨s1, hs1, rfl, rfl⟩
          refine ie rfl (eo_field rfl f24_2 rfl) rfl ?_
          refine iu rfl (by first | exact xo_store 0 rfl s22 rfl rfl (by first | rfl | exact AS.one) rfl rfl (by simp) | exact xo_store 1 rfl s22 rfl rfl (by first | rfl | exact AS.one) rfl rfl (by simp) | exact xo_store 2 rfl s22 rfl rfl (by first | rfl | exact AS.one) rfl rfl (by simp) | exact xo_store 3 rfl s22 rfl rfl (by first | rfl | exact AS.one) rfl rfl (by simp) | exact xo_store 4 rfl s22 rfl rfl (by first | rfl | exact AS.one) rfl rfl (by simp) | exact xo_store 5 rfl s22 rfl rfl (by first | rfl | exact AS.one) rfl rfl (by simp)) ?_
          rintro _ _ ⟨rfl, rfl⟩
          refine gi_nil ?_
          refine gq_nq ?_
          refine gq_block_end ?_
          refine gq_next ?_
          refine gc_region ?_
          refine ne (eo_mv rfl rfl) rfl ?_
          refine ne (eo_add rfl rfl rfl (by omega) (by omega)) rfl ?_
          refine ne (eo_as rfl rfl) rfl ?_
          refine go_nil ?_
          exact round3 (x + 1) (k + 1) s1 ⟨by omega, by push_cast; omega, hs1⟩ (by omega) ⟨rfl, rfl, rfl, rfl, rfl, rfl, trivial⟩ (by first | exact List.Sublist.refl _ | exact List.Sublist.cons _ (List.Sublist.refl _) | exact List.Sublist.cons _ (List.Sublist.cons _ (List.Sublist.refl _)) | exact List.Sublist.cons _ (List.Sublist.cons _ (List.Sublist.cons _ (List.Sublist.refl _))) | exact List.Sublist.cons_cons _ (List.Sublist.cons _ (List.Sublist.refl _)))
        ·
          replace hc34 := of_decide_eq_false hc34
          refine gc_exit ?_
          refine gq_then_exit ?_
          refine gq_then_exit ?_
          refine gq_block_hit ?_
          refine gq_block_end ?_
          refine gq_next ?_
          refine gc_region ?_
          refine ne (eo_mv rfl rfl) rfl ?_
          refine ne (eo_add rfl rfl rfl (by omega) (by omega)) rfl ?_
          refine ne (eo_as rfl rfl) rfl ?_
          refine go_nil ?_
          exact round3 (y + 1) k s ⟨by omega, by rw [hk]; push_cast; rw [add1_mul]; omega, hs⟩ (by omega) ⟨rfl, rfl, rfl, rfl, rfl, trivial⟩ (by first | exact List.Sublist.refl _ | exact List.Sublist.cons _ (List.Sublist.refl _) | exact List.Sublist.cons _ (List.Sublist.cons _ (List.Sublist.refl _)) | exact List.Sublist.cons _ (List.Sublist.cons _ (List.Sublist.cons _ (List.Sublist.refl _))) | exact List.Sublist.cons_cons _ (List.Sublist.cons _ (List.Sublist.refl _)))
      ·
        replace hc28 := of_decide_eq_false hc28
        have hye : (y : Int) = BH := by omega
        rw [hye, Int.mul_comm] at hk
        refine gc_exit ?_
        refine gq_then_exit ?_
        refine gq_then_exit ?_
        refine gq_block_hit ?_
        refine gq_next ?_
        refine gc_seq ?_
        refine gc_region ?_
        refine ne (by first | exact eo_loadA 0 rfl a24 rfl rfl rfl rfl | exact eo_loadA 1 rfl a24 rfl rfl rfl rfl | exact eo_loadA 2 rfl a24 rfl rfl rfl rfl | exact eo_loadA 3 rfl a24 rfl rfl rfl rfl | exact eo_loadA 4 rfl a24 rfl rfl rfl rfl | exact eo_loadA 5 rfl a24 rfl rfl rfl rfl) rfl ?_
        refine nu (by first | exact xo_storeA 0 rfl a24 rfl rfl (ones_cons (by first | rfl | exact AS.one) (ones_cons (by first | rfl | exact AS.one) (ones_cons (by first | rfl | exact AS.one) ones_nil))) rfl rfl rfl rfl | exact xo_storeA 1 rfl a24 rfl rfl (ones_cons (by first | rfl | exact AS.one) (ones_cons (by first | rfl | exact AS.one) (ones_cons (by first | rfl | exact AS.one) ones_nil))) rfl rfl rfl rfl | exact xo_storeA 2 rfl a24 rfl rfl (ones_cons (by first | rfl | exact AS.one) (ones_cons (by first | rfl | exact AS.one) (ones_cons (by first | rfl | exact AS.one) ones_nil))) rfl rfl rfl rfl | exact xo_storeA 3 rfl a24 rfl rfl (ones_cons (by first | rfl | exact AS.one) (ones_cons (by first | rfl | exact AS.one) (ones_cons (by first | rfl | exact AS.one) ones_nil))) rfl rfl rfl rfl | exact xo_storeA 4 rfl a24 rfl rfl (ones_cons (by first | rfl | exact AS.one) (ones_cons (by first | rfl | exact AS.one) (ones_cons (by first | rfl | exact AS.one) ones_nil))) rfl rfl rfl rfl | exact xo_storeA 5 rfl a24 rfl rfl (ones_cons (by first | rfl | exact AS.one) (ones_cons (by first | rfl | exact AS.one) (ones_cons (by first | rfl | exact AS.one) ones_nil))) rfl rfl rfl rfl) ?_
        rintro _ _ ⟨rfl, rfl⟩
        refine ne (eo_as rfl rfl) rfl ?_
        refine go_nil ?_
        refine gq_next ?_
        refine gc_ret ?_
        refine gq_results (by first | exact resCT 0 rfl a24 rfl rfl rfl rfl rfl | exact resCT 1 rfl a24 rfl rfl rfl rfl rfl | exact resCT 2 rfl a24 rfl rfl rfl rfl rfl | exact resCT 3 rfl a24 rfl rfl rfl rfl rfl | exact resCT 4 rfl a24 rfl rfl rfl rfl rfl | exact resCT 5 rfl a24 rfl rfl rfl rfl rfl) ?_
        exact fun W' hO => re_of_as 4 hO rfl hs (by omega) (by omega)

/-- barscan/barscanref31.Crop -/
theorem rcrop_arg (X Y BW BH W H : Int) (A : Option Addr) (n c : Nat) (f : Nat → Bool) (w : World) (_hr : Rd w A (tab n (bv f))) (hv : vldB W H n = false) :
    Calls Try.prog 15 #[.agg #[.int .i64 W, .int .i64 H, .slice A n c], .agg #[.int .i64 X, .int .i64 Y, .int .i64 BW, .int .i64 BH]] w fun e w' => e = .returned (noM 1) ∧ Ext w w' := by
  refine calls_enter (N := ⟨55, []⟩) ([]) ([]) Try.func15 rfl rfl rfl (Ow.start _) ?_
  refine gc_seq ?_
  refine gc_region ?_
  refine nx (xo_boxA rfl rfl) rfl ?_
  rintro _ _ ⟨g2, rfl, rfl⟩
  refine nx (xo_boxA rfl rfl) rfl ?_
  rintro _ _ ⟨g3, rfl, rfl⟩
  refine nx (xo_alloc rfl z24) rfl ?_
  rintro _ _ ⟨g4, rfl, rfl⟩
  refine ne (eo_as rfl rfl) rfl ?_
  refine go_nil ?_
  refine gq_next ?_
  refine gc_seq ?_
  refine gc_seq ?_
  refine gc_region ?_
  refine ne (by first | exact eo_loadA 0 rfl a24 rfl rfl rfl rfl | exact eo_loadA 1 rfl a24 rfl rfl rfl rfl | exact eo_loadA 2 rfl a24 rfl rfl rfl rfl | exact eo_loadA 3 rfl a24 rfl rfl rfl rfl | exact eo_loadA 4 rfl a24 rfl rfl rfl rfl | exact eo_loadA 5 rfl a24 rfl rfl rfl rfl) rfl ?_
  refine ne (eo_call rfl en36 rfl (fun W _ => valid_c _ _ _ _ _ W)) rfl ?_
  refine ne (eo_not rfl rfl) rfl ?_
  refine go_nil ?_
  refine gq_next ?_
  refine gc_cond rfl (fun hc11 => ?_) (fun hc11 => ?_)
  ·
    refine gc_seq ?_
    refine gc_region ?_
    refine ne (eo_build rfl rfl (b24_)) rfl ?_
    refine nu (by first | exact xo_storeA 0 rfl a24 rfl rfl (ones_cons (by first | rfl | exact AS.one) (ones_cons (by first | rfl | exact AS.one) (ones_cons (by first | rfl | exact AS.one) ones_nil))) rfl rfl rfl rfl | exact xo_storeA 1 rfl a24 rfl rfl (ones_cons (by first | rfl | exact AS.one) (ones_cons (by first | rfl | exact AS.one) (ones_cons (by first | rfl | exact AS.one) ones_nil))) rfl rfl rfl rfl | exact xo_storeA 2 rfl a24 rfl rfl (ones_cons (by first | rfl | exact AS.one) (ones_cons (by first | rfl | exact AS.one) (ones_cons (by first | rfl | exact AS.one) ones_nil))) rfl rfl rfl rfl | exact xo_storeA 3 rfl a24 rfl rfl (ones_cons (by first | rfl | exact AS.one) (ones_cons (by first | rfl | exact AS.one) (ones_cons (by first | rfl | exact AS.one) ones_nil))) rfl rfl rfl rfl | exact xo_storeA 4 rfl a24 rfl rfl (ones_cons (by first | rfl | exact AS.one) (ones_cons (by first | rfl | exact AS.one) (ones_cons (by first | rfl | exact AS.one) ones_nil))) rfl rfl rfl rfl | exact xo_storeA 5 rfl a24 rfl rfl (ones_cons (by first | rfl | exact AS.one) (ones_cons (by first | rfl | exact AS.one) (ones_cons (by first | rfl | exact AS.one) ones_nil))) rfl rfl rfl rfl) ?_
    rintro _ _ ⟨rfl, rfl⟩
    refine ne (eo_as rfl rfl) rfl ?_
    refine go_nil ?_
    refine gq_next ?_
    refine gc_ret ?_
    refine gq_then_ret ?_
    refine gq_results (by first | exact resCT 0 rfl a24 rfl rfl rfl rfl rfl | exact resCT 1 rfl a24 rfl rfl rfl rfl rfl | exact resCT 2 rfl a24 rfl rfl rfl rfl rfl | exact resCT 3 rfl a24 rfl rfl rfl rfl rfl | exact resCT 4 rfl a24 rfl rfl rfl rfl rfl | exact resCT 5 rfl a24 rfl rfl rfl rfl rfl) ?_
    exact fun W hO => ⟨rfl, hO.toExt⟩
  ·
    exact absurd hv (by simpa using hc11)

/-- barscan/barscanref31.Crop -/
theorem rcrop_size (X Y BW BH W H : Int) (A : Option Addr) (n c : Nat) (f : Nat → Bool) (w : World) (_hr : Rd w A (tab n (bv f))) (hv : vldB W H n = true) (hf : fitsB BW BH = false) :
    Calls Try.prog 15 #[.agg #[.int .i64 W, .int .i64 H, .slice A n c], .agg #[.int .i64 X, .int .i64 Y, .int .i64 BW, .int .i64 BH]] w fun e w' => e = .returned (noM 23) ∧ Ext w w' := by
  refine calls_enter (N := ⟨55, []⟩) ([]) ([]) Try.func15 rfl rfl rfl (Ow.start _) ?_
  refine gc_seq ?_
  refine gc_region ?_
  refine nx (xo_boxA rfl rfl) rfl ?_
  rintro _ _ ⟨g2, rfl, rfl⟩
  refine nx (xo_boxA rfl rfl) rfl ?_
  rintro _ _ ⟨g3, rfl, rfl⟩
  refine nx (xo_alloc rfl z24) rfl ?_
  rintro _ _ ⟨g4, rfl, rfl⟩
  refine ne (eo_as rfl rfl) rfl ?_
  refine go_nil ?_
  refine gq_next ?_
  refine gc_seq ?_
  refine gc_seq ?_
  refine gc_region ?_
  refine ne (by first | exact eo_loadA 0 rfl a24 rfl rfl rfl rfl | exact eo_loadA 1 rfl a24 rfl rfl rfl rfl | exact eo_loadA 2 rfl a24 rfl rfl rfl rfl | exact eo_loadA 3 rfl a24 rfl rfl rfl rfl | exact eo_loadA 4 rfl a24 rfl rfl rfl rfl | exact eo_loadA 5 rfl a24 rfl rfl rfl rfl) rfl ?_
  refine ne (eo_call rfl en36 rfl (fun W _ => valid_c _ _ _ _ _ W)) rfl ?_
  refine ne (eo_not rfl rfl) rfl ?_
  refine go_nil ?_
  refine gq_next ?_
  refine gc_cond rfl (fun hc11 => ?_) (fun hc11 => ?_)
  ·
    exact absurd hv (by simpa using hc11)
  ·
    refine gc_skip ?_
    refine gq_next ?_
    refine gc_seq ?_
    refine gc_seq ?_
    refine gc_region ?_
    refine ne (eo_field rfl f26_2 rfl) rfl ?_
    refine ne (by first | exact eo_load 0 rfl s3 rfl rfl rfl rfl | exact eo_load 1 rfl s3 rfl rfl rfl rfl | exact eo_load 2 rfl s3 rfl rfl rfl rfl | exact eo_load 3 rfl s3 rfl rfl rfl rfl | exact eo_load 4 rfl s3 rfl rfl rfl rfl | exact eo_load 5 rfl s3 rfl rfl rfl rfl) rfl ?_
    refine ne (eo_field rfl f26_3 rfl) rfl ?_
    refine ne (by first | exact eo_load 0 rfl s3 rfl rfl rfl rfl | exact eo_load 1 rfl s3 rfl rfl rfl rfl | exact eo_load 2 rfl s3 rfl rfl rfl rfl | exact eo_load 3 rfl s3 rfl rfl rfl rfl | exact eo_load 4 rfl s3 rfl rfl rfl rfl | exact eo_load 5 rfl s3 rfl rfl rfl rfl) rfl ?_
    refine ne (eo_call rfl en49 rfl (fun W _ => fits_c _ _ W)) rfl ?_
    refine ne (eo_not rfl rfl) rfl ?_
    refine go_nil ?_
    refine gq_next ?_
    refine gc_cond rfl (fun hc18 => ?_) (fun hc18 => ?_)
    ·
      refine gc_seq ?_
      refine gc_region ?_
      refine ne (eo_build rfl rfl (b24_)) rfl ?_
      refine nu (by first | exact xo_storeA 0 rfl a24 rfl rfl (ones_cons (by first | rfl | exact AS.one) (ones_cons (by first | rfl | exact AS.one) (ones_cons (by first | rfl | exact AS.one) ones_nil))) rfl rfl rfl rfl | exact xo_storeA 1 rfl a24 rfl rfl (ones_cons (by first | rfl | exact AS.one) (ones_cons (by first | rfl | exact AS.one) (ones_cons (by first | rfl | exact AS.one) ones_nil))) rfl rfl rfl rfl | exact xo_storeA 2 rfl a24 rfl rfl (ones_cons (by first | rfl | exact AS.one) (ones_cons (by first | rfl | exact AS.one) (ones_cons (by first | rfl | exact AS.one) ones_nil))) rfl rfl rfl rfl | exact xo_storeA 3 rfl a24 rfl rfl (ones_cons (by first | rfl | exact AS.one) (ones_cons (by first | rfl | exact AS.one) (ones_cons (by first | rfl | exact AS.one) ones_nil))) rfl rfl rfl rfl | exact xo_storeA 4 rfl a24 rfl rfl (ones_cons (by first | rfl | exact AS.one) (ones_cons (by first | rfl | exact AS.one) (ones_cons (by first | rfl | exact AS.one) ones_nil))) rfl rfl rfl rfl | exact xo_storeA 5 rfl a24 rfl rfl (ones_cons (by first | rfl | exact AS.one) (ones_cons (by first | rfl | exact AS.one) (ones_cons (by first | rfl | exact AS.one) ones_nil))) rfl rfl rfl rfl) ?_
      rintro _ _ ⟨rfl, rfl⟩
      refine ne (eo_as rfl rfl) rfl ?_
      refine go_nil ?_
      refine gq_next ?_
      refine gc_ret ?_
      refine gq_then_ret ?_
      refine gq_results (by first | exact resCT 0 rfl a24 rfl rfl rfl rfl rfl | exact resCT 1 rfl a24 rfl rfl rfl rfl rfl | exact resCT 2 rfl a24 rfl rfl rfl rfl rfl | exact resCT 3 rfl a24 rfl rfl rfl rfl rfl | exact resCT 4 rfl a24 rfl rfl rfl rfl rfl | exact resCT 5 rfl a24 rfl rfl rfl rfl rfl) ?_
      exact fun W hO => ⟨rfl, hO.toExt⟩
    ·
      exact absurd hf (by simpa using hc18)

/-- barscan/raster.put -/
theorem put_c (x y W H pW pH : Int) (gd n c pn pc : Nat) (A : Option Addr) (f p : Nat → Bool) (sp : List Value) (w : World) (hg : w.heap[gd]? = some (.cells (tab n (bv f) ++ sp).toArray 4 (0, 0))) (hv : vldB W H n = true) (hpv : vldB pW pH pn = true) (hnc : n ≤ c) (hpc : pn ≤ pc) (hr : Rd w A (tab pn (bv p))) (hne : bl A ≠ gd) :
    Calls Try.prog 47 #[.agg #[.int .i64 W, .int .i64 H, .slice (some ⟨gd, 0, none⟩) n c], .agg #[.int .i64 pW, .int .i64 pH, .slice A pn pc], .int .i64 x, .int .i64 y] w fun e w' => e = .returned (.tuple #[]) ∧ Ow [gd] w w' [⟨gd, 4, tab n (bv (putF (nearI 8192 x) (nearI 8192 y) W pW pH f p)) ++ sp⟩] := by
  obtain ⟨v1, v2, v3, v4, v5, v6⟩ := vldB_iff.1 hv
  obtain ⟨q1, q2, q3, q4, q5, q6⟩ := vldB_iff.1 hpv
  have hnx := nearI_bd (m := 8192) (n := x) (by omega)
  have hny := nearI_bd (m := 8192) (n := y) (by omega)
  refine calls_enter (N := ⟨76, []⟩) ([gd]) ([⟨gd, 4, tab n (bv f) ++ sp⟩]) Try.func47 rfl rfl rfl (own_one hg) ?_
  refine gc_seq ?_
  refine gc_region ?_
  refine nx (xo_boxA rfl rfl) rfl ?_
  rintro _ _ ⟨g4, rfl, rfl⟩
  refine nx (xo_boxA rfl rfl) rfl ?_
  rintro _ _ ⟨g5, rfl, rfl⟩
  refine go_nil ?_
  refine gq_next ?_
  refine gc_seq ?_
  refine gc_region ?_
  refine ne (eo_mv rfl rfl) rfl ?_
  refine ne (eo_call rfl en48 rfl (fun W _ => near_c _ W)) rfl ?_
  refine ne (eo_mv rfl rfl) rfl ?_
  refine ne (eo_call rfl en48 rfl (fun W _ => near_c _ W)) rfl ?_
  refine ne (eo_as rfl rfl) rfl ?_
  refine ne (eo_as rfl rfl) rfl ?_
  refine go_nil ?_
  refine gq_next ?_
  refine gc_seq ?_
  refine gc_draw [] [0, 1, 2, 3, 4, 5, 6, 7, 8, 9, 10] [] [] (by kernel_rfl) (by kernel_rfl) ?_
  refine gp_nil ?_
  refine de rfl (eo_mv rfl rfl) rfl ?_
  refine de rfl (eo_max rfl rfl rfl) rfl ?_
  refine de rfl (eo_mv rfl rfl) rfl ?_
  refine de rfl (eo_field rfl f24_0 rfl) rfl ?_
  refine de rfl (by first | exact eo_load 0 rfl s3 rfl rfl rfl rfl | exact eo_load 1 rfl s3 rfl rfl rfl rfl | exact eo_load 2 rfl s3 rfl rfl rfl rfl | exact eo_load 3 rfl s3 rfl rfl rfl rfl | exact eo_load 4 rfl s3 rfl rfl rfl rfl | exact eo_load 5 rfl s3 rfl rfl rfl rfl) rfl ?_
  refine de rfl (eo_add rfl rfl rfl (by omega) (by omega)) rfl ?_
  refine de rfl (eo_field rfl f24_0 rfl) rfl ?_
  refine de rfl (by first | exact eo_load 0 rfl s3 rfl rfl rfl rfl | exact eo_load 1 rfl s3 rfl rfl rfl rfl | exact eo_load 2 rfl s3 rfl rfl rfl rfl | exact eo_load 3 rfl s3 rfl rfl rfl rfl | exact eo_load 4 rfl s3 rfl rfl rfl rfl | exact eo_load 5 rfl s3 rfl rfl rfl rfl) rfl ?_
  refine de rfl (eo_min rfl rfl rfl) rfl ?_
  refine de rfl (eo_as rfl rfl) rfl ?_
  refine de rfl (eo_as rfl rfl) rfl ?_
  refine ge_nil ?_
  refine ga_nil ?_
  refine gi_nil ?_
  refine gq_nq ?_
  refine gq_next ?_
  refine gc_seq ?_
  refine gc_seq ?_
  refine gc_region ?_
  refine ne (eo_mv rfl rfl) rfl ?_
  refine ne (eo_mv rfl rfl) rfl ?_
  refine ne (eo_geq rfl rfl rfl) rfl ?_
  refine go_nil ?_
  refine gq_next ?_
  refine gc_cond rfl (fun hc27 => ?_) (fun hc27 => ?_)
  ·
    replace hc27 := of_decide_eq_true hc27
    refine gc_ret ?_
    refine gq_then_ret ?_
    refine gq_results (res0 rfl) ?_
    first
      | (rw [show tab n (bv (putF (nearI 8192 x) (nearI 8192 y) W pW pH f p)) = tab n (bv f) from tabb_ext fun j _ => (put_none (by omega) (by omega) j).symm]; exact fun W' hO => ⟨rfl, hO.pick 2 rfl⟩)
      | (rw [show tab n (bv (putF (nearI 8192 x) (nearI 8192 y) W pW pH f p)) = tab n (bv f1) from tabb_ext fun j hj => (put_done (by omega) (by omega) (by omega) hf1 j hj).symm]; exact fun W' hO => ⟨rfl, hO.pick 2 rfl⟩)
  ·
    replace hc27 := of_decide_eq_false hc27
    refine gc_skip ?_
    refine gq_next ?_
    refine gc_seq ?_
    refine gc_region ?_
    refine ne (eo_mv rfl rfl) rfl ?_
    refine ne (eo_max rfl rfl rfl) rfl ?_
    refine ne (eo_as rfl rfl) rfl ?_
    refine go_nil ?_
    refine gq_next ?_
    refine gc_block ?_
    refine loop2 (fun (r : Int) (f1 : Nat → Bool) => max (nearI 8192 y) 0 ≤ r ∧ ∀ j, j < n → f1 j = if (j : Int) / W < r then (putF (nearI 8192 x) (nearI 8192 y) W pW pH f p) j else f j) (fun (r : Int) (f1 : Nat → Bool) => (min (nearI 8192 y + pH) H - r).toNat) (fun (r : Int) (f1 : Nat → Bool) => [(2, .int .i64 (nearI 8192 x)), (3, .int .i64 (nearI 8192 y)), (4, .pointer (some ⟨g4, 0, none⟩)), (5, .pointer (some ⟨g5, 0, none⟩)), (8, .int .i64 (max (nearI 8192 x) 0)), (9, .int .i64 (min (nearI 8192 x + pW) W)), (10, .int .i64 r)]) (fun (r : Int) (f1 : Nat → Bool) => [⟨g5, 24, [.int .i64 pW, .int .i64 pH, .slice A pn pc]⟩, ⟨g4, 24, [.int .i64 W, .int .i64 H, .slice (some ⟨gd, 0, none⟩) n c]⟩, ⟨gd, 4, tab n (bv f1) ++ sp⟩]) (max (nearI 8192 y) 0) f ⟨by omega, fun j _ => put_start j (by omega)⟩ ⟨rfl, rfl, rfl, rfl, rfl, rfl, rfl, trivial⟩ (by first | exact List.Sublist.refl _ | exact List.Sublist.cons _ (List.Sublist.refl _) | exact List.Sublist.cons _ (List.Sublist.cons _ (List.Sublist.refl _)) | exact List.Sublist.cons _ (List.Sublist.cons _ (List.Sublist.cons _ (List.Sublist.refl _))) | exact List.Sublist.cons_cons _ (List.Sublist.cons _ (List.Sublist.refl _))) ?_
    rintro r f1 ⟨hr1, hf1⟩
    refine gc_seq ?_
    refine gc_seq ?_
    refine gc_region ?_
    refine ne (eo_mv rfl rfl) rfl ?_
    refine ne (eo_mv rfl rfl) rfl ?_
    refine ne (eo_field rfl f24_1 rfl) rfl ?_
    refine ne (by first | exact eo_load 0 rfl s3 rfl rfl rfl rfl | exact eo_load 1 rfl s3 rfl rfl rfl rfl | exact eo_load 2 rfl s3 rfl rfl rfl rfl | exact eo_load 3 rfl s3 rfl rfl rfl rfl | exact eo_load 4 rfl s3 rfl rfl rfl rfl | exact eo_load 5 rfl s3 rfl rfl rfl rfl) rfl ?_
    refine ne (eo_add rfl rfl rfl (by omega) (by omega)) rfl ?_
    refine ne (eo_field rfl f24_1 rfl) rfl ?_
    refine ne (by first | exact eo_load 0 rfl s3 rfl rfl rfl rfl | exact eo_load 1 rfl s3 rfl rfl rfl rfl | exact eo_load 2 rfl s3 rfl rfl rfl rfl | exact eo_load 3 rfl s3 rfl rfl rfl rfl | exact eo_load 4 rfl s3 rfl rfl rfl rfl | exact eo_load 5 rfl s3 rfl rfl rfl rfl) rfl ?_
    refine ne (eo_min rfl rfl rfl) rfl ?_
    refine ne (eo_lss rfl rfl rfl) rfl ?_
    refine go_nil ?_
    refine gq_next ?_
    refine gc_cond rfl (fun hc38 => ?_) (fun hc38 => ?_)
    ·
      replace hc38 := of_decide_eq_true hc38
      refine gc_skip ?_
      refine gq_next ?_
      refine gc_seq ?_
      refine gc_block ?_
      refine gc_seq ?_
      have hpb0 := idx_bd (W := pW) (H := pH) (x := 0) (y := r - nearI 8192 y) (by omega) (by omega) (by omega) (by omega)
      refine gc_region ?_
      refine ne (eo_mv rfl rfl) rfl ?_
      refine ne (eo_mv rfl rfl) rfl ?_
      refine ne (eo_sub rfl rfl rfl (by omega) (by omega)) rfl ?_
      refine ne (eo_field rfl f24_0 rfl) rfl ?_
      refine ne (by first | exact eo_load 0 rfl s3 rfl rfl rfl rfl | exact eo_load 1 rfl s3 rfl rfl rfl rfl | exact eo_load 2 rfl s3 rfl rfl rfl rfl | exact eo_load 3 rfl s3 rfl rfl rfl rfl | exact eo_load 4 rfl s3 rfl rfl rfl rfl | exact eo_load 5 rfl s3 rfl rfl rfl rfl) rfl ?_
      refine ne (eo_mul rfl rfl rfl (by omega) (by omega)) rfl ?_
      refine ne (eo_as rfl rfl) rfl ?_
      refine go_nil ?_
      refine gq_next ?_
      refine gc_draw [] [0, 1, 2, 3, 4, 5, 6, 7, 8, 9, 10, 11, 12, 13, 14, 15, 16, 17, 18, 19, 20, 21, 22, 23, 24, 25, 26, 27] [] [28] (by kernel_rfl) (by kernel_rfl) ?_
      refine gp_nil ?_
      have hrb := idx_bd (W := W) (H := H) (x := 0) (y := r) (by omega) (by omega) (by omega) (by omega)
      have hpb := idx_bd (W := pW) (H := pH) (x := 0) (y := r - nearI 8192 y) (by omega) (by omega) (by omega) (by omega)
      refine de rfl (eo_field rfl f24_2 rfl) rfl ?_
      refine de rfl (by first | exact eo_load 0 rfl s22 rfl rfl rfl rfl | exact eo_load 1 rfl s22 rfl rfl rfl rfl | exact eo_load 2 rfl s22 rfl rfl rfl rfl | exact eo_load 3 rfl s22 rfl rfl rfl rfl | exact eo_load 4 rfl s22 rfl rfl rfl rfl | exact eo_load 5 rfl s22 rfl rfl rfl rfl) rfl ?_
      refine de rfl (eo_mv rfl rfl) rfl ?_
      refine de rfl (eo_field rfl f24_0 rfl) rfl ?_
      refine de rfl (by first | exact eo_load 0 rfl s3 rfl rfl rfl rfl | exact eo_load 1 rfl s3 rfl rfl rfl rfl | exact eo_load 2 rfl s3 rfl rfl rfl rfl | exact eo_load 3 rfl s3 rfl rfl rfl rfl | exact eo_load 4 rfl s3 rfl rfl rfl rfl | exact eo_load 5 rfl s3 rfl rfl rfl rfl) rfl ?_
      refine de rfl (eo_mul rfl rfl rfl (by omega) (by omega)) rfl ?_
      refine de rfl (eo_mv rfl rfl) rfl ?_
      refine de rfl (eo_add rfl rfl rfl (by omega) (by omega)) rfl ?_
      refine de rfl (eo_mv rfl rfl) rfl ?_
      refine de rfl (eo_field rfl f24_0 rfl) rfl ?_
      refine de rfl (by first | exact eo_load 0 rfl s3 rfl rfl rfl rfl | exact eo_load 1 rfl s3 rfl rfl rfl rfl | exact eo_load 2 rfl s3 rfl rfl rfl rfl | exact eo_load 3 rfl s3 rfl rfl rfl rfl | exact eo_load 4 rfl s3 rfl rfl rfl rfl | exact eo_load 5 rfl s3 rfl rfl rfl rfl) rfl ?_
      refine de rfl (eo_mul rfl rfl rfl (by omega) (by omega)) rfl ?_
      refine de rfl (eo_mv rfl rfl) rfl ?_
      refine de rfl (eo_add rfl rfl rfl (by omega) (by omega)) rfl ?_
      refine de rfl (eo_sl0 rfl sl22 rfl rfl rfl (by omega) (by omega) (by omega) (by omega)) rfl ?_
      refine de rfl (eo_field rfl f24_2 rfl) rfl ?_
      refine de rfl (by first | exact eo_load 0 rfl s22 rfl rfl rfl rfl | exact eo_load 1 rfl s22 rfl rfl rfl rfl | exact eo_load 2 rfl s22 rfl rfl rfl rfl | exact eo_load 3 rfl s22 rfl rfl rfl rfl | exact eo_load 4 rfl s22 rfl rfl rfl rfl | exact eo_load 5 rfl s22 rfl rfl rfl rfl) rfl ?_
      refine de rfl (eo_mv rfl rfl) rfl ?_
      refine de rfl (eo_mv rfl rfl) rfl ?_
      refine de rfl (eo_add rfl rfl rfl (by omega) (by omega)) rfl ?_
      refine de rfl (eo_mv rfl rfl) rfl ?_
      refine de rfl (eo_sub rfl rfl rfl (by omega) (by omega)) rfl ?_
      refine de rfl (eo_mv rfl rfl) rfl ?_
      refine de rfl (eo_mv rfl rfl) rfl ?_
      refine de rfl (eo_add rfl rfl rfl (by omega) (by omega)) rfl ?_
      refine de rfl (eo_mv rfl rfl) rfl ?_
      refine de rfl (eo_sub rfl rfl rfl (by omega) (by omega)) rfl ?_
      refine de rfl (eo_slR rfl sl22 rfl rfl rfl hr (by omega) (by omega) (by omega) (by omega) (by simp; omega)) rfl ?_
      refine ge_nil ?_
      refine ga_nil ?_
      refine ix rfl (xo_copyb 2 rfl sl22 rfl rfl rfl (m := (min (nearI 8192 x + pW) W - max (nearI 8192 x) 0).toNat) (by simp only [Nat.min_def]; split <;> omega) (fun W' hO => Rd.cutb (hr.old hO (by simpa using hne)) (by omega) (by omega)) (by simp) (by omega)) rfl ?_
      rintro _ _ ⟨rfl, rfl⟩
      refine gi_nil ?_
      refine gq_nq ?_
      refine gq_block_end ?_
      refine gq_next ?_
      refine gc_region ?_
      refine ne (eo_mv rfl rfl) rfl ?_
      refine ne (eo_add rfl rfl rfl (by omega) (by omega)) rfl ?_
      refine ne (eo_as rfl rfl) rfl ?_
      refine go_nil ?_
      exact round2 (r + 1) _ ⟨by omega, put_step (by omega) (by omega) (by omega) (by omega) (by omega) (by omega) hf1⟩ (by omega) ⟨rfl, rfl, rfl, rfl, rfl, rfl, rfl, trivial⟩ (by first | exact List.Sublist.refl _ | exact List.Sublist.cons _ (List.Sublist.refl _) | exact List.Sublist.cons _ (List.Sublist.cons _ (List.Sublist.refl _)) | exact List.Sublist.cons _ (List.Sublist.cons _ (List.Sublist.cons _ (List.Sublist.refl _))) | exact List.Sublist.cons_cons _ (List.Sublist.cons _ (List.Sublist.refl _)))
    ·
      replace hc38 := of_decide_eq_false hc38
      refine gc_exit ?_
      refine gq_then_exit ?_
      refine gq_then_exit ?_
      refine gq_block_hit ?_
      refine gq_results_end (res0 rfl) ?_
      first
        | (rw [show tab n (bv (putF (nearI 8192 x) (nearI 8192 y) W pW pH f p)) = tab n (bv f) from tabb_ext fun j _ => (put_none (by omega) (by omega) j).symm]; exact fun W' hO => ⟨rfl, hO.pick 2 rfl⟩)
        | (rw [show tab n (bv (putF (nearI 8192 x) (nearI 8192 y) W pW pH f p)) = tab n (bv f1) from tabb_ext fun j hj => (put_done (by omega) (by omega) (by omega) hf1 j hj).symm]; exact fun W' hO => ⟨rfl, hO.pick 2 rfl⟩)

/-- barscan/raster.Crop -/
theorem crop_ok (X Y BW BH W H : Int) (A : Option Addr) (n c : Nat) (f : Nat → Bool) (w : World) (hr : Rd w A (tab n (bv f))) (hnc : n ≤ c) (hv : vldB W H n = true) (hf : fitsB BW BH = true) :
    Calls Try.prog 14 #[.agg #[.int .i64 W, .int .i64 H, .slice A n c], .agg #[.int .i64 X, .int .i64 Y, .int .i64 BW, .int .i64 BH]] w fun e w' => ∃ v Hn, e = .returned v ∧ RE 4 BW BH (BW * BH).toNat (cropF 8192 W H n f X Y BW) v Hn ∧ Ow [] w w' Hn := by
  have hb := fits_bd hf
  obtain ⟨v1, v2, v3, v4, v5, v6⟩ := vldB_iff.1 hv
  have hvb : vldB BW BH (BW * BH).toNat = true := by simp [vldB, hf]; omega
  have hnx := nearI_bd (m := 8192) (n := X) (by omega)
  have hny := nearI_bd (m := 8192) (n := Y) (by omega)
  have h1n := fits_bd (a := W) (b := H) (by simp only [vldB, Bool.and_eq_true] at hv; exact hv.1)
  refine calls_enter (N := ⟨38, []⟩) ([]) ([]) Try.func14 rfl rfl rfl (Ow.start _) ?_
  refine gc_seq ?_
  refine gc_region ?_
  refine nx (xo_boxA rfl rfl) rfl ?_
  rintro _ _ ⟨g2, rfl, rfl⟩
  refine nx (xo_boxA rfl rfl) rfl ?_
  rintro _ _ ⟨g3, rfl, rfl⟩
  refine nx (xo_alloc rfl z24) rfl ?_
  rintro _ _ ⟨g4, rfl, rfl⟩
  refine ne (eo_as rfl rfl) rfl ?_
  refine go_nil ?_
  refine gq_next ?_
  refine gc_seq ?_
  refine gc_seq ?_
  refine gc_region ?_
  refine ne (by first | exact eo_loadA 0 rfl a24 rfl rfl rfl rfl | exact eo_loadA 1 rfl a24 rfl rfl rfl rfl | exact eo_loadA 2 rfl a24 rfl rfl rfl rfl | exact eo_loadA 3 rfl a24 rfl rfl rfl rfl | exact eo_loadA 4 rfl a24 rfl rfl rfl rfl | exact eo_loadA 5 rfl a24 rfl rfl rfl rfl) rfl ?_
  refine ne (eo_call rfl en23 rfl (fun W _ => check_c _ _ _ _ _ W)) rfl ?_
  refine ne (eo_as rfl rfl) rfl ?_
  refine go_nil ?_
  refine gq_next ?_
  refine gc_seq ?_
  refine gc_region ?_
  refine ne (eo_mv rfl rfl) rfl ?_
  refine ne (eo_neq rfl rfl rfl) rfl ?_
  refine go_nil ?_
  refine gq_next ?_
  refine gc_cond rfl (fun hc11 => ?_) (fun hc11 => ?_)
  ·
    replace hc11 := of_decide_eq_true hc11
    exact absurd hc11 (by rw [chk_ok hv]; decide)
  ·
    replace hc11 := of_decide_eq_false hc11
    refine gc_skip ?_
    refine gq_next ?_
    refine gc_seq ?_
    refine gc_seq ?_
    refine gc_region ?_
    refine ne (eo_field rfl f26_2 rfl) rfl ?_
    refine ne (by first | exact eo_load 0 rfl s3 rfl rfl rfl rfl | exact eo_load 1 rfl s3 rfl rfl rfl rfl | exact eo_load 2 rfl s3 rfl rfl rfl rfl | exact eo_load 3 rfl s3 rfl rfl rfl rfl | exact eo_load 4 rfl s3 rfl rfl rfl rfl | exact eo_load 5 rfl s3 rfl rfl rfl rfl) rfl ?_
    refine ne (eo_field rfl f26_3 rfl) rfl ?_
    refine ne (by first | exact eo_load 0 rfl s3 rfl rfl rfl rfl | exact eo_load 1 rfl s3 rfl rfl rfl rfl | exact eo_load 2 rfl s3 rfl rfl rfl rfl | exact eo_load 3 rfl s3 rfl rfl rfl rfl | exact eo_load 4 rfl s3 rfl rfl rfl rfl | exact eo_load 5 rfl s3 rfl rfl rfl rfl) rfl ?_
    refine ne (eo_call rfl en45 rfl (fun W _ => possible_c _ _ W)) rfl ?_
    refine ne (eo_not rfl rfl) rfl ?_
    refine go_nil ?_
    refine gq_next ?_
    refine gc_cond rfl (fun hc19 => ?_) (fun hc19 => ?_)
    ·
      exact absurd hf (by simpa using hc19)
    ·
      refine gc_skip ?_
      refine gq_next ?_
      refine gc_seq ?_
      refine gc_region ?_
      refine ne (eo_field rfl f26_2 rfl) rfl ?_
      refine ne (by first | exact eo_load 0 rfl s3 rfl rfl rfl rfl | exact eo_load 1 rfl s3 rfl rfl rfl rfl | exact eo_load 2 rfl s3 rfl rfl rfl rfl | exact eo_load 3 rfl s3 rfl rfl rfl rfl | exact eo_load 4 rfl s3 rfl rfl rfl rfl | exact eo_load 5 rfl s3 rfl rfl rfl rfl) rfl ?_
      refine ne (eo_field rfl f26_3 rfl) rfl ?_
      refine ne (by first | exact eo_load 0 rfl s3 rfl rfl rfl rfl | exact eo_load 1 rfl s3 rfl rfl rfl rfl | exact eo_load 2 rfl s3 rfl rfl rfl rfl | exact eo_load 3 rfl s3 rfl rfl rfl rfl | exact eo_load 4 rfl s3 rfl rfl rfl rfl | exact eo_load 5 rfl s3 rfl rfl rfl rfl) rfl ?_
      refine nx (xo_fresh rfl en46 rfl (fun W _ => blank_c _ _ W hf)) rfl ?_
      rintro _ _ ⟨_, ⟨gb, cb, spb, rfl, rfl, hcb⟩, rfl⟩
      refine nx (xo_alloc rfl z24) rfl ?_
      rintro _ _ ⟨g7, rfl, rfl⟩
      refine nu (by first | exact xo_storeA 0 rfl a24 rfl rfl (ones_cons (by first | rfl | exact AS.one) (ones_cons (by first | rfl | exact AS.one) (ones_cons (by first | rfl | exact AS.one) ones_nil))) rfl rfl rfl rfl | exact xo_storeA 1 rfl a24 rfl rfl (ones_cons (by first | rfl | exact AS.one) (ones_cons (by first | rfl | exact AS.one) (ones_cons (by first | rfl | exact AS.one) ones_nil))) rfl rfl rfl rfl | exact xo_storeA 2 rfl a24 rfl rfl (ones_cons (by first | rfl | exact AS.one) (ones_cons (by first | rfl | exact AS.one) (ones_cons (by first | rfl | exact AS.one) ones_nil))) rfl rfl rfl rfl | exact xo_storeA 3 rfl a24 rfl rfl (ones_cons (by first | rfl | exact AS.one) (ones_cons (by first | rfl | exact AS.one) (ones_cons (by first | rfl | exact AS.one) ones_nil))) rfl rfl rfl rfl | exact xo_storeA 4 rfl a24 rfl rfl (ones_cons (by first | rfl | exact AS.one) (ones_cons (by first | rfl | exact AS.one) (ones_cons (by first | rfl | exact AS.one) ones_nil))) rfl rfl rfl rfl | exact xo_storeA 5 rfl a24 rfl rfl (ones_cons (by first | rfl | exact AS.one) (ones_cons (by first | rfl | exact AS.one) (ones_cons (by first | rfl | exact AS.one) ones_nil))) rfl rfl rfl rfl) ?_
      rintro _ _ ⟨rfl, rfl⟩
      refine go_nil ?_
      refine gq_next ?_
      refine gc_seq ?_
      refine gc_draw [] [0, 1, 2, 3, 4, 5, 6, 7, 8, 9] [] [10] (by kernel_rfl) (by kernel_rfl) ?_
      refine gp_nil ?_
      refine de rfl (by first | exact eo_loadA 0 rfl a24 rfl rfl rfl rfl | exact eo_loadA 1 rfl a24 rfl rfl rfl rfl | exact eo_loadA 2 rfl a24 rfl rfl rfl rfl | exact eo_loadA 3 rfl a24 rfl rfl rfl rfl | exact eo_loadA 4 rfl a24 rfl rfl rfl rfl | exact eo_loadA 5 rfl a24 rfl rfl rfl rfl) rfl ?_
      refine de rfl (by first | exact eo_loadA 0 rfl a24 rfl rfl rfl rfl | exact eo_loadA 1 rfl a24 rfl rfl rfl rfl | exact eo_loadA 2 rfl a24 rfl rfl rfl rfl | exact eo_loadA 3 rfl a24 rfl rfl rfl rfl | exact eo_loadA 4 rfl a24 rfl rfl rfl rfl | exact eo_loadA 5 rfl a24 rfl rfl rfl rfl) rfl ?_
      refine de rfl (eo_field rfl f26_0 rfl) rfl ?_
      refine de rfl (by first | exact eo_load 0 rfl s3 rfl rfl rfl rfl | exact eo_load 1 rfl s3 rfl rfl rfl rfl | exact eo_load 2 rfl s3 rfl rfl rfl rfl | exact eo_load 3 rfl s3 rfl rfl rfl rfl | exact eo_load 4 rfl s3 rfl rfl rfl rfl | exact eo_load 5 rfl s3 rfl rfl rfl rfl) rfl ?_
      refine de rfl (eo_call rfl en48 rfl (fun W _ => near_c _ W)) rfl ?_
      refine de rfl (eo_neg rfl rfl (by omega) (by omega)) rfl ?_
      refine de rfl (eo_field rfl f26_1 rfl) rfl ?_
      refine de rfl (by first | exact eo_load 0 rfl s3 rfl rfl rfl rfl | exact eo_load 1 rfl s3 rfl rfl rfl rfl | exact eo_load 2 rfl s3 rfl rfl rfl rfl | exact eo_load 3 rfl s3 rfl rfl rfl rfl | exact eo_load 4 rfl s3 rfl rfl rfl rfl | exact eo_load 5 rfl s3 rfl rfl rfl rfl) rfl ?_
      refine de rfl (eo_call rfl en48 rfl (fun W _ => near_c _ W)) rfl ?_
      refine de rfl (eo_neg rfl rfl (by omega) (by omega)) rfl ?_
      refine ge_nil ?_
      refine ga_nil ?_
      refine ix rfl (xo_over 1 rfl en47 rfl rfl (fun W' hO => put_c _ _ _ _ _ _ _ _ _ _ _ _ _ _ _ W' (hO.at_ (i := 1) rfl) hvb hv hcb hnc (hr.old0 hO) (own_ne_old hr (by omega) hO 1 rfl))) rfl ?_
      rintro _ _ ⟨rfl, rfl⟩
      refine gi_nil ?_
      refine gq_nq ?_
      refine gq_next ?_
      refine gc_seq ?_
      refine gc_region ?_
      refine ne (by first | exact eo_loadA 0 rfl a24 rfl rfl rfl rfl | exact eo_loadA 1 rfl a24 rfl rfl rfl rfl | exact eo_loadA 2 rfl a24 rfl rfl rfl rfl | exact eo_loadA 3 rfl a24 rfl rfl rfl rfl | exact eo_loadA 4 rfl a24 rfl rfl rfl rfl | exact eo_loadA 5 rfl a24 rfl rfl rfl rfl) rfl ?_
      refine nu (by first | exact xo_storeA 0 rfl a24 rfl rfl (ones_cons (by first | rfl | exact AS.one) (ones_cons (by first | rfl | exact AS.one) (ones_cons (by first | rfl | exact AS.one) ones_nil))) rfl rfl rfl rfl | exact xo_storeA 1 rfl a24 rfl rfl (ones_cons (by first | rfl | exact AS.one) (ones_cons (by first | rfl | exact AS.one) (ones_cons (by first | rfl | exact AS.one) ones_nil))) rfl rfl rfl rfl | exact xo_storeA 2 rfl a24 rfl rfl (ones_cons (by first | rfl | exact AS.one) (ones_cons (by first | rfl | exact AS.one) (ones_cons (by first | rfl | exact AS.one) ones_nil))) rfl rfl rfl rfl | exact xo_storeA 3 rfl a24 rfl rfl (ones_cons (by first | rfl | exact AS.one) (ones_cons (by first | rfl | exact AS.one) (ones_cons (by first | rfl | exact AS.one) ones_nil))) rfl rfl rfl rfl | exact xo_storeA 4 rfl a24 rfl rfl (ones_cons (by first | rfl | exact AS.one) (ones_cons (by first | rfl | exact AS.one) (ones_cons (by first | rfl | exact AS.one) ones_nil))) rfl rfl rfl rfl | exact xo_storeA 5 rfl a24 rfl rfl (ones_cons (by first | rfl | exact AS.one) (ones_cons (by first | rfl | exact AS.one) (ones_cons (by first | rfl | exact AS.one) ones_nil))) rfl rfl rfl rfl) ?_
      rintro _ _ ⟨rfl, rfl⟩
      refine ne (eo_as rfl rfl) rfl ?_
      refine go_nil ?_
      refine gq_next ?_
      refine gc_ret ?_
      refine gq_results (by first | exact resCT 0 rfl a24 rfl rfl rfl rfl rfl | exact resCT 1 rfl a24 rfl rfl rfl rfl rfl | exact resCT 2 rfl a24 rfl rfl rfl rfl rfl | exact resCT 3 rfl a24 rfl rfl rfl rfl rfl | exact resCT 4 rfl a24 rfl rfl rfl rfl rfl | exact resCT 5 rfl a24 rfl rfl rfl rfl rfl) ?_
      rw [show tab (BW * BH).toNat (bv (putF (nearI 8192 (-nearI 8192 X)) (nearI 8192 (-nearI 8192 Y)) BW W H (fun _ => false) f)) = tab (BW * BH).toNat (bv (cropF 8192 W H n f X Y BW)) from tabb_ext fun j _ => crop_put hv (by omega)]
      exact fun W' hO => ⟨_, _, rfl, ⟨_, _, _, rfl, rfl, by omega⟩, hO.pick 1 rfl⟩

/-- barscan/raster.Crop -/
theorem crop_arg (X Y BW BH W H : Int) (A : Option Addr) (n c : Nat) (f : Nat → Bool) (w : World) (_hr : Rd w A (tab n (bv f))) (hv : vldB W H n = false) :
    Calls Try.prog 14 #[.agg #[.int .i64 W, .int .i64 H, .slice A n c], .agg #[.int .i64 X, .int .i64 Y, .int .i64 BW, .int .i64 BH]] w fun e w' => e = .returned (noM 1) ∧ Ext w w' := by
  refine calls_enter (N := ⟨38, []⟩) ([]) ([]) Try.func14 rfl rfl rfl (Ow.start _) ?_
  refine gc_seq ?_
  refine gc_region ?_
  refine nx (xo_boxA rfl rfl) rfl ?_
  rintro _ _ ⟨g2, rfl, rfl⟩
  refine nx (xo_boxA rfl rfl) rfl ?_
  rintro _ _ ⟨g3, rfl, rfl⟩
  refine nx (xo_alloc rfl z24) rfl ?_
  rintro _ _ ⟨g4, rfl, rfl⟩
  refine ne (eo_as rfl rfl) rfl ?_
  refine go_nil ?_
  refine gq_next ?_
  refine gc_seq ?_
  refine gc_seq ?_
  refine gc_region ?_
  refine ne (by first | exact eo_loadA 0 rfl a24 rfl rfl rfl rfl | exact eo_loadA 1 rfl a24 rfl rfl rfl rfl | exact eo_loadA 2 rfl a24 rfl rfl rfl rfl | exact eo_loadA 3 rfl a24 rfl rfl rfl rfl | exact eo_loadA 4 rfl a24 rfl rfl rfl rfl | exact eo_loadA 5 rfl a24 rfl rfl rfl rfl) rfl ?_
  refine ne (eo_call rfl en23 rfl (fun W _ => check_c _ _ _ _ _ W)) rfl ?_
  refine ne (eo_as rfl rfl) rfl ?_
  refine go_nil ?_
  refine gq_next ?_
  refine gc_seq ?_
  refine gc_region ?_
  refine ne (eo_mv rfl rfl) rfl ?_
  refine ne (eo_neq rfl rfl rfl) rfl ?_
  refine go_nil ?_
  refine gq_next ?_
  refine gc_cond rfl (fun hc11 => ?_) (fun hc11 => ?_)
  ·
    replace hc11 := of_decide_eq_true hc11
    refine gc_seq ?_
    refine gc_region ?_
    refine ne (eo_build rfl rfl (b24_)) rfl ?_
    refine ne (eo_mv rfl rfl) rfl ?_
    refine nu (by first | exact xo_storeA 0 rfl a24 rfl rfl (ones_cons (by first | rfl | exact AS.one) (ones_cons (by first | rfl | exact AS.one) (ones_cons (by first | rfl | exact AS.one) ones_nil))) rfl rfl rfl rfl | exact xo_storeA 1 rfl a24 rfl rfl (ones_cons (by first | rfl | exact AS.one) (ones_cons (by first | rfl | exact AS.one) (ones_cons (by first | rfl | exact AS.one) ones_nil))) rfl rfl rfl rfl | exact xo_storeA 2 rfl a24 rfl rfl (ones_cons (by first | rfl | exact AS.one) (ones_cons (by first | rfl | exact AS.one) (ones_cons (by first | rfl | exact AS.one) ones_nil))) rfl rfl rfl rfl | exact xo_storeA 3 rfl a24 rfl rfl (ones_cons (by first | rfl | exact AS.one) (ones_cons (by first | rfl | exact AS.one) (ones_cons (by first | rfl | exact AS.one) ones_nil))) rfl rfl rfl rfl | exact xo_storeA 4 rfl a24 rfl rfl (ones_cons (by first | rfl | exact AS.one) (ones_cons (by first | rfl | exact AS.one) (ones_cons (by first | rfl | exact AS.one) ones_nil))) rfl rfl rfl rfl | exact xo_storeA 5 rfl a24 rfl rfl (ones_cons (by first | rfl | exact AS.one) (ones_cons (by first | rfl | exact AS.one) (ones_cons (by first | rfl | exact AS.one) ones_nil))) rfl rfl rfl rfl) ?_
    rintro _ _ ⟨rfl, rfl⟩
    refine ne (eo_as rfl rfl) rfl ?_
    refine go_nil ?_
    refine gq_next ?_
    refine gc_ret ?_
    refine gq_then_ret ?_
    refine gq_results (by first | exact resCT 0 rfl a24 rfl rfl rfl rfl rfl | exact resCT 1 rfl a24 rfl rfl rfl rfl rfl | exact resCT 2 rfl a24 rfl rfl rfl rfl rfl | exact resCT 3 rfl a24 rfl rfl rfl rfl rfl | exact resCT 4 rfl a24 rfl rfl rfl rfl rfl | exact resCT 5 rfl a24 rfl rfl rfl rfl rfl) ?_
    exact fun W' hO => ⟨by rw [chk_no hv]; rfl, hO.toExt⟩
  ·
    replace hc11 := of_decide_eq_false hc11
    exact absurd hc11 (by rw [chk_no hv]; decide)

/-- barscan/raster.Crop -/
theorem crop_size (X Y BW BH W H : Int) (A : Option Addr) (n c : Nat) (f : Nat → Bool) (w : World) (_hr : Rd w A (tab n (bv f))) (hv : vldB W H n = true) (hf : fitsB BW BH = false) :
    Calls Try.prog 14 #[.agg #[.int .i64 W, .int .i64 H, .slice A n c], .agg #[.int .i64 X, .int .i64 Y, .int .i64 BW, .int .i64 BH]] w fun e w' => e = .returned (noM 23) ∧ Ext w w' := by
  refine calls_enter (N := ⟨38, []⟩) ([]) ([]) Try.func14 rfl rfl rfl (Ow.start _) ?_
  refine gc_seq ?_
  refine gc_region ?_
  refine nx (xo_boxA rfl rfl) rfl ?_
  rintro _ _ ⟨g2, rfl, rfl⟩
  refine nx (xo_boxA rfl rfl) rfl ?_
  rintro _ _ ⟨g3, rfl, rfl⟩
  refine nx (xo_alloc rfl z24) rfl ?_
  rintro _ _ ⟨g4, rfl, rfl⟩
  refine ne (eo_as rfl rfl) rfl ?_
  refine go_nil ?_
  refine gq_next ?_
  refine gc_seq ?_
  refine gc_seq ?_
  refine gc_region ?_
  refine ne (by first | exact eo_loadA 0 rfl a24 rfl rfl rfl rfl | exact eo_loadA 1 rfl a24 rfl rfl rfl rfl | exact eo_loadA 2 rfl a24 rfl rfl rfl rfl | exact eo_loadA 3 rfl a24 rfl rfl rfl rfl | exact eo_loadA 4 rfl a24 rfl rfl rfl rfl | exact eo_loadA 5 rfl a24 rfl rfl rfl rfl) rfl ?_
  refine ne (eo_call rfl en23 rfl (fun W _ => check_c _ _ _ _ _ W)) rfl ?_
  refine ne (eo_as rfl rfl) rfl ?_
  refine go_nil ?_
  refine gq_next ?_
  refine gc_seq ?_
  refine gc_region ?_
  refine ne (eo_mv rfl rfl) rfl ?_
  refine ne (eo_neq rfl rfl rfl) rfl ?_
  refine go_nil ?_
  refine gq_next ?_
  refine gc_cond rfl (fun hc11 => ?_) (fun hc11 => ?_)
  ·
    replace hc11 := of_decide_eq_true hc11
    exact absurd hc11 (by rw [chk_ok hv]; decide)
  ·
    replace hc11 := of_decide_eq_false hc11
    refine gc_skip ?_
    refine gq_next ?_
    refine gc_seq ?_
    refine gc_seq ?_
    refine gc_region ?_
    refine ne (eo_field rfl f26_2 rfl) rfl ?_
    refine ne (by first | exact eo_load 0 rfl s3 rfl rfl rfl rfl | exact eo_load 1 rfl s3 rfl rfl rfl rfl | exact eo_load 2 rfl s3 rfl rfl rfl rfl | exact eo_load 3 rfl s3 rfl rfl rfl rfl | exact eo_load 4 rfl s3 rfl rfl rfl rfl | exact eo_load 5 rfl s3 rfl rfl rfl rfl) rfl ?_
    refine ne (eo_field rfl f26_3 rfl) rfl ?_
    refine ne (by first | exact eo_load 0 rfl s3 rfl rfl rfl rfl | exact eo_load 1 rfl s3 rfl rfl rfl rfl | exact eo_load 2 rfl s3 rfl rfl rfl rfl | exact eo_load 3 rfl s3 rfl rfl rfl rfl | exact eo_load 4 rfl s3 rfl rfl rfl rfl | exact eo_load 5 rfl s3 rfl rfl rfl rfl) rfl ?_
    refine ne (eo_call rfl en45 rfl (fun W _ => possible_c _ _ W)) rfl ?_
    refine ne (eo_not rfl rfl) rfl ?_
    refine go_nil ?_
    refine gq_next ?_
    refine gc_cond rfl (fun hc19 => ?_) (fun hc19 => ?_)
    ·
      refine gc_seq ?_
      refine gc_region ?_
      refine ne (eo_build rfl rfl (b24_)) rfl ?_
      refine nu (by first | exact xo_storeA 0 rfl a24 rfl rfl (ones_cons (by first | rfl | exact AS.one) (ones_cons (by first | rfl | exact AS.one) (ones_cons (by first | rfl | exact AS.one) ones_nil))) rfl rfl rfl rfl | exact xo_storeA 1 rfl a24 rfl rfl (ones_cons (by first | rfl | exact AS.one) (ones_cons (by first | rfl | exact AS.one) (ones_cons (by first | rfl | exact AS.one) ones_nil))) rfl rfl rfl rfl | exact xo_storeA 2 rfl a24 rfl rfl (ones_cons (by first | rfl | exact AS.one) (ones_cons (by first | rfl | exact AS.one) (ones_cons (by first | rfl | exact AS.one) ones_nil))) rfl rfl rfl rfl | exact xo_storeA 3 rfl a24 rfl rfl (ones_cons (by first | rfl | exact AS.one) (ones_cons (by first | rfl | exact AS.one) (ones_cons (by first | rfl | exact AS.one) ones_nil))) rfl rfl rfl rfl | exact xo_storeA 4 rfl a24 rfl rfl (ones_cons (by first | rfl | exact AS.one) (ones_cons (by first | rfl | exact AS.one) (ones_cons (by first | rfl | exact AS.one) ones_nil))) rfl rfl rfl rfl | exact xo_storeA 5 rfl a24 rfl rfl (ones_cons (by first | rfl | exact AS.one) (ones_cons (by first | rfl | exact AS.one) (ones_cons (by first | rfl | exact AS.one) ones_nil))) rfl rfl rfl rfl) ?_
      rintro _ _ ⟨rfl, rfl⟩
      refine ne (eo_as rfl rfl) rfl ?_
      refine go_nil ?_
      refine gq_next ?_
      refine gc_ret ?_
      refine gq_then_ret ?_
      refine gq_results (by first | exact resCT 0 rfl a24 rfl rfl rfl rfl rfl | exact resCT 1 rfl a24 rfl rfl rfl rfl rfl | exact resCT 2 rfl a24 rfl rfl rfl rfl rfl | exact resCT 3 rfl a24 rfl rfl rfl rfl rfl | exact resCT 4 rfl a24 rfl rfl rfl rfl rfl | exact resCT 5 rfl a24 rfl rfl rfl rfl rfl) ?_
      exact fun W hO => ⟨rfl, hO.toExt⟩
    ·
      exact absurd hf (by simpa using hc19)

/-- barscan/barscanref31.Equal -/
theorem requal_c (W H W' H' : Int) (A A' : Option Addr) (n c n' c' : Nat) (f f' : Nat → Bool) (w : World) (hn : n ≤ 140737488355328) (hr : Rd w A (tab n (bv f))) (hr' : Rd w A' (tab n' (bv f'))) :
    Calls Try.prog 51 #[.agg #[.int .i64 W, .int .i64 H, .slice A n c], .agg #[.int .i64 W', .int .i64 H', .slice A' n' c']] w fun e w' => e = .returned (.bool (eqM W H n f W' H' n' f')) ∧ Ext w w' := by
  refine calls_enter (N := ⟨45, []⟩) ([]) ([]) Try.func51 rfl rfl rfl (Ow.start _) ?_
  refine gc_seq ?_
  refine gc_region ?_
  refine nx (xo_boxA rfl rfl) rfl ?_
  rintro _ _ ⟨g2, rfl, rfl⟩
  refine nx (xo_boxA rfl rfl) rfl ?_
  rintro _ _ ⟨g3, rfl, rfl⟩
  refine ne (eo_as rfl rfl) rfl ?_
  refine go_nil ?_
  refine gq_next ?_
  refine gc_seq ?_
  refine gc_seq ?_
  refine gc_region ?_
  refine ne (eo_field rfl f24_0 rfl) rfl ?_
  refine ne (by first | exact eo_load 0 rfl s3 rfl rfl rfl rfl | exact eo_load 1 rfl s3 rfl rfl rfl rfl | exact eo_load 2 rfl s3 rfl rfl rfl rfl | exact eo_load 3 rfl s3 rfl rfl rfl rfl | exact eo_load 4 rfl s3 rfl rfl rfl rfl | exact eo_load 5 rfl s3 rfl rfl rfl rfl) rfl ?_
  refine ne (eo_field rfl f24_0 rfl) rfl ?_
  refine ne (by first | exact eo_load 0 rfl s3 rfl rfl rfl rfl | exact eo_load 1 rfl s3 rfl rfl rfl rfl | exact eo_load 2 rfl s3 rfl rfl rfl rfl | exact eo_load 3 rfl s3 rfl rfl rfl rfl | exact eo_load 4 rfl s3 rfl rfl rfl rfl | exact eo_load 5 rfl s3 rfl rfl rfl rfl) rfl ?_
  refine ne (eo_neq rfl rfl rfl) rfl ?_
  refine ne (eo_mv rfl rfl) rfl ?_
  refine ng rfl rfl (fun h => eo_field rfl f24_1 rfl) rfl ?_
  refine ng rfl rfl (fun h => by first | exact eo_load 0 rfl s3 (ev_if h rfl) rfl rfl rfl | exact eo_load 1 rfl s3 (ev_if h rfl) rfl rfl rfl | exact eo_load 2 rfl s3 (ev_if h rfl) rfl rfl rfl | exact eo_load 3 rfl s3 (ev_if h rfl) rfl rfl rfl | exact eo_load 4 rfl s3 (ev_if h rfl) rfl rfl rfl | exact eo_load 5 rfl s3 (ev_if h rfl) rfl rfl rfl) rfl ?_
  refine ng rfl rfl (fun h => eo_field rfl f24_1 rfl) rfl ?_
  refine ng rfl rfl (fun h => by first | exact eo_load 0 rfl s3 (ev_if h rfl) rfl rfl rfl | exact eo_load 1 rfl s3 (ev_if h rfl) rfl rfl rfl | exact eo_load 2 rfl s3 (ev_if h rfl) rfl rfl rfl | exact eo_load 3 rfl s3 (ev_if h rfl) rfl rfl rfl | exact eo_load 4 rfl s3 (ev_if h rfl) rfl rfl rfl | exact eo_load 5 rfl s3 (ev_if h rfl) rfl rfl rfl) rfl ?_
  refine ng rfl rfl (fun h => eo_neq rfl (ev_if h rfl) (ev_if h rfl)) rfl ?_
  refine ne (eo_or rfl rfl (fun hb => ev_if hb rfl)) rfl ?_
  refine ne (eo_mv rfl rfl) rfl ?_
  refine ng rfl rfl (fun h => eo_field rfl f24_2 rfl) rfl ?_
  refine ng rfl rfl (fun h => by first | exact eo_load 0 rfl s22 (ev_if h rfl) rfl rfl rfl | exact eo_load 1 rfl s22 (ev_if h rfl) rfl rfl rfl | exact eo_load 2 rfl s22 (ev_if h rfl) rfl rfl rfl | exact eo_load 3 rfl s22 (ev_if h rfl) rfl rfl rfl | exact eo_load 4 rfl s22 (ev_if h rfl) rfl rfl rfl | exact eo_load 5 rfl s22 (ev_if h rfl) rfl rfl rfl) rfl ?_
  refine ng rfl rfl (fun h => eo_len rfl Try.underlying22 (ev_if h rfl)) rfl ?_
  refine ng rfl rfl (fun h => eo_field rfl f24_2 rfl) rfl ?_
  refine ng rfl rfl (fun h => by first | exact eo_load 0 rfl s22 (ev_if h rfl) rfl rfl rfl | exact eo_load 1 rfl s22 (ev_if h rfl) rfl rfl rfl | exact eo_load 2 rfl s22 (ev_if h rfl) rfl rfl rfl | exact eo_load 3 rfl s22 (ev_if h rfl) rfl rfl rfl | exact eo_load 4 rfl s22 (ev_if h rfl) rfl rfl rfl | exact eo_load 5 rfl s22 (ev_if h rfl) rfl rfl rfl) rfl ?_
  refine ng rfl rfl (fun h => eo_len rfl Try.underlying22 (ev_if h rfl)) rfl ?_
  refine ng rfl rfl (fun h => eo_neq rfl (ev_if h rfl) (ev_if h rfl)) rfl ?_
  refine ne (eo_or rfl rfl (fun hb => ev_if hb rfl)) rfl ?_
  refine go_nil ?_
  refine gq_next ?_
  refine gc_cond rfl (fun hc26 => ?_) (fun hc26 => ?_)
  ·
    refine gc_seq ?_
    refine gc_region ?_
    refine ne (eo_as rfl rfl) rfl ?_
    refine go_nil ?_
    refine gq_next ?_
    refine gc_ret ?_
    refine gq_then_ret ?_
    refine gq_results (res1 rfl rfl) ?_
    first
      | exact fun W hO => ⟨ret_bool (eqM_test hc26).symm, hO.toExt⟩
      | exact fun W hO => ⟨ret_bool (eqM_differ k (by omega) (by simpa [bne] using hc44)).symm, hO.toExt⟩
      | exact fun W hO => ⟨ret_bool (eqM_yes e1 e2 e3 (fun i hi => hI i (by omega))).symm, hO.toExt⟩
  ·
    obtain ⟨e1, e2, e3⟩ := eqM_same hc26
    refine gc_skip ?_
    refine gq_next ?_
    refine gc_seq ?_
    refine gc_seq ?_
    refine gc_region ?_
    refine ne (eo_as rfl rfl) rfl ?_
    refine go_nil ?_
    refine gq_next ?_
    refine gc_block ?_
    refine loop1 (fun (k : Nat) => k ≤ n ∧ ∀ i, i < k → f i = f' i) (fun (k : Nat) => n - k) (fun (k : Nat) => [(2, .pointer (some ⟨g2, 0, none⟩)), (3, .pointer (some ⟨g3, 0, none⟩)), (5, .int .i64 k)]) (fun (k : Nat) => [⟨g3, 24, [.int .i64 W', .int .i64 H', .slice A' n' c']⟩, ⟨g2, 24, [.int .i64 W, .int .i64 H, .slice A n c]⟩]) 0 ⟨by omega, fun i hi => absurd hi (by omega)⟩ ⟨rfl, rfl, rfl, trivial⟩ (by first | exact List.Sublist.refl _ | exact List.Sublist.cons _ (List.Sublist.refl _) | exact List.Sublist.cons _ (List.Sublist.cons _ (List.Sublist.refl _)) | exact List.Sublist.cons _ (List.Sublist.cons _ (List.Sublist.cons _ (List.Sublist.refl _))) | exact List.Sublist.cons_cons _ (List.Sublist.cons _ (List.Sublist.refl _))) ?_
    rintro k ⟨hk, hI⟩
    refine gc_seq ?_
    refine gc_seq ?_
    refine gc_region ?_
    refine ne (eo_mv rfl rfl) rfl ?_
    refine ne (eo_field rfl f24_2 rfl) rfl ?_
    refine ne (by first | exact eo_load 0 rfl s22 rfl rfl rfl rfl | exact eo_load 1 rfl s22 rfl rfl rfl rfl | exact eo_load 2 rfl s22 rfl rfl rfl rfl | exact eo_load 3 rfl s22 rfl rfl rfl rfl | exact eo_load 4 rfl s22 rfl rfl rfl rfl | exact eo_load 5 rfl s22 rfl rfl rfl rfl) rfl ?_
    refine ne (eo_len rfl Try.underlying22 rfl) rfl ?_
    refine ne (eo_lss rfl rfl rfl) rfl ?_
    refine go_nil ?_
    refine gq_next ?_
    refine gc_cond rfl (fun hc31 => ?_) (fun hc31 => ?_)
    ·
      replace hc31 := of_decide_eq_true hc31
      refine gc_skip ?_
      refine gq_next ?_
      refine gc_seq ?_
      refine gc_block ?_
      refine gc_seq ?_
      refine gc_draw [] [0, 1, 2, 3, 4, 5, 6, 7, 8, 9, 10] [] [] (by kernel_rfl) (by kernel_rfl) ?_
      refine gp_nil ?_
      refine de rfl (eo_field rfl f24_2 rfl) rfl ?_
      refine de rfl (by first | exact eo_load 0 rfl s22 rfl rfl rfl rfl | exact eo_load 1 rfl s22 rfl rfl rfl rfl | exact eo_load 2 rfl s22 rfl rfl rfl rfl | exact eo_load 3 rfl s22 rfl rfl rfl rfl | exact eo_load 4 rfl s22 rfl rfl rfl rfl | exact eo_load 5 rfl s22 rfl rfl rfl rfl) rfl ?_
      refine de rfl (eo_mv rfl rfl) rfl ?_
      refine de rfl (by first | exact eo_indexR rfl sl22 rfl rfl hr (by simp) (by omega) (by omega) | exact eo_index0 rfl sl22 rfl rfl (by omega) (by omega) | exact eo_index rfl sl22 rfl rfl (by omega) (by omega)) rfl ?_
      refine de rfl (by first | exact eo_load_old rfl s4 rfl (Rd.tabb hr (k := k) (by omega)) (by simp) | exact eo_getb 0 rfl s4 rfl rfl (by omega) | exact eo_getb 1 rfl s4 rfl rfl (by omega) | exact eo_getb 2 rfl s4 rfl rfl (by omega) | exact eo_getb 3 rfl s4 rfl rfl (by omega) | exact eo_getb 4 rfl s4 rfl rfl (by omega) | exact eo_getb 5 rfl s4 rfl rfl (by omega)) rfl ?_
      refine de rfl (eo_field rfl f24_2 rfl) rfl ?_
      refine de rfl (by first | exact eo_load 0 rfl s22 rfl rfl rfl rfl | exact eo_load 1 rfl s22 rfl rfl rfl rfl | exact eo_load 2 rfl s22 rfl rfl rfl rfl | exact eo_load 3 rfl s22 rfl rfl rfl rfl | exact eo_load 4 rfl s22 rfl rfl rfl rfl | exact eo_load 5 rfl s22 rfl rfl rfl rfl) rfl ?_
      refine de rfl (eo_mv rfl rfl) rfl ?_
      refine de rfl (by first | exact eo_indexR rfl sl22 rfl rfl hr' (by simp) (by omega) (by omega) | exact eo_index0 rfl sl22 rfl rfl (by omega) (by omega) | exact eo_index rfl sl22 rfl rfl (by omega) (by omega)) rfl ?_
      refine de rfl (by first | exact eo_load_old rfl s4 rfl (Rd.tabb hr' (k := k) (by omega)) (by simp) | exact eo_getb 0 rfl s4 rfl rfl (by omega) | exact eo_getb 1 rfl s4 rfl rfl (by omega) | exact eo_getb 2 rfl s4 rfl rfl (by omega) | exact eo_getb 3 rfl s4 rfl rfl (by omega) | exact eo_getb 4 rfl s4 rfl rfl (by omega) | exact eo_getb 5 rfl s4 rfl rfl (by omega)) rfl ?_
      refine de rfl (eo_bneq rfl rfl rfl Try.underlying4) rfl ?_
      refine ge_nil ?_
      refine ga_nil ?_
      refine gi_nil ?_
      refine gq_nq ?_
      refine gq_next ?_
      refine gc_cond rfl (fun hc44 => ?_) (fun hc44 => ?_)
      ·
        refine gc_seq ?_
        refine gc_region ?_
        refine ne (eo_as rfl rfl) rfl ?_
        refine go_nil ?_
        refine gq_next ?_
        refine gc_ret ?_
        refine gq_block_ret ?_
        refine gq_then_ret ?_
        refine gq_then_ret ?_
        refine gq_block_ret ?_
        refine gq_then_ret ?_
        refine gq_results (res1 rfl rfl) ?_
        first
          | exact fun W hO => ⟨ret_bool (eqM_test hc26).symm, hO.toExt⟩
          | exact fun W hO => ⟨ret_bool (eqM_differ k (by omega) (by simpa [bne] using hc44)).symm, hO.toExt⟩
          | exact fun W hO => ⟨ret_bool (eqM_yes e1 e2 e3 (fun i hi => hI i (by omega))).symm, hO.toExt⟩
      ·
        refine gc_skip ?_
        refine gq_block_end ?_
        refine gq_next ?_
        refine gc_region ?_
        refine ne (eo_mv rfl rfl) rfl ?_
        refine ne (eo_add rfl rfl rfl (by omega) (by omega)) rfl ?_
        refine ne (eo_as rfl rfl) rfl ?_
        refine go_nil ?_
        exact round1 (k + 1) ⟨by omega, upto_succ hI (by simpa [bne] using hc44)⟩ (by omega) ⟨rfl, rfl, rfl, trivial⟩ (by first | exact List.Sublist.refl _ | exact List.Sublist.cons _ (List.Sublist.refl _) | exact List.Sublist.cons _ (List.Sublist.cons _ (List.Sublist.refl _)) | exact List.Sublist.cons _ (List.Sublist.cons _ (List.Sublist.cons _ (List.Sublist.refl _))) | exact List.Sublist.cons_cons _ (List.Sublist.cons _ (List.Sublist.refl _)))
    ·
      replace hc31 := of_decide_eq_false hc31
      refine gc_exit ?_
      refine gq_then_exit ?_
      refine gq_then_exit ?_
      refine gq_block_hit ?_
      refine gq_next ?_
      refine gc_seq ?_
      refine gc_region ?_
      refine ne (eo_as rfl rfl) rfl ?_
      refine go_nil ?_
      refine gq_next ?_
      refine gc_ret ?_
      refine gq_results (res1 rfl rfl) ?_
      first
        | exact fun W hO => ⟨ret_bool (eqM_test hc26).symm, hO.toExt⟩
        | exact fun W hO => ⟨ret_bool (eqM_differ k (by omega) (by simpa [bne] using hc44)).symm, hO.toExt⟩
        | exact fun W hO => ⟨ret_bool (eqM_yes e1 e2 e3 (fun i hi => hI i (by omega))).symm, hO.toExt⟩

/-- barscan/barscanref31.EqualImage -/
theorem requalim_c (W H W' H' : Int) (A A' : Option Addr) (n c n' c' : Nat) (f f' : Nat → Int) (w : World) (hn : n ≤ 140737488355328) (hr : Rd w A (tab n (iv .u8 f))) (hr' : Rd w A' (tab n' (iv .u8 f'))) :
    Calls Try.prog 35 #[.agg #[.int .i64 W, .int .i64 H, .slice A n c], .agg #[.int .i64 W', .int .i64 H', .slice A' n' c']] w fun e w' => e = .returned (.bool (eqM W H n f W' H' n' f')) ∧ Ext w w' := by
  refine calls_enter (N := ⟨45, []⟩) ([]) ([]) Try.func35 rfl rfl rfl (Ow.start _) ?_
  refine gc_seq ?_
  refine gc_region ?_
  refine nx (xo_boxA rfl rfl) rfl ?_
  rintro _ _ ⟨g2, rfl, rfl⟩
  refine nx (xo_boxA rfl rfl) rfl ?_
  rintro _ _ ⟨g3, rfl, rfl⟩
  refine ne (eo_as rfl rfl) rfl ?_
  refine go_nil ?_
  refine gq_next ?_
  refine gc_seq ?_
  refine gc_seq ?_
  refine gc_region ?_
  refine ne (eo_field rfl f55_0 rfl) rfl ?_
  refine ne (by first | exact eo_load 0 rfl s3 rfl rfl rfl rfl | exact eo_load 1 rfl s3 rfl rfl rfl rfl | exact eo_load 2 rfl s3 rfl rfl rfl rfl | exact eo_load 3 rfl s3 rfl rfl rfl rfl | exact eo_load 4 rfl s3 rfl rfl rfl rfl | exact eo_load 5 rfl s3 rfl rfl rfl rfl) rfl ?_
  refine ne (eo_field rfl f55_0 rfl) rfl ?_
  refine ne (by first | exact eo_load 0 rfl s3 rfl rfl rfl rfl | exact eo_load 1 rfl s3 rfl rfl rfl rfl | exact eo_load 2 rfl s3 rfl rfl rfl rfl | exact eo_load 3 rfl s3 rfl rfl rfl rfl | exact eo_load 4 rfl s3 rfl rfl rfl rfl | exact eo_load 5 rfl s3 rfl rfl rfl rfl) rfl ?_
  refine ne (eo_neq rfl rfl rfl) rfl ?_
  refine ne (eo_mv rfl rfl) rfl ?_
  refine ng rfl rfl (fun h => eo_field rfl f55_1 rfl) rfl ?_
  refine ng rfl rfl (fun h => by first | exact eo_load 0 rfl s3 (ev_if h rfl) rfl rfl rfl | exact eo_load 1 rfl s3 (ev_if h rfl) rfl rfl rfl | exact eo_load 2 rfl s3 (ev_if h rfl) rfl rfl rfl | exact eo_load 3 rfl s3 (ev_if h rfl) rfl rfl rfl | exact eo_load 4 rfl s3 (ev_if h rfl) rfl rfl rfl | exact eo_load 5 rfl s3 (ev_if h rfl) rfl rfl rfl) rfl ?_
  refine ng rfl rfl (fun h => eo_field rfl f55_1 rfl) rfl ?_
  refine ng rfl rfl (fun h => by first | exact eo_load 0 rfl s3 (ev_if h rfl) rfl rfl rfl | exact eo_load 1 rfl s3 (ev_if h rfl) rfl rfl rfl | exact eo_load 2 rfl s3 (ev_if h rfl) rfl rfl rfl | exact eo_load 3 rfl s3 (ev_if h rfl) rfl rfl rfl | exact eo_load 4 rfl s3 (ev_if h rfl) rfl rfl rfl | exact eo_load 5 rfl s3 (ev_if h rfl) rfl rfl rfl) rfl ?_
  refine ng rfl rfl (fun h => eo_neq rfl (ev_if h rfl) (ev_if h rfl)) rfl ?_
  refine ne (eo_or rfl rfl (fun hb => ev_if hb rfl)) rfl ?_
  refine ne (eo_mv rfl rfl) rfl ?_
  refine ng rfl rfl (fun h => eo_field rfl f55_2 rfl) rfl ?_
  refine ng rfl rfl (fun h => by first | exact eo_load 0 rfl s53 (ev_if h rfl) rfl rfl rfl | exact eo_load 1 rfl s53 (ev_if h rfl) rfl rfl rfl | exact eo_load 2 rfl s53 (ev_if h rfl) rfl rfl rfl | exact eo_load 3 rfl s53 (ev_if h rfl) rfl rfl rfl | exact eo_load 4 rfl s53 (ev_if h rfl) rfl rfl rfl | exact eo_load 5 rfl s53 (ev_if h rfl) rfl rfl rfl) rfl ?_
  refine ng rfl rfl (fun h => eo_len rfl Try.underlying53 (ev_if h rfl)) rfl ?_
  refine ng rfl rfl (fun h => eo_field rfl f55_2 rfl) rfl ?_
  refine ng rfl rfl (fun h => by first | exact eo_load 0 rfl s53 (ev_if h rfl) rfl rfl rfl | exact eo_load 1 rfl s53 (ev_if h rfl) rfl rfl rfl | exact eo_load 2 rfl s53 (ev_if h rfl) rfl rfl rfl | exact eo_load 3 rfl s53 (ev_if h rfl) rfl rfl rfl | exact eo_load 4 rfl s53 (ev_if h rfl) rfl rfl rfl | exact eo_load 5 rfl s53 (ev_if h rfl) rfl rfl rfl) rfl ?_
  refine ng rfl rfl (fun h => eo_len rfl Try.underlying53 (ev_if h rfl)) rfl ?_
  refine ng rfl rfl (fun h => eo_neq rfl (ev_if h rfl) (ev_if h rfl)) rfl ?_
  refine ne (eo_or rfl rfl (fun hb => ev_if hb rfl)) rfl ?_
  refine go_nil ?_
  refine gq_next ?_
  refine gc_cond rfl (fun hc26 => ?_) (fun hc26 => ?_)
  ·
    refine gc_seq ?_
    refine gc_region ?_
    refine ne (eo_as rfl rfl) rfl ?_
    refine go_nil ?_
    refine gq_next ?_
    refine gc_ret ?_
    refine gq_then_ret ?_
    refine gq_results (res1 rfl rfl) ?_
    first
      | exact fun W hO => ⟨ret_bool (eqM_test hc26).symm, hO.toExt⟩
      | exact fun W hO => ⟨ret_bool (eqM_differ k (by omega) (by simpa using hc44)).symm, hO.toExt⟩
      | exact fun W hO => ⟨ret_bool (eqM_yes e1 e2 e3 (fun i hi => hI i (by omega))).symm, hO.toExt⟩
  ·
    obtain ⟨e1, e2, e3⟩ := eqM_same hc26
    refine gc_skip ?_
    refine gq_next ?_
    refine gc_seq ?_
    refine gc_seq ?_
    refine gc_region ?_
    refine ne (eo_as rfl rfl) rfl ?_
    refine go_nil ?_
    refine gq_next ?_
    refine gc_block ?_
    refine loop1 (fun (k : Nat) => k ≤ n ∧ ∀ i, i < k → f i = f' i) (fun (k : Nat) => n - k) (fun (k : Nat) => [(2, .pointer (some ⟨g2, 0, none⟩)), (3, .pointer (some ⟨g3, 0, none⟩)), (5, .int .i64 k)]) (fun (k : Nat) => [⟨g3, 55, [.int .i64 W', .int .i64 H', .slice A' n' c']⟩, ⟨g2, 55, [.int .i64 W, .int .i64 H, .slice A n c]⟩]) 0 ⟨by omega, fun i hi => absurd hi (by omega)⟩ ⟨rfl, rfl, rfl, trivial⟩ (by first | exact List.Sublist.refl _ | exact List.Sublist.cons _ (List.Sublist.refl _) | exact List.Sublist.cons _ (List.Sublist.cons _ (List.Sublist.refl _)) | exact List.Sublist.cons _ (List.Sublist.cons _ (List.Sublist.cons _ (List.Sublist.refl _))) | exact List.Sublist.cons_cons _ (List.Sublist.cons _ (List.Sublist.refl _))) ?_
    rintro k ⟨hk, hI⟩
    refine gc_seq ?_
    refine gc_seq ?_
    refine gc_region ?_
    refine ne (eo_mv rfl rfl) rfl ?_
    refine ne (eo_field rfl f55_2 rfl) rfl ?_
    refine ne (by first | exact eo_load 0 rfl s53 rfl rfl rfl rfl | exact eo_load 1 rfl s53 rfl rfl rfl rfl | exact eo_load 2 rfl s53 rfl rfl rfl rfl | exact eo_load 3 rfl s53 rfl rfl rfl rfl | exact eo_load 4 rfl s53 rfl rfl rfl rfl | exact eo_load 5 rfl s53 rfl rfl rfl rfl) rfl ?_
    refine ne (eo_len rfl Try.underlying53 rfl) rfl ?_
    refine ne (eo_lss rfl rfl rfl) rfl ?_
    refine go_nil ?_
    refine gq_next ?_
    refine gc_cond rfl (fun hc31 => ?_) (fun hc31 => ?_)
    ·
      replace hc31 := of_decide_eq_true hc31
      refine gc_skip ?_
      refine gq_next ?_
      refine gc_seq ?_
      refine gc_block ?_
      refine gc_seq ?_
      refine gc_draw [] [0, 1, 2, 3, 4, 5, 6, 7, 8, 9, 10] [] [] (by kernel_rfl) (by kernel_rfl) ?_
      refine gp_nil ?_
      refine de rfl (eo_field rfl f55_2 rfl) rfl ?_
      refine de rfl (by first | exact eo_load 0 rfl s53 rfl rfl rfl rfl | exact eo_load 1 rfl s53 rfl rfl rfl rfl | exact eo_load 2 rfl s53 rfl rfl rfl rfl | exact eo_load 3 rfl s53 rfl rfl rfl rfl | exact eo_load 4 rfl s53 rfl rfl rfl rfl | exact eo_load 5 rfl s53 rfl rfl rfl rfl) rfl ?_
      refine de rfl (eo_mv rfl rfl) rfl ?_
      refine de rfl (by first | exact eo_indexR rfl sl53 rfl rfl hr (by simp) (by omega) (by omega) | exact eo_index0 rfl sl53 rfl rfl (by omega) (by omega) | exact eo_index rfl sl53 rfl rfl (by omega) (by omega)) rfl ?_
      refine de rfl (by first | exact eo_load_old rfl s5 rfl (Rd.tabi hr (k := k) (by omega)) (by simp) | exact eo_geti 0 rfl s5 rfl rfl (by omega) | exact eo_geti 1 rfl s5 rfl rfl (by omega) | exact eo_geti 2 rfl s5 rfl rfl (by omega) | exact eo_geti 3 rfl s5 rfl rfl (by omega) | exact eo_geti 4 rfl s5 rfl rfl (by omega) | exact eo_geti 5 rfl s5 rfl rfl (by omega)) rfl ?_
      refine de rfl (eo_field rfl f55_2 rfl) rfl ?_
      refine de rfl (by first | exact eo_load 0 rfl s53 rfl rfl rfl rfl | exact eo_load 1 rfl s53 rfl rfl rfl rfl | exact eo_load 2 rfl s53 rfl rfl rfl rfl | exact eo_load 3 rfl s53 rfl rfl rfl rfl | exact eo_load 4 rfl s53 rfl rfl rfl rfl | exact eo_load 5 rfl s53 rfl rfl rfl rfl) rfl ?_
      refine de rfl (eo_mv rfl rfl) rfl ?_
      refine de rfl (by first | exact eo_indexR rfl sl53 rfl rfl hr' (by simp) (by omega) (by omega) | exact eo_index0 rfl sl53 rfl rfl (by omega) (by omega) | exact eo_index rfl sl53 rfl rfl (by omega) (by omega)) rfl ?_
      refine de rfl (by first | exact eo_load_old rfl s5 rfl (Rd.tabi hr' (k := k) (by omega)) (by simp) | exact eo_geti 0 rfl s5 rfl rfl (by omega) | exact eo_geti 1 rfl s5 rfl rfl (by omega) | exact eo_geti 2 rfl s5 rfl rfl (by omega) | exact eo_geti 3 rfl s5 rfl rfl (by omega) | exact eo_geti 4 rfl s5 rfl rfl (by omega) | exact eo_geti 5 rfl s5 rfl rfl (by omega)) rfl ?_
      refine de rfl (eo_neq rfl rfl rfl) rfl ?_
      refine ge_nil ?_
      refine ga_nil ?_
      refine gi_nil ?_
      refine gq_nq ?_
      refine gq_next ?_
      refine gc_cond rfl (fun hc44 => ?_) (fun hc44 => ?_)
      ·
        refine gc_seq ?_
        refine gc_region ?_
        refine ne (eo_as rfl rfl) rfl ?_
        refine go_nil ?_
        refine gq_next ?_
        refine gc_ret ?_
        refine gq_block_ret ?_
        refine gq_then_ret ?_
        refine gq_then_ret ?_
        refine gq_block_ret ?_
        refine gq_then_ret ?_
        refine gq_results (res1 rfl rfl) ?_
        first
          | exact fun W hO => ⟨ret_bool (eqM_test hc26).symm, hO.toExt⟩
          | exact fun W hO => ⟨ret_bool (eqM_differ k (by omega) (by simpa using hc44)).symm, hO.toExt⟩
          | exact fun W hO => ⟨ret_bool (eqM_yes e1 e2 e3 (fun i hi => hI i (by omega))).symm, hO.toExt⟩
      ·
        refine gc_skip ?_
        refine gq_block_end ?_
        refine gq_next ?_
        refine gc_region ?_
        refine ne (eo_mv rfl rfl) rfl ?_
        refine ne (eo_add rfl rfl rfl (by omega) (by omega)) rfl ?_
        refine ne (eo_as rfl rfl) rfl ?_
        refine go_nil ?_
        exact round1 (k + 1) ⟨by omega, upto_succ hI (by simpa using hc44)⟩ (by omega) ⟨rfl, rfl, rfl, trivial⟩ (by first | exact List.Sublist.refl _ | exact List.Sublist.cons _ (List.Sublist.refl _) | exact List.Sublist.cons _ (List.Sublist.cons _ (List.Sublist.refl _)) | exact List.Sublist.cons _ (List.Sublist.cons _ (List.Sublist.cons _ (List.Sublist.refl _))) | exact List.Sublist.cons_cons _ (List.Sublist.cons _ (List.Sublist.refl _)))
    ·
      replace hc31 := of_decide_eq_false hc31
      refine gc_exit ?_
      refine gq_then_exit ?_
      refine gq_then_exit ?_
      refine gq_block_hit ?_
      refine gq_next ?_
      refine gc_seq ?_
      refine gc_region ?_
      refine ne (eo_as rfl rfl) rfl ?_
      refine go_nil ?_
      refine gq_next ?_
      refine gc_ret ?_
      refine gq_results (res1 rfl rfl) ?_
      first
        | exact fun W hO => ⟨ret_bool (eqM_test hc26).symm, hO.toExt⟩
        | exact fun W hO => ⟨ret_bool (eqM_differ k (by omega) (by simpa using hc44)).symm, hO.toExt⟩
        | exact fun W hO => ⟨ret_bool (eqM_yes e1 e2 e3 (fun i hi => hI i (by omega))).symm, hO.toExt⟩

/-- slices.Equal[[]bool,bool] -/
theorem sequal_c (A A' : Option Addr) (n c n' c' : Nat) (f f' : Nat → Bool) (w : World) (hn : n ≤ 140737488355328) (hr : Rd w A (tab n (bv f))) (hr' : Rd w A' (tab n' (bv f'))) :
    Calls Try.prog 58 #[.slice A n c, .slice A' n' c'] w fun e w' => e = .returned (.bool (eqT n f n' f')) ∧ Ext w w' := by
  refine calls_enter (N := ⟨26, []⟩) ([]) ([]) Try.func58 rfl rfl rfl (Ow.start _) ?_
  refine gc_seq ?_
  refine gc_region ?_
  refine ne (eo_as rfl rfl) rfl ?_
  refine go_nil ?_
  refine gq_next ?_
  refine gc_seq ?_
  refine gc_seq ?_
  refine gc_region ?_
  refine ne (eo_mv rfl rfl) rfl ?_
  refine ne (eo_len rfl Try.underlying22 rfl) rfl ?_
  refine ne (eo_mv rfl rfl) rfl ?_
  refine ne (eo_len rfl Try.underlying22 rfl) rfl ?_
  refine ne (eo_neq rfl rfl rfl) rfl ?_
  refine go_nil ?_
  refine gq_next ?_
  refine gc_cond rfl (fun hc10 => ?_) (fun hc10 => ?_)
  ·
    replace hc10 := of_decide_eq_true hc10
    refine gc_seq ?_
    refine gc_region ?_
    refine ne (eo_as rfl rfl) rfl ?_
    refine go_nil ?_
    refine gq_next ?_
    refine gc_ret ?_
    refine gq_then_ret ?_
    refine gq_results (res1 rfl rfl) ?_
    first
      | exact fun W hO => ⟨ret_bool (eqT_len (by omega)).symm, hO.toExt⟩
      | exact fun W hO => ⟨ret_bool (eqT_differ k (by omega) (by simpa [bne] using hc24)).symm, hO.toExt⟩
      | exact fun W hO => ⟨ret_bool (eqT_yes (by omega) (fun i hi => hI i (by omega))).symm, hO.toExt⟩
  ·
    replace hc10 := of_decide_eq_false hc10
    refine gc_skip ?_
    refine gq_next ?_
    refine gc_seq ?_
    refine gc_seq ?_
    refine gc_region ?_
    refine ne (eo_mv rfl rfl) rfl ?_
    refine ne (eo_len rfl Try.underlying22 rfl) rfl ?_
    refine ne (eo_mv rfl rfl) rfl ?_
    refine go_nil ?_
    refine gq_next ?_
    refine gc_block ?_
    refine loop1 (fun (k : Nat) => k ≤ n ∧ ∀ i, i < k → f i = f' i) (fun (k : Nat) => n - k) (fun (k : Nat) => [(0, .slice A n c), (1, .slice A' n' c'), (12, .int .i64 n), (13, .int .i64 k)]) (fun (k : Nat) => []) 0 ⟨by omega, fun i hi => absurd hi (by omega)⟩ ⟨rfl, rfl, rfl, rfl, trivial⟩ (by first | exact List.Sublist.refl _ | exact List.Sublist.cons _ (List.Sublist.refl _) | exact List.Sublist.cons _ (List.Sublist.cons _ (List.Sublist.refl _)) | exact List.Sublist.cons _ (List.Sublist.cons _ (List.Sublist.cons _ (List.Sublist.refl _))) | exact List.Sublist.cons_cons _ (List.Sublist.cons _ (List.Sublist.refl _))) ?_
    rintro k ⟨hk, hI⟩
    refine gc_seq ?_
    refine gc_region ?_
    refine ne (eo_lss rfl rfl rfl) rfl ?_
    refine go_nil ?_
    refine gq_next ?_
    refine gc_seq ?_
    refine gc_cond rfl (fun hc14 => ?_) (fun hc14 => ?_)
    ·
      replace hc14 := of_decide_eq_true hc14
      refine gc_skip ?_
      refine gq_next ?_
      refine gc_seq ?_
      refine gc_block ?_
      refine gc_seq ?_
      refine gc_region ?_
      refine ne (eo_mv rfl rfl) rfl ?_
      refine ne (eo_as rfl rfl) rfl ?_
      refine go_nil ?_
      refine gq_next ?_
      refine gc_seq ?_
      refine gc_draw [] [0, 1, 2, 3, 4, 5, 6, 7, 8] [] [] (by kernel_rfl) (by kernel_rfl) ?_
      refine gp_nil ?_
      refine de rfl (eo_mv rfl rfl) rfl ?_
      refine de rfl (eo_mv rfl rfl) rfl ?_
      refine de rfl (by first | exact eo_indexR rfl sl22 rfl rfl hr (by simp) (by omega) (by omega) | exact eo_index0 rfl sl22 rfl rfl (by omega) (by omega) | exact eo_index rfl sl22 rfl rfl (by omega) (by omega)) rfl ?_
      refine de rfl (by first | exact eo_load_old rfl s4 rfl (Rd.tabb hr (k := k) (by omega)) (by simp) | exact eo_getb 0 rfl s4 rfl rfl (by omega) | exact eo_getb 1 rfl s4 rfl rfl (by omega) | exact eo_getb 2 rfl s4 rfl rfl (by omega) | exact eo_getb 3 rfl s4 rfl rfl (by omega) | exact eo_getb 4 rfl s4 rfl rfl (by omega) | exact eo_getb 5 rfl s4 rfl rfl (by omega)) rfl ?_
      refine de rfl (eo_mv rfl rfl) rfl ?_
      refine de rfl (eo_mv rfl rfl) rfl ?_
      refine de rfl (by first | exact eo_indexR rfl sl22 rfl rfl hr' (by simp) (by omega) (by omega) | exact eo_index0 rfl sl22 rfl rfl (by omega) (by omega) | exact eo_index rfl sl22 rfl rfl (by omega) (by omega)) rfl ?_
      refine de rfl (by first | exact eo_load_old rfl s4 rfl (Rd.tabb hr' (k := k) (by omega)) (by simp) | exact eo_getb 0 rfl s4 rfl rfl (by omega) | exact eo_getb 1 rfl s4 rfl rfl (by omega) | exact eo_getb 2 rfl s4 rfl rfl (by omega) | exact eo_getb 3 rfl s4 rfl rfl (by omega) | exact eo_getb 4 rfl s4 rfl rfl (by omega) | exact eo_getb 5 rfl s4 rfl rfl (by omega)) rfl ?_
      refine de rfl (eo_bneq rfl rfl rfl Try.underlying4) rfl ?_
      refine ge_nil ?_
      refine ga_nil ?_
      refine gi_nil ?_
      refine gq_nq ?_
      refine gq_next ?_
      refine gc_cond rfl (fun hc24 => ?_) (fun hc24 => ?_)
      ·
        refine gc_seq ?_
        refine gc_region ?_
        refine ne (eo_as rfl rfl) rfl ?_
        refine go_nil ?_
        refine gq_next ?_
        refine gc_ret ?_
        refine gq_block_ret ?_
        refine gq_then_ret ?_
        refine gq_then_ret ?_
        refine gq_block_ret ?_
        refine gq_then_ret ?_
        refine gq_results (res1 rfl rfl) ?_
        first
          | exact fun W hO => ⟨ret_bool (eqT_len (by omega)).symm, hO.toExt⟩
          | exact fun W hO => ⟨ret_bool (eqT_differ k (by omega) (by simpa [bne] using hc24)).symm, hO.toExt⟩
          | exact fun W hO => ⟨ret_bool (eqT_yes (by omega) (fun i hi => hI i (by omega))).symm, hO.toExt⟩
      ·
        refine gc_skip ?_
        refine gq_block_end ?_
        refine gq_next ?_
        refine gc_region ?_
        refine ne (eo_add rfl rfl rfl (by omega) (by omega)) rfl ?_
        refine ne (eo_mv rfl rfl) rfl ?_
        refine go_nil ?_
        exact round1 (k + 1) ⟨by omega, upto_succ hI (by simpa [bne] using hc24)⟩ (by omega) ⟨rfl, rfl, rfl, rfl, trivial⟩ (by first | exact List.Sublist.refl _ | exact List.Sublist.cons _ (List.Sublist.refl _) | exact List.Sublist.cons _ (List.Sublist.cons _ (List.Sublist.refl _)) | exact List.Sublist.cons _ (List.Sublist.cons _ (List.Sublist.cons _ (List.Sublist.refl _))) | exact List.Sublist.cons_cons _ (List.Sublist.cons _ (List.Sublist.refl _)))
    ·
      replace hc14 := of_decide_eq_false hc14
      refine gc_exit ?_
      refine gq_then_exit ?_
      refine gq_then_exit ?_
      refine gq_block_hit ?_
      refine gq_next ?_
      refine gc_seq ?_
      refine gc_region ?_
      refine ne (eo_as rfl rfl) rfl ?_
      refine go_nil ?_
      refine gq_next ?_
      refine gc_ret ?_
      refine gq_results (res1 rfl rfl) ?_
      first
        | exact fun W hO => ⟨ret_bool (eqT_len (by omega)).symm, hO.toExt⟩
        | exact fun W hO => ⟨ret_bool (eqT_differ k (by omega) (by simpa [bne] using hc24)).symm, hO.toExt⟩
        | exact fun W hO => ⟨ret_bool (eqT_yes (by omega) (fun i hi => hI i (by omega))).symm, hO.toExt⟩

/-- slices.Equal[[]uint8,uint8] -/
theorem sequali_c (A A' : Option Addr) (n c n' c' : Nat) (f f' : Nat → Int) (w : World) (hn : n ≤ 140737488355328) (hr : Rd w A (tab n (iv .u8 f))) (hr' : Rd w A' (tab n' (iv .u8 f'))) :
    Calls Try.prog 59 #[.slice A n c, .slice A' n' c'] w fun e w' => e = .returned (.bool (eqT n f n' f')) ∧ Ext w w' := by
  refine calls_enter (N := ⟨26, []⟩) ([]) ([]) Try.func59 rfl rfl rfl (Ow.start _) ?_
  refine gc_seq ?_
  refine gc_region ?_
  refine ne (eo_as rfl rfl) rfl ?_
  refine go_nil ?_
  refine gq_next ?_
  refine gc_seq ?_
  refine gc_seq ?_
  refine gc_region ?_
  refine ne (eo_mv rfl rfl) rfl ?_
  refine ne (eo_len rfl Try.underlying53 rfl) rfl ?_
  refine ne (eo_mv rfl rfl) rfl ?_
  refine ne (eo_len rfl Try.underlying53 rfl) rfl ?_
  refine ne (eo_neq rfl rfl rfl) rfl ?_
  refine go_nil ?_
  refine gq_next ?_
  refine gc_cond rfl (fun hc10 => ?_) (fun hc10 => ?_)
  ·
    replace hc10 := of_decide_eq_true hc10
    refine gc_seq ?_
    refine gc_region ?_
    refine ne (eo_as rfl rfl) rfl ?_
    refine go_nil ?_
    refine gq_next ?_
    refine gc_ret ?_
    refine gq_then_ret ?_
    refine gq_results (res1 rfl rfl) ?_
    first
      | exact fun W hO => ⟨ret_bool (eqT_len (by omega)).symm, hO.toExt⟩
      | exact fun W hO => ⟨ret_bool (eqT_differ k (by omega) (by simpa using hc24)).symm, hO.toExt⟩
      | exact fun W hO => ⟨ret_bool (eqT_yes (by omega) (fun i hi => hI i (by omega))).symm, hO.toExt⟩
  ·
    replace hc10 := of_decide_eq_false hc10
    refine gc_skip ?_
    refine gq_next ?_
    refine gc_seq ?_
    refine gc_seq ?_
    refine gc_region ?_
    refine ne (eo_mv rfl rfl) rfl ?_
    refine ne (eo_len rfl Try.underlying53 rfl) rfl ?_
    refine ne (eo_mv rfl rfl) rfl ?_
    refine go_nil ?_
    refine gq_next ?_
    refine gc_block ?_
    refine loop1 (fun (k : Nat) => k ≤ n ∧ ∀ i, i < k → f i = f' i) (fun (k : Nat) => n - k) (fun (k : Nat) => [(0, .slice A n c), (1, .slice A' n' c'), (12, .int .i64 n), (13, .int .i64 k)]) (fun (k : Nat) => []) 0 ⟨by omega, fun i hi => absurd hi (by omega)⟩ ⟨rfl, rfl, rfl, rfl, trivial⟩ (by first | exact List.Sublist.refl _ | exact List.Sublist.cons _ (List.Sublist.refl _) | exact List.Sublist.cons _ (List.Sublist.cons _ (List.Sublist.refl _)) | exact List.Sublist.cons _ (List.Sublist.cons _ (List.Sublist.cons _ (List.Sublist.refl _))) | exact List.Sublist.cons_cons _ (List.Sublist.cons _ (List.Sublist.refl _))) ?_
    rintro k ⟨hk, hI⟩
    refine gc_seq ?_
    refine gc_region ?_
    refine ne (eo_lss rfl rfl rfl) rfl ?_
    refine go_nil ?_
    refine gq_next ?_
    refine gc_seq ?_
    refine gc_cond rfl (fun hc14 => ?_) (fun hc14 => ?_)
    ·
      replace hc14 := of_decide_eq_true hc14
      refine gc_skip ?_
      refine gq_next ?_
      refine gc_seq ?_
      refine gc_block ?_
      refine gc_seq ?_
      refine gc_region ?_
      refine ne (eo_mv rfl rfl) rfl ?_
      refine ne (eo_as rfl rfl) rfl ?_
      refine go_nil ?_
      refine gq_next ?_
      refine gc_seq ?_
      refine gc_draw [] [0, 1, 2, 3, 4, 5, 6, 7, 8] [] [] (by kernel_rfl) (by kernel_rfl) ?_
      refine gp_nil ?_
      refine de rfl (eo_mv rfl rfl) rfl ?_
      refine de rfl (eo_mv rfl rfl) rfl ?_
      refine de rfl (by first | exact eo_indexR rfl sl53 rfl rfl hr (by simp) (by omega) (by omega) | exact eo_index0 rfl sl53 rfl rfl (by omega) (by omega) | exact eo_index rfl sl53 rfl rfl (by omega) (by omega)) rfl ?_
      refine de rfl (by first | exact eo_load_old rfl s5 rfl (Rd.tabi hr (k := k) (by omega)) (by simp) | exact eo_geti 0 rfl s5 rfl rfl (by omega) | exact eo_geti 1 rfl s5 rfl rfl (by omega) | exact eo_geti 2 rfl s5 rfl rfl (by omega) | exact eo_geti 3 rfl s5 rfl rfl (by omega) | exact eo_geti 4 rfl s5 rfl rfl (by omega) | exact eo_geti 5 rfl s5 rfl rfl (by omega)) rfl ?_
      refine de rfl (eo_mv rfl rfl) rfl ?_
      refine de rfl (eo_mv rfl rfl) rfl ?_
      refine de rfl (by first | exact eo_indexR rfl sl53 rfl rfl hr' (by simp) (by omega) (by omega) | exact eo_index0 rfl sl53 rfl rfl (by omega) (by omega) | exact eo_index rfl sl53 rfl rfl (by omega) (by omega)) rfl ?_
      refine de rfl (by first | exact eo_load_old rfl s5 rfl (Rd.tabi hr' (k := k) (by omega)) (by simp) | exact eo_geti 0 rfl s5 rfl rfl (by omega) | exact eo_geti 1 rfl s5 rfl rfl (by omega) | exact eo_geti 2 rfl s5 rfl rfl (by omega) | exact eo_geti 3 rfl s5 rfl rfl (by omega) | exact eo_geti 4 rfl s5 rfl rfl (by omega) | exact eo_geti 5 rfl s5 rfl rfl (by omega)) rfl ?_
      refine de rfl (eo_neq rfl rfl rfl) rfl ?_
      refine ge_nil ?_
      refine ga_nil ?_
      refine gi_nil ?_
      refine gq_nq ?_
      refine gq_next ?_
      refine gc_cond rfl (fun hc24 => ?_) (fun hc24 => ?_)
      ·
        refine gc_seq ?_
        refine gc_region ?_
        refine ne (eo_as rfl rfl) rfl ?_
        refine go_nil ?_
        refine gq_next ?_
        refine gc_ret ?_
        refine gq_block_ret ?_
        refine gq_then_ret ?_
        refine gq_then_ret ?_
        refine gq_block_ret ?_
        refine gq_then_ret ?_
        refine gq_results (res1 rfl rfl) ?_
        first
          | exact fun W hO => ⟨ret_bool (eqT_len (by omega)).symm, hO.toExt⟩
          | exact fun W hO => ⟨ret_bool (eqT_differ k (by omega) (by simpa using hc24)).symm, hO.toExt⟩
          | exact fun W hO => ⟨ret_bool (eqT_yes (by omega) (fun i hi => hI i (by omega))).symm, hO.toExt⟩
      ·
        refine gc_skip ?_
        refine gq_block_end ?_
        refine gq_next ?_
        refine gc_region ?_
        refine ne (eo_add rfl rfl rfl (by omega) (by omega)) rfl ?_
        refine ne (eo_mv rfl rfl) rfl ?_
        refine go_nil ?_
        exact round1 (k + 1) ⟨by omega, upto_succ hI (by simpa using hc24)⟩ (by omega) ⟨rfl, rfl, rfl, rfl, trivial⟩ (by first | exact List.Sublist.refl _ | exact List.Sublist.cons _ (List.Sublist.refl _) | exact List.Sublist.cons _ (List.Sublist.cons _ (List.Sublist.refl _)) | exact List.Sublist.cons _ (List.Sublist.cons _ (List.Sublist.cons _ (List.Sublist.refl _))) | exact List.Sublist.cons_cons _ (List.Sublist.cons _ (List.Sublist.refl _)))
    ·
      replace hc14 := of_decide_eq_false hc14
      refine gc_exit ?_
      refine gq_then_exit ?_
      refine gq_then_exit ?_
      refine gq_block_hit ?_
      refine gq_next ?_
      refine gc_seq ?_
      refine gc_region ?_
      refine ne (eo_as rfl rfl) rfl ?_
      refine go_nil ?_
      refine gq_next ?_
      refine gc_ret ?_
      refine gq_results (res1 rfl rfl) ?_
      first
        | exact fun W hO => ⟨ret_bool (eqT_len (by omega)).symm, hO.toExt⟩
        | exact fun W hO => ⟨ret_bool (eqT_differ k (by omega) (by simpa using hc24)).symm, hO.toExt⟩
        | exact fun W hO => ⟨ret_bool (eqT_yes (by omega) (fun i hi => hI i (by omega))).symm, hO.toExt⟩

/-- barscan/raster.Equal -/
theorem equal_c (W H W' H' : Int) (A A' : Option Addr) (n c n' c' : Nat) (f f' : Nat → Bool) (w : World) (hn : n ≤ 140737488355328) (hr : Rd w A (tab n (bv f))) (hr' : Rd w A' (tab n' (bv f'))) :
    Calls Try.prog 33 #[.agg #[.int .i64 W, .int .i64 H, .slice A n c], .agg #[.int .i64 W', .int .i64 H', .slice A' n' c']] w fun e w' => e = .returned (.bool (eqM W H n f W' H' n' f')) ∧ Ext w w' := by
  refine calls_enter (N := ⟨24, []⟩) ([]) ([]) Try.func33 rfl rfl rfl (Ow.start _) ?_
  refine gc_seq ?_
  refine gc_region ?_
  refine nx (xo_boxA rfl rfl) rfl ?_
  rintro _ _ ⟨g2, rfl, rfl⟩
  refine nx (xo_boxA rfl rfl) rfl ?_
  rintro _ _ ⟨g3, rfl, rfl⟩
  refine ne (eo_as rfl rfl) rfl ?_
  refine go_nil ?_
  refine gq_next ?_
  refine gc_seq ?_
  refine gc_region ?_
  refine ne (eo_field rfl f24_0 rfl) rfl ?_
  refine ne (by first | exact eo_load 0 rfl s3 rfl rfl rfl rfl | exact eo_load 1 rfl s3 rfl rfl rfl rfl | exact eo_load 2 rfl s3 rfl rfl rfl rfl | exact eo_load 3 rfl s3 rfl rfl rfl rfl | exact eo_load 4 rfl s3 rfl rfl rfl rfl | exact eo_load 5 rfl s3 rfl rfl rfl rfl) rfl ?_
  refine ne (eo_field rfl f24_0 rfl) rfl ?_
  refine ne (by first | exact eo_load 0 rfl s3 rfl rfl rfl rfl | exact eo_load 1 rfl s3 rfl rfl rfl rfl | exact eo_load 2 rfl s3 rfl rfl rfl rfl | exact eo_load 3 rfl s3 rfl rfl rfl rfl | exact eo_load 4 rfl s3 rfl rfl rfl rfl | exact eo_load 5 rfl s3 rfl rfl rfl rfl) rfl ?_
  refine ne (eo_eql rfl rfl rfl) rfl ?_
  refine ne (eo_mv rfl rfl) rfl ?_
  refine ng rfl rfl (fun h => eo_field rfl f24_1 rfl) rfl ?_
  refine ng rfl rfl (fun h => by first | exact eo_load 0 rfl s3 (ev_if h rfl) rfl rfl rfl | exact eo_load 1 rfl s3 (ev_if h rfl) rfl rfl rfl | exact eo_load 2 rfl s3 (ev_if h rfl) rfl rfl rfl | exact eo_load 3 rfl s3 (ev_if h rfl) rfl rfl rfl | exact eo_load 4 rfl s3 (ev_if h rfl) rfl rfl rfl | exact eo_load 5 rfl s3 (ev_if h rfl) rfl rfl rfl) rfl ?_
  refine ng rfl rfl (fun h => eo_field rfl f24_1 rfl) rfl ?_
  refine ng rfl rfl (fun h => by first | exact eo_load 0 rfl s3 (ev_if h rfl) rfl rfl rfl | exact eo_load 1 rfl s3 (ev_if h rfl) rfl rfl rfl | exact eo_load 2 rfl s3 (ev_if h rfl) rfl rfl rfl | exact eo_load 3 rfl s3 (ev_if h rfl) rfl rfl rfl | exact eo_load 4 rfl s3 (ev_if h rfl) rfl rfl rfl | exact eo_load 5 rfl s3 (ev_if h rfl) rfl rfl rfl) rfl ?_
  refine ng rfl rfl (fun h => eo_eql rfl (ev_if h rfl) (ev_if h rfl)) rfl ?_
  refine ne (eo_and rfl rfl (fun hb => ev_if hb rfl)) rfl ?_
  refine ne (eo_mv rfl rfl) rfl ?_
  refine ng rfl rfl (fun h => eo_field rfl f24_2 rfl) rfl ?_
  refine ng rfl rfl (fun h => by first | exact eo_load 0 rfl s22 (ev_if h rfl) rfl rfl rfl | exact eo_load 1 rfl s22 (ev_if h rfl) rfl rfl rfl | exact eo_load 2 rfl s22 (ev_if h rfl) rfl rfl rfl | exact eo_load 3 rfl s22 (ev_if h rfl) rfl rfl rfl | exact eo_load 4 rfl s22 (ev_if h rfl) rfl rfl rfl | exact eo_load 5 rfl s22 (ev_if h rfl) rfl rfl rfl) rfl ?_
  refine ng rfl rfl (fun h => eo_field rfl f24_2 rfl) rfl ?_
  refine ng rfl rfl (fun h => by first | exact eo_load 0 rfl s22 (ev_if h rfl) rfl rfl rfl | exact eo_load 1 rfl s22 (ev_if h rfl) rfl rfl rfl | exact eo_load 2 rfl s22 (ev_if h rfl) rfl rfl rfl | exact eo_load 3 rfl s22 (ev_if h rfl) rfl rfl rfl | exact eo_load 4 rfl s22 (ev_if h rfl) rfl rfl rfl | exact eo_load 5 rfl s22 (ev_if h rfl) rfl rfl rfl) rfl ?_
  refine ng rfl rfl (fun h => eo_call rfl en58 (evs_cons (ev_if h rfl) (evs_cons (ev_if h rfl) evs_nil)) (fun W hO => sequal_c _ _ _ _ _ _ _ _ W hn (hr.old0 hO) (hr'.old0 hO))) rfl ?_
  refine ne (eo_and rfl rfl (fun hb => ev_if hb rfl)) rfl ?_
  refine ne (eo_as rfl rfl) rfl ?_
  refine go_nil ?_
  refine gq_next ?_
  refine gc_ret ?_
  refine gq_results (res1 rfl rfl) ?_
  exact fun W hO => ⟨ret_bool (by simp [eqM]), hO.toExt⟩

/-- barscan/raster.EqualImage -/
theorem equalim_c (W H W' H' : Int) (A A' : Option Addr) (n c n' c' : Nat) (f f' : Nat → Int) (w : World) (hn : n ≤ 140737488355328) (hr : Rd w A (tab n (iv .u8 f))) (hr' : Rd w A' (tab n' (iv .u8 f'))) :
    Calls Try.prog 34 #[.agg #[.int .i64 W, .int .i64 H, .slice A n c], .agg #[.int .i64 W', .int .i64 H', .slice A' n' c']] w fun e w' => e = .returned (.bool (eqM W H n f W' H' n' f')) ∧ Ext w w' := by
  refine calls_enter (N := ⟨24, []⟩) ([]) ([]) Try.func34 rfl rfl rfl (Ow.start _) ?_
  refine gc_seq ?_
  refine gc_region ?_
  refine nx (xo_boxA rfl rfl) rfl ?_
  rintro _ _ ⟨g2, rfl, rfl⟩
  refine nx (xo_boxA rfl rfl) rfl ?_
  rintro _ _ ⟨g3, rfl, rfl⟩
  refine ne (eo_as rfl rfl) rfl ?_
  refine go_nil ?_
  refine gq_next ?_
  refine gc_seq ?_
  refine gc_region ?_
  refine ne (eo_field rfl f55_0 rfl) rfl ?_
  refine ne (by first | exact eo_load 0 rfl s3 rfl rfl rfl rfl | exact eo_load 1 rfl s3 rfl rfl rfl rfl | exact eo_load 2 rfl s3 rfl rfl rfl rfl | exact eo_load 3 rfl s3 rfl rfl rfl rfl | exact eo_load 4 rfl s3 rfl rfl rfl rfl | exact eo_load 5 rfl s3 rfl rfl rfl rfl) rfl ?_
  refine ne (eo_field rfl f55_0 rfl) rfl ?_
  refine ne (by first | exact eo_load 0 rfl s3 rfl rfl rfl rfl | exact eo_load 1 rfl s3 rfl rfl rfl rfl | exact eo_load 2 rfl s3 rfl rfl rfl rfl | exact eo_load 3 rfl s3 rfl rfl rfl rfl | exact eo_load 4 rfl s3 rfl rfl rfl rfl | exact eo_load 5 rfl s3 rfl rfl rfl rfl) rfl ?_
  refine ne (eo_eql rfl rfl rfl) rfl ?_
  refine ne (eo_mv rfl rfl) rfl ?_
  refine ng rfl rfl (fun h => eo_field rfl f55_1 rfl) rfl ?_
  refine ng rfl rfl (fun h => by first | exact eo_load 0 rfl s3 (ev_if h rfl) rfl rfl rfl | exact eo_load 1 rfl s3 (ev_if h rfl) rfl rfl rfl | exact eo_load 2 rfl s3 (ev_if h rfl) rfl rfl rfl | exact eo_load 3 rfl s3 (ev_if h rfl) rfl rfl rfl | exact eo_load 4 rfl s3 (ev_if h rfl) rfl rfl rfl | exact eo_load 5 rfl s3 (ev_if h rfl) rfl rfl rfl) rfl ?_
  refine ng rfl rfl (fun h => eo_field rfl f55_1 rfl) rfl ?_
  refine ng rfl rfl (fun h => by first | exact eo_load 0 rfl s3 (ev_if h rfl) rfl rfl rfl | exact eo_load 1 rfl s3 (ev_if h rfl) rfl rfl rfl | exact eo_load 2 rfl s3 (ev_if h rfl) rfl rfl rfl | exact eo_load 3 rfl s3 (ev_if h rfl) rfl rfl rfl | exact eo_load 4 rfl s3 (ev_if h rfl) rfl rfl rfl | exact eo_load 5 rfl s3 (ev_if h rfl) rfl rfl rfl) rfl ?_
  refine ng rfl rfl (fun h => eo_eql rfl (ev_if h rfl) (ev_if h rfl)) rfl ?_
  refine ne (eo_and rfl rfl (fun hb => ev_if hb rfl)) rfl ?_
  refine ne (eo_mv rfl rfl) rfl ?_
  refine ng rfl rfl (fun h => eo_field rfl f55_2 rfl) rfl ?_
  refine ng rfl rfl (fun h => by first | exact eo_load 0 rfl s53 (ev_if h rfl) rfl rfl rfl | exact eo_load 1 rfl s53 (ev_if h rfl) rfl rfl rfl | exact eo_load 2 rfl s53 (ev_if h rfl) rfl rfl rfl | exact eo_load 3 rfl s53 (ev_if h rfl) rfl rfl rfl | exact eo_load 4 rfl s53 (ev_if h rfl) rfl rfl rfl | exact eo_load 5 rfl s53 (ev_if h rfl) rfl rfl rfl) rfl ?_
  refine ng rfl rfl (fun h => eo_field rfl f55_2 rfl) rfl ?_
  refine ng rfl rfl (fun h => by first | exact eo_load 0 rfl s53 (ev_if h rfl) rfl rfl rfl | exact eo_load 1 rfl s53 (ev_if h rfl) rfl rfl rfl | exact eo_load 2 rfl s53 (ev_if h rfl) rfl rfl rfl | exact eo_load 3 rfl s53 (ev_if h rfl) rfl rfl rfl | exact eo_load 4 rfl s53 (ev_if h rfl) rfl rfl rfl | exact eo_load 5 rfl s53 (ev_if h rfl) rfl rfl rfl) rfl ?_
  refine ng rfl rfl (fun h => eo_call rfl en59 (evs_cons (ev_if h rfl) (evs_cons (ev_if h rfl) evs_nil)) (fun W hO => sequali_c _ _ _ _ _ _ _ _ W hn (hr.old0 hO) (hr'.old0 hO))) rfl ?_
  refine ne (eo_and rfl rfl (fun hb => ev_if hb rfl)) rfl ?_
  refine ne (eo_as rfl rfl) rfl ?_
  refine go_nil ?_
  refine gq_next ?_
  refine gc_ret ?_
  refine gq_results (res1 rfl rfl) ?_
  exact fun W hO => ⟨ret_bool (by simp [eqM]), hO.toExt⟩

/-- barscan/barscanlaw31.same -/
theorem same_c (W H W' H' : Int) (A A' : Option Addr) (n c n' c' : Nat) (f f' : Nat → Bool) (w : World) (hn : n ≤ 140737488355328) (hr : Rd w A (tab n (bv f))) (hr' : Rd w A' (tab n' (bv f'))) :
    Calls Try.prog 16 #[.agg #[.int .i64 W, .int .i64 H, .slice A n c], .agg #[.int .i64 W', .int .i64 H', .slice A' n' c']] w fun e w' => e = .returned (.bool (eqM W H n f W' H' n' f')) ∧ Ext w w' := by
  refine calls_enter (N := ⟨8, []⟩) ([]) ([]) Try.func16 rfl rfl rfl (Ow.start _) ?_
  refine gc_seq ?_
  refine gc_region ?_
  refine nx (xo_boxA rfl rfl) rfl ?_
  rintro _ _ ⟨g2, rfl, rfl⟩
  refine nx (xo_boxA rfl rfl) rfl ?_
  rintro _ _ ⟨g3, rfl, rfl⟩
  refine ne (eo_as rfl rfl) rfl ?_
  refine go_nil ?_
  refine gq_next ?_
  refine gc_seq ?_
  refine gc_region ?_
  refine ne (by first | exact eo_loadA 0 rfl a24 rfl rfl rfl rfl | exact eo_loadA 1 rfl a24 rfl rfl rfl rfl | exact eo_loadA 2 rfl a24 rfl rfl rfl rfl | exact eo_loadA 3 rfl a24 rfl rfl rfl rfl | exact eo_loadA 4 rfl a24 rfl rfl rfl rfl | exact eo_loadA 5 rfl a24 rfl rfl rfl rfl) rfl ?_
  refine ne (by first | exact eo_loadA 0 rfl a24 rfl rfl rfl rfl | exact eo_loadA 1 rfl a24 rfl rfl rfl rfl | exact eo_loadA 2 rfl a24 rfl rfl rfl rfl | exact eo_loadA 3 rfl a24 rfl rfl rfl rfl | exact eo_loadA 4 rfl a24 rfl rfl rfl rfl | exact eo_loadA 5 rfl a24 rfl rfl rfl rfl) rfl ?_
  refine ne (eo_call rfl en51 rfl (fun W hO => requal_c _ _ _ _ _ _ _ _ _ _ _ _ W hn (hr.old0 hO) (hr'.old0 hO))) rfl ?_
  refine ne (eo_as rfl rfl) rfl ?_
  refine go_nil ?_
  refine gq_next ?_
  refine gc_ret ?_
  refine gq_results (res1 rfl rfl) ?_
  exact fun W hO => ⟨rfl, hO.toExt⟩

/-- barscan/raster.quarters -/
theorem quarters_c (t : Int) (w : World) :
    Calls Try.prog 54 #[.int .i64 t] w fun e w' => e = .returned (.int .i64 (t % 4)) ∧ Ext w w' := by
  have hq := tmod_bd t
  refine calls_enter (N := ⟨7, []⟩) ([]) ([]) Try.func54 rfl rfl rfl (Ow.start _) ?_
  refine gc_seq ?_
  refine gc_region ?_
  refine ne (eo_as rfl rfl) rfl ?_
  refine go_nil ?_
  refine gq_next ?_
  refine gc_seq ?_
  refine gc_region ?_
  refine ne (eo_mv rfl rfl) rfl ?_
  refine ne (eo_trem rfl rfl rfl (by omega)) rfl ?_
  refine ne (eo_add rfl rfl rfl (by omega) (by omega)) rfl ?_
  refine ne (eo_rem rfl rfl rfl (by omega) (by omega)) rfl ?_
  refine ne (eo_as rfl rfl) rfl ?_
  refine go_nil ?_
  refine gq_next ?_
  refine gc_ret ?_
  refine gq_results (res1 rfl rfl) ?_
  exact fun W hO => ⟨ret_int (quart_eq t), hO.toExt⟩

/-- barscan/barscanref31.quarters -/
theorem rquarters_c (t : Int) (w : World) :
    Calls Try.prog 60 #[.int .i64 t] w fun e w' => e = .returned (.int .i64 (t % 4)) ∧ Ext w w' := by
  have hq := tmod_bd t
  refine calls_enter (N := ⟨7, []⟩) ([]) ([]) Try.func60 rfl rfl rfl (Ow.start _) ?_
  refine gc_seq ?_
  refine gc_region ?_
  refine ne (eo_as rfl rfl) rfl ?_
  refine go_nil ?_
  refine gq_next ?_
  refine gc_seq ?_
  refine gc_region ?_
  refine ne (eo_mv rfl rfl) rfl ?_
  refine ne (eo_trem rfl rfl rfl (by omega)) rfl ?_
  refine ne (eo_add rfl rfl rfl (by omega) (by omega)) rfl ?_
  refine ne (eo_rem rfl rfl rfl (by omega) (by omega)) rfl ?_
  refine ne (eo_as rfl rfl) rfl ?_
  refine go_nil ?_
  refine gq_next ?_
  refine gc_ret ?_
  refine gq_results (res1 rfl rfl) ?_
  exact fun W hO => ⟨ret_int (quart_eq t), hO.toExt⟩

/-- barscan/raster.turned[bool] -/
theorem turned_c (wd h : Int) (A : Option Addr) (n c : Nat) (f : Nat → Bool) (w : World) (hv : vldB wd h n = true) (hr : Rd w A (tab n (bv f))) :
    Calls Try.prog 55 #[.slice A n c, .int .i64 wd, .int .i64 h] w fun e w' => ∃ v Hn, e = .returned v ∧ RS 4 n (bv (turnF wd h f)) v Hn ∧ Ow [] w w' Hn := by
  obtain ⟨v1, v2, v3, v4, v5, v6⟩ := vldB_iff.1 hv
  refine calls_enter (N := ⟨42, []⟩) ([]) ([]) Try.func55 rfl rfl rfl (Ow.start _) ?_
  refine gc_seq ?_
  refine gc_region ?_
  refine ne (eo_as rfl rfl) rfl ?_
  refine go_nil ?_
  refine gq_next ?_
  refine gc_seq ?_
  refine gc_region ?_
  refine ne (eo_mv rfl rfl) rfl ?_
  refine ne (eo_len rfl Try.underlying22 rfl) rfl ?_
  refine nx (xo_makeb rfl Try.underlying22 e4 rfl rfl (by omega) (by omega) (by omega)) rfl ?_
  rintro _ _ ⟨g12, rfl, rfl⟩
  refine ne (eo_as rfl rfl) rfl ?_
  refine go_nil ?_
  refine gq_next ?_
  refine gc_seq ?_
  refine gc_seq ?_
  refine gc_region ?_
  refine ne (eo_mv rfl rfl) rfl ?_
  refine ne (eo_mv rfl rfl) rfl ?_
  refine go_nil ?_
  refine gq_next ?_
  refine gc_block ?_
  refine loop2 (fun (y : Nat) (f1 : Nat → Bool) => (y : Int) ≤ h ∧ ∀ j : Nat, j < n → f1 j = if h - 1 - (j : Int) % h < (y : Int) then turnF wd h f j else false) (fun (y : Nat) (f1 : Nat → Bool) => (h - y).toNat) (fun (y : Nat) (f1 : Nat → Bool) => [(0, .slice A n c), (1, .int .i64 wd), (2, .int .i64 h), (7, .slice (some ⟨g12, 0, none⟩) n n), (13, .int .i64 h), (14, .int .i64 y)]) (fun (y : Nat) (f1 : Nat → Bool) => [⟨g12, 4, tab n (bv f1) ++ []⟩]) 0 (fun _ => false) ⟨by omega, fun j _ => by rw [if_neg]; have := Int.emod_lt_of_pos (j : Int) (show 0 < h by omega); omega⟩ ⟨rfl, rfl, rfl, rfl, rfl, rfl, trivial⟩ (by first | exact List.Sublist.refl _ | exact List.Sublist.cons _ (List.Sublist.refl _) | exact List.Sublist.cons _ (List.Sublist.cons _ (List.Sublist.refl _)) | exact List.Sublist.cons _ (List.Sublist.cons _ (List.Sublist.cons _ (List.Sublist.refl _))) | exact List.Sublist.cons_cons _ (List.Sublist.cons _ (List.Sublist.refl _))) ?_
  rintro y f1 ⟨hy, hI⟩
  refine gc_seq ?_
  refine gc_region ?_
  refine ne (eo_lss rfl rfl rfl) rfl ?_
  refine go_nil ?_
  refine gq_next ?_
  refine gc_seq ?_
  refine gc_cond rfl (fun hc15 => ?_) (fun hc15 => ?_)
  ·
    replace hc15 := of_decide_eq_true hc15
    refine gc_skip ?_
    refine gq_next ?_
    refine gc_seq ?_
    refine gc_block ?_
    refine gc_seq ?_
    refine gc_region ?_
    refine ne (eo_mv rfl rfl) rfl ?_
    refine ne (eo_as rfl rfl) rfl ?_
    refine go_nil ?_
    refine gq_next ?_
    refine gc_seq ?_
    refine gc_region ?_
    refine ne (eo_mv rfl rfl) rfl ?_
    refine ne (eo_mv rfl rfl) rfl ?_
    refine go_nil ?_
    refine gq_next ?_
    refine gc_block ?_
    refine loop2 (fun (x : Nat) (f1 : Nat → Bool) => (x : Int) ≤ wd ∧ ∀ j : Nat, j < n → f1 j = if h - 1 - (j : Int) % h < (y : Int) ∨ h - 1 - (j : Int) % h = (y : Int) ∧ (j : Int) / h < (x : Int) then turnF wd h f j else false) (fun (x : Nat) (f1 : Nat → Bool) => (wd - x).toNat) (fun (x : Nat) (f1 : Nat → Bool) => [(0, .slice A n c), (1, .int .i64 wd), (2, .int .i64 h), (7, .slice (some ⟨g12, 0, none⟩) n n), (13, .int .i64 h), (14, .int .i64 y), (8, .int .i64 y), (17, .int .i64 wd), (18, .int .i64 x)]) (fun (x : Nat) (f1 : Nat → Bool) => [⟨g12, 4, tab n (bv f1) ++ []⟩]) 0 f1 ⟨by omega, turn_in (by omega) hI⟩ ⟨rfl, rfl, rfl, rfl, rfl, rfl, rfl, rfl, rfl, trivial⟩ (by first | exact List.Sublist.refl _ | exact List.Sublist.cons _ (List.Sublist.refl _) | exact List.Sublist.cons _ (List.Sublist.cons _ (List.Sublist.refl _)) | exact List.Sublist.cons _ (List.Sublist.cons _ (List.Sublist.cons _ (List.Sublist.refl _))) | exact List.Sublist.cons_cons _ (List.Sublist.cons _ (List.Sublist.refl _))) ?_
    rintro x f1 ⟨hx, hI⟩
    refine gc_seq ?_
    refine gc_region ?_
    refine ne (eo_lss rfl rfl rfl) rfl ?_
    refine go_nil ?_
    refine gq_next ?_
    refine gc_seq ?_
    refine gc_cond rfl (fun hc19 => ?_) (fun hc19 => ?_)
    ·
      replace hc19 := of_decide_eq_true hc19
      refine gc_skip ?_
      refine gq_next ?_
      refine gc_seq ?_
      refine gc_block ?_
      refine gc_seq ?_
      refine gc_region ?_
      refine ne (eo_mv rfl rfl) rfl ?_
      refine ne (eo_as rfl rfl) rfl ?_
      refine go_nil ?_
      refine gq_next ?_
      refine gc_region ?_
      have hb := idx_bd (W := wd) (H := h) (x := x) (y := y) (by omega) (by omega) (by omega) (by omega)
      have hb2 := idx_bd (W := h) (H := wd) (x := h - 1 - y) (y := x) (by omega) (by omega) (by omega) (by omega)
      rw [Int.mul_comm h wd] at hb2
      refine ne (eo_mv rfl rfl) rfl ?_
      refine ne (eo_mv rfl rfl) rfl ?_
      refine ne (eo_mv rfl rfl) rfl ?_
      refine ne (eo_mul rfl rfl rfl (by omega) (by omega)) rfl ?_
      refine ne (eo_mv rfl rfl) rfl ?_
      refine ne (eo_add rfl rfl rfl (by omega) (by omega)) rfl ?_
      refine ne (eo_sub rfl rfl rfl (by omega) (by omega)) rfl ?_
      refine ne (eo_mv rfl rfl) rfl ?_
      refine ne (eo_sub rfl rfl rfl (by omega) (by omega)) rfl ?_
      refine ne (eo_mv rfl rfl) rfl ?_
      refine ne (eo_mv rfl rfl) rfl ?_
      refine ne (eo_mv rfl rfl) rfl ?_
      refine ne (eo_mul rfl rfl rfl (by omega) (by omega)) rfl ?_
      refine ne (eo_mv rfl rfl) rfl ?_
      refine ne (eo_add rfl rfl rfl (by omega) (by omega)) rfl ?_
      refine ne (by first | exact eo_indexR rfl sl22 rfl rfl hr (by simp) (by omega) (by omega) | exact eo_index0 rfl sl22 rfl rfl (by omega) (by omega) | exact eo_index rfl sl22 rfl rfl (by omega) (by omega)) rfl ?_
      refine ne (by first | exact eo_load_old rfl s4 rfl (Rd.tabb hr (by omega)) (by simp) | exact eo_getb 0 rfl s4 rfl rfl (by omega) | exact eo_getb 1 rfl s4 rfl rfl (by omega) | exact eo_getb 2 rfl s4 rfl rfl (by omega) | exact eo_getb 3 rfl s4 rfl rfl (by omega) | exact eo_getb 4 rfl s4 rfl rfl (by omega) | exact eo_getb 5 rfl s4 rfl rfl (by omega)) rfl ?_
      refine ne (by first | exact eo_index0 rfl sl22 rfl rfl (by omega) (by omega) | exact eo_index rfl sl22 rfl rfl (by omega) (by omega)) rfl ?_
      refine nu (by first | exact xo_setb 0 rfl s4 rfl rfl rfl (by omega) | exact xo_setb 1 rfl s4 rfl rfl rfl (by omega) | exact xo_setb 2 rfl s4 rfl rfl rfl (by omega) | exact xo_setb 3 rfl s4 rfl rfl rfl (by omega) | exact xo_setb 4 rfl s4 rfl rfl rfl (by omega) | exact xo_setb 5 rfl s4 rfl rfl rfl (by omega)) ?_
      rintro _ _ ⟨rfl, rfl⟩
      refine go_nil ?_
      refine gq_block_end ?_
      refine gq_next ?_
      refine gc_region ?_
      refine ne (eo_add rfl rfl rfl (by omega) (by omega)) rfl ?_
      refine ne (eo_mv rfl rfl) rfl ?_
      refine go_nil ?_
      exact round2 (x + 1) _ ⟨by omega, turn_step (by omega) (by omega) (by omega) hI⟩ (by omega) ⟨rfl, rfl, rfl, rfl, rfl, rfl, rfl, rfl, rfl, trivial⟩ (by first | exact List.Sublist.refl _ | exact List.Sublist.cons _ (List.Sublist.refl _) | exact List.Sublist.cons _ (List.Sublist.cons _ (List.Sublist.refl _)) | exact List.Sublist.cons _ (List.Sublist.cons _ (List.Sublist.cons _ (List.Sublist.refl _))) | exact List.Sublist.cons_cons _ (List.Sublist.cons _ (List.Sublist.refl _)))
    ·
      replace hc19 := of_decide_eq_false hc19
      refine gc_exit ?_
      refine gq_then_exit ?_
      refine gq_then_exit ?_
      refine gq_block_hit ?_
      refine gq_block_end ?_
      refine gq_next ?_
      refine gc_region ?_
      refine ne (eo_add rfl rfl rfl (by omega) (by omega)) rfl ?_
      refine ne (eo_mv rfl rfl) rfl ?_
      refine go_nil ?_
      exact round2 (y + 1) f1 ⟨by omega, turn_row (by omega) v6 (by omega) hI⟩ (by omega) ⟨rfl, rfl, rfl, rfl, rfl, rfl, trivial⟩ (by first | exact List.Sublist.refl _ | exact List.Sublist.cons _ (List.Sublist.refl _) | exact List.Sublist.cons _ (List.Sublist.cons _ (List.Sublist.refl _)) | exact List.Sublist.cons _ (List.Sublist.cons _ (List.Sublist.cons _ (List.Sublist.refl _))) | exact List.Sublist.cons_cons _ (List.Sublist.cons _ (List.Sublist.refl _)))
  ·
    replace hc15 := of_decide_eq_false hc15
    refine gc_exit ?_
    refine gq_then_exit ?_
    refine gq_then_exit ?_
    refine gq_block_hit ?_
    refine gq_next ?_
    refine gc_seq ?_
    refine gc_region ?_
    refine ne (eo_mv rfl rfl) rfl ?_
    refine ne (eo_as rfl rfl) rfl ?_
    refine go_nil ?_
    refine gq_next ?_
    refine gc_ret ?_
    refine gq_results (res1 rfl rfl) ?_
    rw [show tab n (bv f1) = tab n (bv (turnF wd h f)) from tabb_ext fun j hj => turn_done (by omega) (by omega) hI j hj]
    exact fun W1 hO => ⟨_, _, rfl, ⟨_, _, _, rfl, rfl, by omega⟩, hO.pick 0 rfl⟩

/-- barscan/raster.turned[uint8] -/
theorem turnedi_c (wd h : Int) (A : Option Addr) (n c : Nat) (f : Nat → Int) (w : World) (hv : vldB wd h n = true) (hr : Rd w A (tab n (iv .u8 f))) :
    Calls Try.prog 63 #[.slice A n c, .int .i64 wd, .int .i64 h] w fun e w' => ∃ v Hn, e = .returned v ∧ RS 5 n (iv .u8 (turnF wd h f)) v Hn ∧ Ow [] w w' Hn := by
  obtain ⟨v1, v2, v3, v4, v5, v6⟩ := vldB_iff.1 hv
  refine calls_enter (N := ⟨42, []⟩) ([]) ([]) Try.func63 rfl rfl rfl (Ow.start _) ?_
  refine gc_seq ?_
  refine gc_region ?_
  refine ne (eo_as rfl rfl) rfl ?_
  refine go_nil ?_
  refine gq_next ?_
  refine gc_seq ?_
  refine gc_region ?_
  refine ne (eo_mv rfl rfl) rfl ?_
  refine ne (eo_len rfl Try.underlying53 rfl) rfl ?_
  refine nx (xo_makei rfl Try.underlying53 e5 rfl rfl (by omega) (by omega) (by omega)) rfl ?_
  rintro _ _ ⟨g12, rfl, rfl⟩
  refine ne (eo_as rfl rfl) rfl ?_
  refine go_nil ?_
  refine gq_next ?_
  refine gc_seq ?_
  refine gc_seq ?_
  refine gc_region ?_
  refine ne (eo_mv rfl rfl) rfl ?_
  refine ne (eo_mv rfl rfl) rfl ?_
  refine go_nil ?_
  refine gq_next ?_
  refine gc_block ?_
  refine loop2 (fun (y : Nat) (f1 : Nat → Int) => (y : Int) ≤ h ∧ ∀ j : Nat, j < n → f1 j = if h - 1 - (j : Int) % h < (y : Int) then turnF wd h f j else 0) (fun (y : Nat) (f1 : Nat → Int) => (h - y).toNat) (fun (y : Nat) (f1 : Nat → Int) => [(0, .slice A n c), (1, .int .i64 wd), (2, .int .i64 h), (7, .slice (some ⟨g12, 0, none⟩) n n), (13, .int .i64 h), (14, .int .i64 y)]) (fun (y : Nat) (f1 : Nat → Int) => [⟨g12, 5, tab n (iv .u8 f1) ++ []⟩]) 0 (fun _ => 0) ⟨by omega, fun j _ => by rw [if_neg]; have := Int.emod_lt_of_pos (j : Int) (show 0 < h by omega); omega⟩ ⟨rfl, rfl, rfl, rfl, rfl, rfl, trivial⟩ (by first | exact List.Sublist.refl _ | exact List.Sublist.cons _ (List.Sublist.refl _) | exact List.Sublist.cons _ (List.Sublist.cons _ (List.Sublist.refl _)) | exact List.Sublist.cons _ (List.Sublist.cons _ (List.Sublist.cons _ (List.Sublist.refl _))) | exact List.Sublist.cons_cons _ (List.Sublist.cons _ (List.Sublist.refl _))) ?_
  rintro y f1 ⟨hy, hI⟩
  refine gc_seq ?_
  refine gc_region ?_
  refine ne (eo_lss rfl rfl rfl) rfl ?_
  refine go_nil ?_
  refine gq_next ?_
  refine gc_seq ?_
  refine gc_cond rfl (fun hc15 => ?_) (fun hc15 => ?_)
  ·
    replace hc15 := of_decide_eq_true hc15
    refine gc_skip ?_
    refine gq_next ?_
    refine gc_seq ?_
    refine gc_block ?_
    refine gc_seq ?_
    refine gc_region ?_
    refine ne (eo_mv rfl rfl) rfl ?_
    refine ne (eo_as rfl rfl) rfl ?_
    refine go_nil ?_
    refine gq_next ?_
    refine gc_seq ?_
    refine gc_region ?_
    refine ne (eo_mv rfl rfl) rfl ?_
    refine ne (eo_mv rfl rfl) rfl ?_
    refine go_nil ?_
    refine gq_next ?_
    refine gc_block ?_
    refine loop2 (fun (x : Nat) (f1 : Nat → Int) => (x : Int) ≤ wd ∧ ∀ j : Nat, j < n → f1 j = if h - 1 - (j : Int) % h < (y : Int) ∨ h - 1 - (j : Int) % h = (y : Int) ∧ (j : Int) / h < (x : Int) then turnF wd h f j else 0) (fun (x : Nat) (f1 : Nat → Int) => (wd - x).toNat) (fun (x : Nat) (f1 : Nat → Int) => [(0, .slice A n c), (1, .int .i64 wd), (2, .int .i64 h), (7, .slice (some ⟨g12, 0, none⟩) n n), (13, .int .i64 h), (14, .int .i64 y), (8, .int .i64 y), (17, .int .i64 wd), (18, .int .i64 x)]) (fun (x : Nat) (f1 : Nat → Int) => [⟨g12, 5, tab n (iv .u8 f1) ++ []⟩]) 0 f1 ⟨by omega, turn_in (by omega) hI⟩ ⟨rfl, rfl, rfl, rfl, rfl, rfl, rfl, rfl, rfl, trivial⟩ (by first | exact List.Sublist.refl _ | exact List.Sublist.cons _ (List.Sublist.refl _) | exact List.Sublist.cons _ (List.Sublist.cons _ (List.Sublist.refl _)) | exact List.Sublist.cons _ (List.Sublist.cons _ (List.Sublist.cons _ (List.Sublist.refl _))) | exact List.Sublist.cons_cons _ (List.Sublist.cons _ (List.Sublist.refl _))) ?_
    rintro x f1 ⟨hx, hI⟩
    refine gc_seq ?_
    refine gc_region ?_
    refine ne (eo_lss rfl rfl rfl) rfl ?_
    refine go_nil ?_
    refine gq_next ?_
    refine gc_seq ?_
    refine gc_cond rfl (fun hc19 => ?_) (fun hc19 => ?_)
    ·
      replace hc19 := of_decide_eq_true hc19
      refine gc_skip ?_
      refine gq_next ?_
      refine gc_seq ?_
      refine gc_block ?_
      refine gc_seq ?_
      refine gc_region ?_
      refine ne (eo_mv rfl rfl) rfl ?_
      refine ne (eo_as rfl rfl) rfl ?_
      refine go_nil ?_
      refine gq_next ?_
      refine gc_region ?_
      have hb := idx_bd (W := wd) (H := h) (x := x) (y := y) (by omega) (by omega) (by omega) (by omega)
      have hb2 := idx_bd (W := h) (H := wd) (x := h - 1 - y) (y := x) (by omega) (by omega) (by omega) (by omega)
      rw [Int.mul_comm h wd] at hb2
      refine ne (eo_mv rfl rfl) rfl ?_
      refine ne (eo_mv rfl rfl) rfl ?_
      refine ne (eo_mv rfl rfl) rfl ?_
      refine ne (eo_mul rfl rfl rfl (by omega) (by omega)) rfl ?_
      refine ne (eo_mv rfl rfl) rfl ?_
      refine ne (eo_add rfl rfl rfl (by omega) (by omega)) rfl ?_
      refine ne (eo_sub rfl rfl rfl (by omega) (by omega)) rfl ?_
      refine ne (eo_mv rfl rfl) rfl ?_
      refine ne (eo_sub rfl rfl rfl (by omega) (by omega)) rfl ?_
      refine ne (eo_mv rfl rfl) rfl ?_
      refine ne (eo_mv rfl rfl) rfl ?_
      refine ne (eo_mv rfl rfl) rfl ?_
      refine ne (eo_mul rfl rfl rfl (by omega) (by omega)) rfl ?_
      refine ne (eo_mv rfl rfl) rfl ?_
      refine ne (eo_add rfl rfl rfl (by omega) (by omega)) rfl ?_
      refine ne (by first | exact eo_indexR rfl sl53 rfl rfl hr (by simp) (by omega) (by omega) | exact eo_index0 rfl sl53 rfl rfl (by omega) (by omega) | exact eo_index rfl sl53 rfl rfl (by omega) (by omega)) rfl ?_
      refine ne (by first | exact eo_load_old rfl s5 rfl (Rd.tabi hr (by omega)) (by simp) | exact eo_geti 0 rfl s5 rfl rfl (by omega) | exact eo_geti 1 rfl s5 rfl rfl (by omega) | exact eo_geti 2 rfl s5 rfl rfl (by omega) | exact eo_geti 3 rfl s5 rfl rfl (by omega) | exact eo_geti 4 rfl s5 rfl rfl (by omega) | exact eo_geti 5 rfl s5 rfl rfl (by omega)) rfl ?_
      refine ne (by first | exact eo_index0 rfl sl53 rfl rfl (by omega) (by omega) | exact eo_index rfl sl53 rfl rfl (by omega) (by omega)) rfl ?_
      refine nu (by first | exact xo_seti 0 rfl s5 rfl rfl rfl (by omega) | exact xo_seti 1 rfl s5 rfl rfl rfl (by omega) | exact xo_seti 2 rfl s5 rfl rfl rfl (by omega) | exact xo_seti 3 rfl s5 rfl rfl rfl (by omega) | exact xo_seti 4 rfl s5 rfl rfl rfl (by omega) | exact xo_seti 5 rfl s5 rfl rfl rfl (by omega)) ?_
      rintro _ _ ⟨rfl, rfl⟩
      refine go_nil ?_
      refine gq_block_end ?_
      refine gq_next ?_
      refine gc_region ?_
      refine ne (eo_add rfl rfl rfl (by omega) (by omega)) rfl ?_
      refine ne (eo_mv rfl rfl) rfl ?_
      refine go_nil ?_
      exact round2 (x + 1) _ ⟨by omega, turn_step (by omega) (by omega) (by omega) hI⟩ (by omega) ⟨rfl, rfl, rfl, rfl, rfl, rfl, rfl, rfl, rfl, trivial⟩ (by first | exact List.Sublist.refl _ | exact List.Sublist.cons _ (List.Sublist.refl _) | exact List.Sublist.cons _ (List.Sublist.cons _ (List.Sublist.refl _)) | exact List.Sublist.cons _ (List.Sublist.cons _ (List.Sublist.cons _ (List.Sublist.refl _))) | exact List.Sublist.cons_cons _ (List.Sublist.cons _ (List.Sublist.refl _)))
    ·
      replace hc19 := of_decide_eq_false hc19
      refine gc_exit ?_
      refine gq_then_exit ?_
      refine gq_then_exit ?_
      refine gq_block_hit ?_
      refine gq_block_end ?_
      refine gq_next ?_
      refine gc_region ?_
      refine ne (eo_add rfl rfl rfl (by omega) (by omega)) rfl ?_
      refine ne (eo_mv rfl rfl) rfl ?_
      refine go_nil ?_
      exact round2 (y + 1) f1 ⟨by omega, turn_row (by omega) v6 (by omega) hI⟩ (by omega) ⟨rfl, rfl, rfl, rfl, rfl, rfl, trivial⟩ (by first | exact List.Sublist.refl _ | exact List.Sublist.cons _ (List.Sublist.refl _) | exact List.Sublist.cons _ (List.Sublist.cons _ (List.Sublist.refl _)) | exact List.Sublist.cons _ (List.Sublist.cons _ (List.Sublist.cons _ (List.Sublist.refl _))) | exact List.Sublist.cons_cons _ (List.Sublist.cons _ (List.Sublist.refl _)))
  ·
    replace hc15 := of_decide_eq_false hc15
    refine gc_exit ?_
    refine gq_then_exit ?_
    refine gq_then_exit ?_
    refine gq_block_hit ?_
    refine gq_next ?_
    refine gc_seq ?_
    refine gc_region ?_
    refine ne (eo_mv rfl rfl) rfl ?_
    refine ne (eo_as rfl rfl) rfl ?_
    refine go_nil ?_
    refine gq_next ?_
    refine gc_ret ?_
    refine gq_results (res1 rfl rfl) ?_
    rw [show tab n (iv .u8 f1) = tab n (iv .u8 (turnF wd h f)) from tabi_ext fun j hj => turn_done (by omega) (by omega) hI j hj]
    exact fun W1 hO => ⟨_, _, rfl, ⟨_, _, _, rfl, rfl, by omega⟩, hO.pick 0 rfl⟩

/-- barscan/raster.Turn -/
theorem turn_ok (t W H : Int) (A : Option Addr) (n c : Nat) (f : Nat → Bool) (w : World) (hr : Rd w A (tab n (bv f))) (hv : vldB W H n = true) :
    Calls Try.prog 24 #[.agg #[.int .i64 W, .int .i64 H, .slice A n c], .int .i64 t] w fun e w' => ∃ v Hn, e = .returned v ∧ RE 4 (tW (t % 4).toNat W H) (tW (t % 4).toNat H W) n (tF (t % 4).toNat W H f) v Hn ∧ Ow [] w w' Hn := by
  obtain ⟨v1, v2, v3, v4, v5, v6⟩ := vldB_iff.1 hv
  have hb := fits_bd (a := W) (b := H) (by simp only [vldB, Bool.and_eq_true] at hv; exact hv.1)
  refine calls_enter (N := ⟨35, []⟩) ([]) ([]) Try.func24 rfl rfl rfl (Ow.start _) ?_
  refine gc_seq ?_
  refine gc_region ?_
  refine nx (xo_boxA rfl rfl) rfl ?_
  rintro _ _ ⟨g2, rfl, rfl⟩
  refine nx (xo_alloc rfl z24) rfl ?_
  rintro _ _ ⟨g4, rfl, rfl⟩
  refine ne (eo_as rfl rfl) rfl ?_
  refine go_nil ?_
  refine gq_next ?_
  refine gc_seq ?_
  refine gc_seq ?_
  refine gc_region ?_
  refine ne (by first | exact eo_loadA 0 rfl a24 rfl rfl rfl rfl | exact eo_loadA 1 rfl a24 rfl rfl rfl rfl | exact eo_loadA 2 rfl a24 rfl rfl rfl rfl | exact eo_loadA 3 rfl a24 rfl rfl rfl rfl | exact eo_loadA 4 rfl a24 rfl rfl rfl rfl | exact eo_loadA 5 rfl a24 rfl rfl rfl rfl) rfl ?_
  refine ne (eo_call rfl en23 rfl (fun W _ => check_c _ _ _ _ _ W)) rfl ?_
  refine ne (eo_as rfl rfl) rfl ?_
  refine go_nil ?_
  refine gq_next ?_
  refine gc_seq ?_
  refine gc_region ?_
  refine ne (eo_mv rfl rfl) rfl ?_
  refine ne (eo_neq rfl rfl rfl) rfl ?_
  refine go_nil ?_
  refine gq_next ?_
  refine gc_cond rfl (fun hc10 => ?_) (fun hc10 => ?_)
  ·
    replace hc10 := of_decide_eq_true hc10
    exact absurd hc10 (by rw [chk_ok hv]; decide)
  ·
    replace hc10 := of_decide_eq_false hc10
    refine gc_skip ?_
    refine gq_next ?_
    refine gc_seq ?_
    refine gc_region ?_
    refine ne (eo_field rfl f24_2 rfl) rfl ?_
    refine ne (by first | exact eo_load 0 rfl s22 rfl rfl rfl rfl | exact eo_load 1 rfl s22 rfl rfl rfl rfl | exact eo_load 2 rfl s22 rfl rfl rfl rfl | exact eo_load 3 rfl s22 rfl rfl rfl rfl | exact eo_load 4 rfl s22 rfl rfl rfl rfl | exact eo_load 5 rfl s22 rfl rfl rfl rfl) rfl ?_
    refine nx (xo_fresh rfl en53 rfl (fun W hO => clone_c _ _ _ _ W (hr.old0 hO) (by simp) tab_oneb (by omega))) rfl ?_
    rintro _ _ ⟨_, hRa, rfl⟩
    obtain ⟨gk, ck, spk, rfl, rfl, hck⟩ := RApp.at_ hRa (by omega)
    refine ne (eo_field rfl f24_2 rfl) rfl ?_
    refine nu (by first | exact xo_store 0 rfl s22 rfl rfl (by first | rfl | exact AS.one) rfl rfl (by simp) | exact xo_store 1 rfl s22 rfl rfl (by first | rfl | exact AS.one) rfl rfl (by simp) | exact xo_store 2 rfl s22 rfl rfl (by first | rfl | exact AS.one) rfl rfl (by simp) | exact xo_store 3 rfl s22 rfl rfl (by first | rfl | exact AS.one) rfl rfl (by simp) | exact xo_store 4 rfl s22 rfl rfl (by first | rfl | exact AS.one) rfl rfl (by simp) | exact xo_store 5 rfl s22 rfl rfl (by first | rfl | exact AS.one) rfl rfl (by simp)) ?_
    rintro _ _ ⟨rfl, rfl⟩
    refine go_nil ?_
    refine gq_next ?_
    refine gc_seq ?_
    refine gc_seq ?_
    refine gc_region ?_
    refine ne (eo_mv rfl rfl) rfl ?_
    refine ne (eo_call rfl en54 rfl (fun W _ => quarters_c _ W)) rfl ?_
    refine ne (eo_mv rfl rfl) rfl ?_
    refine go_nil ?_
    refine gq_next ?_
    refine gc_block ?_
    refine loop4 (fun (i gk ck : Nat) (sp : List Value) => (i : Int) ≤ t % 4 ∧ n ≤ ck) (fun (i gk ck : Nat) (sp : List Value) => (t % 4 - i).toNat) (fun (i gk ck : Nat) (sp : List Value) => [(2, .pointer (some ⟨g2, 0, none⟩)), (4, .pointer (some ⟨g4, 0, none⟩)), (18, .int .i64 (t % 4)), (19, .int .i64 i)]) (fun (i gk ck : Nat) (sp : List Value) => [⟨gk, 4, tab n (bv (tF i W H f)) ++ sp⟩, ⟨g4, 24, [.int .i64 0, .int .i64 0, .slice none 0 0]⟩, ⟨g2, 24, [.int .i64 (tW i W H), .int .i64 (tW i H W), .slice (some ⟨gk, 0, none⟩) n ck]⟩]) 0 gk ck spk ⟨by omega, hck⟩ ⟨rfl, rfl, rfl, rfl, trivial⟩ (by first | exact List.Sublist.refl _ | exact List.Sublist.cons _ (List.Sublist.refl _) | exact List.Sublist.cons _ (List.Sublist.cons _ (List.Sublist.refl _)) | exact List.Sublist.cons _ (List.Sublist.cons _ (List.Sublist.cons _ (List.Sublist.refl _))) | exact List.Sublist.cons_cons _ (List.Sublist.cons _ (List.Sublist.refl _))) ?_
    rintro i gk ck sp ⟨hi, hck⟩
    refine gc_seq ?_
    refine gc_region ?_
    refine ne (eo_lss rfl rfl rfl) rfl ?_
    refine go_nil ?_
    refine gq_next ?_
    refine gc_seq ?_
    refine gc_cond rfl (fun hc20 => ?_) (fun hc20 => ?_)
    ·
      replace hc20 := of_decide_eq_true hc20
      refine gc_skip ?_
      refine gq_next ?_
      refine gc_seq ?_
      refine gc_block ?_
      refine gc_draw [] [0, 1, 2, 3, 4, 5, 6, 7, 8, 9] [10, 11] [12] (by kernel_rfl) (by kernel_rfl) ?_
      refine gp_nil ?_
      refine de rfl (eo_field rfl f24_1 rfl) rfl ?_
      refine de rfl (by first | exact eo_load 0 rfl s3 rfl rfl rfl rfl | exact eo_load 1 rfl s3 rfl rfl rfl rfl | exact eo_load 2 rfl s3 rfl rfl rfl rfl | exact eo_load 3 rfl s3 rfl rfl rfl rfl | exact eo_load 4 rfl s3 rfl rfl rfl rfl | exact eo_load 5 rfl s3 rfl rfl rfl rfl) rfl ?_
      refine de rfl (eo_field rfl f24_0 rfl) rfl ?_
      refine de rfl (by first | exact eo_load 0 rfl s3 rfl rfl rfl rfl | exact eo_load 1 rfl s3 rfl rfl rfl rfl | exact eo_load 2 rfl s3 rfl rfl rfl rfl | exact eo_load 3 rfl s3 rfl rfl rfl rfl | exact eo_load 4 rfl s3 rfl rfl rfl rfl | exact eo_load 5 rfl s3 rfl rfl rfl rfl) rfl ?_
      refine de rfl (eo_field rfl f24_2 rfl) rfl ?_
      refine de rfl (by first | exact eo_load 0 rfl s22 rfl rfl rfl rfl | exact eo_load 1 rfl s22 rfl rfl rfl rfl | exact eo_load 2 rfl s22 rfl rfl rfl rfl | exact eo_load 3 rfl s22 rfl rfl rfl rfl | exact eo_load 4 rfl s22 rfl rfl rfl rfl | exact eo_load 5 rfl s22 rfl rfl rfl rfl) rfl ?_
      refine de rfl (eo_field rfl f24_0 rfl) rfl ?_
      refine de rfl (by first | exact eo_load 0 rfl s3 rfl rfl rfl rfl | exact eo_load 1 rfl s3 rfl rfl rfl rfl | exact eo_load 2 rfl s3 rfl rfl rfl rfl | exact eo_load 3 rfl s3 rfl rfl rfl rfl | exact eo_load 4 rfl s3 rfl rfl rfl rfl | exact eo_load 5 rfl s3 rfl rfl rfl rfl) rfl ?_
      refine de rfl (eo_field rfl f24_1 rfl) rfl ?_
      refine de rfl (by first | exact eo_load 0 rfl s3 rfl rfl rfl rfl | exact eo_load 1 rfl s3 rfl rfl rfl rfl | exact eo_load 2 rfl s3 rfl rfl rfl rfl | exact eo_load 3 rfl s3 rfl rfl rfl rfl | exact eo_load 4 rfl s3 rfl rfl rfl rfl | exact eo_load 5 rfl s3 rfl rfl rfl rfl) rfl ?_
      refine ge_nil ?_
      refine da rfl (xo_fresh rfl en55 rfl (fun W' hO => turned_c _ _ _ _ _ _ W' (vld_turns hv) (tabs_rd hO 0 rfl))) rfl ?_
      rintro _ _ ⟨_, ⟨g2k, c2k, sp2, rfl, rfl, h2k⟩, rfl⟩
      refine ⟨(by first | exact List.Sublist.refl _ | exact List.Sublist.cons _ (List.Sublist.refl _) | exact List.Sublist.cons _ (List.Sublist.cons _ (List.Sublist.refl _)) | exact List.Sublist.cons _ (List.Sublist.cons _ (List.Sublist.cons _ (List.Sublist.refl _))) | exact List.Sublist.cons_cons _ (List.Sublist.cons _ (List.Sublist.refl _))), ?_⟩
      refine da rfl (xo_of_eo (eo_build rfl rfl (b24_012 _ _ _ _ _))) rfl ?_
      rintro _ _ ⟨rfl, rfl⟩
      refine ⟨(by first | exact List.Sublist.refl _ | exact List.Sublist.cons _ (List.Sublist.refl _) | exact List.Sublist.cons _ (List.Sublist.cons _ (List.Sublist.refl _)) | exact List.Sublist.cons _ (List.Sublist.cons _ (List.Sublist.cons _ (List.Sublist.refl _))) | exact List.Sublist.cons_cons _ (List.Sublist.cons _ (List.Sublist.refl _))), ?_⟩
      refine ga_nil ?_
      refine iu rfl (by first | exact xo_storeA 0 rfl a24 rfl rfl (ones_cons (by first | rfl | exact AS.one) (ones_cons (by first | rfl | exact AS.one) (ones_cons (by first | rfl | exact AS.one) ones_nil))) rfl rfl rfl rfl | exact xo_storeA 1 rfl a24 rfl rfl (ones_cons (by first | rfl | exact AS.one) (ones_cons (by first | rfl | exact AS.one) (ones_cons (by first | rfl | exact AS.one) ones_nil))) rfl rfl rfl rfl | exact xo_storeA 2 rfl a24 rfl rfl (ones_cons (by first | rfl | exact AS.one) (ones_cons (by first | rfl | exact AS.one) (ones_cons (by first | rfl | exact AS.one) ones_nil))) rfl rfl rfl rfl | exact xo_storeA 3 rfl a24 rfl rfl (ones_cons (by first | rfl | exact AS.one) (ones_cons (by first | rfl | exact AS.one) (ones_cons (by first | rfl | exact AS.one) ones_nil))) rfl rfl rfl rfl | exact xo_storeA 4 rfl a24 rfl rfl (ones_cons (by first | rfl | exact AS.one) (ones_cons (by first | rfl | exact AS.one) (ones_cons (by first | rfl | exact AS.one) ones_nil))) rfl rfl rfl rfl | exact xo_storeA 5 rfl a24 rfl rfl (ones_cons (by first | rfl | exact AS.one) (ones_cons (by first | rfl | exact AS.one) (ones_cons (by first | rfl | exact AS.one) ones_nil))) rfl rfl rfl rfl) ?_
      rintro _ _ ⟨rfl, rfl⟩
      refine gi_nil ?_
      refine gq_nq ?_
      refine gq_block_end ?_
      refine gq_next ?_
      refine gc_region ?_
      refine ne (eo_add rfl rfl rfl (by omega) (by omega)) rfl ?_
      refine ne (eo_mv rfl rfl) rfl ?_
      refine go_nil ?_
      exact round4 (i + 1) g2k c2k sp2 ⟨by omega, h2k⟩ (by omega) ⟨rfl, rfl, rfl, rfl, trivial⟩ (by first | exact List.Sublist.refl _ | exact List.Sublist.cons _ (List.Sublist.refl _) | exact List.Sublist.cons _ (List.Sublist.cons _ (List.Sublist.refl _)) | exact List.Sublist.cons _ (List.Sublist.cons _ (List.Sublist.cons _ (List.Sublist.refl _))) | exact List.Sublist.cons_cons _ (List.Sublist.cons _ (List.Sublist.refl _)))
    ·
      replace hc20 := of_decide_eq_false hc20
      have hie : (t % 4).toNat = i := by omega
      rw [hie]
      refine gc_exit ?_
      refine gq_then_exit ?_
      refine gq_then_exit ?_
      refine gq_block_hit ?_
      refine gq_next ?_
      refine gc_seq ?_
      refine gc_region ?_
      refine ne (by first | exact eo_loadA 0 rfl a24 rfl rfl rfl rfl | exact eo_loadA 1 rfl a24 rfl rfl rfl rfl | exact eo_loadA 2 rfl a24 rfl rfl rfl rfl | exact eo_loadA 3 rfl a24 rfl rfl rfl rfl | exact eo_loadA 4 rfl a24 rfl rfl rfl rfl | exact eo_loadA 5 rfl a24 rfl rfl rfl rfl) rfl ?_
      refine nu (by first | exact xo_storeA 0 rfl a24 rfl rfl (ones_cons (by first | rfl | exact AS.one) (ones_cons (by first | rfl | exact AS.one) (ones_cons (by first | rfl | exact AS.one) ones_nil))) rfl rfl rfl rfl | exact xo_storeA 1 rfl a24 rfl rfl (ones_cons (by first | rfl | exact AS.one) (ones_cons (by first | rfl | exact AS.one) (ones_cons (by first | rfl | exact AS.one) ones_nil))) rfl rfl rfl rfl | exact xo_storeA 2 rfl a24 rfl rfl (ones_cons (by first | rfl | exact AS.one) (ones_cons (by first | rfl | exact AS.one) (ones_cons (by first | rfl | exact AS.one) ones_nil))) rfl rfl rfl rfl | exact xo_storeA 3 rfl a24 rfl rfl (ones_cons (by first | rfl | exact AS.one) (ones_cons (by first | rfl | exact AS.one) (ones_cons (by first | rfl | exact AS.one) ones_nil))) rfl rfl rfl rfl | exact xo_storeA 4 rfl a24 rfl rfl (ones_cons (by first | rfl | exact AS.one) (ones_cons (by first | rfl | exact AS.one) (ones_cons (by first | rfl | exact AS.one) ones_nil))) rfl rfl rfl rfl | exact xo_storeA 5 rfl a24 rfl rfl (ones_cons (by first | rfl | exact AS.one) (ones_cons (by first | rfl | exact AS.one) (ones_cons (by first | rfl | exact AS.one) ones_nil))) rfl rfl rfl rfl) ?_
      rintro _ _ ⟨rfl, rfl⟩
      refine ne (eo_as rfl rfl) rfl ?_
      refine go_nil ?_
      refine gq_next ?_
      refine gc_ret ?_
      refine gq_results (by first | exact resCT 0 rfl a24 rfl rfl rfl rfl rfl | exact resCT 1 rfl a24 rfl rfl rfl rfl rfl | exact resCT 2 rfl a24 rfl rfl rfl rfl rfl | exact resCT 3 rfl a24 rfl rfl rfl rfl rfl | exact resCT 4 rfl a24 rfl rfl rfl rfl rfl | exact resCT 5 rfl a24 rfl rfl rfl rfl rfl) ?_
      exact fun W' hO => ⟨_, _, rfl, ⟨_, _, _, rfl, rfl, by omega⟩, hO.pick 0 rfl⟩

/-- barscan/raster.Turn -/
theorem turn_no (t W H : Int) (A : Option Addr) (n c : Nat) (f : Nat → Bool) (w : World) (_hr : Rd w A (tab n (bv f))) (hv : vldB W H n = false) :
    Calls Try.prog 24 #[.agg #[.int .i64 W, .int .i64 H, .slice A n c], .int .i64 t] w fun e w' => e = .returned (noM 1) ∧ Ext w w' := by
  refine calls_enter (N := ⟨35, []⟩) ([]) ([]) Try.func24 rfl rfl rfl (Ow.start _) ?_
  refine gc_seq ?_
  refine gc_region ?_
  refine nx (xo_boxA rfl rfl) rfl ?_
  rintro _ _ ⟨g2, rfl, rfl⟩
  refine nx (xo_alloc rfl z24) rfl ?_
  rintro _ _ ⟨g4, rfl, rfl⟩
  refine ne (eo_as rfl rfl) rfl ?_
  refine go_nil ?_
  refine gq_next ?_
  refine gc_seq ?_
  refine gc_seq ?_
  refine gc_region ?_
  refine ne (by first | exact eo_loadA 0 rfl a24 rfl rfl rfl rfl | exact eo_loadA 1 rfl a24 rfl rfl rfl rfl | exact eo_loadA 2 rfl a24 rfl rfl rfl rfl | exact eo_loadA 3 rfl a24 rfl rfl rfl rfl | exact eo_loadA 4 rfl a24 rfl rfl rfl rfl | exact eo_loadA 5 rfl a24 rfl rfl rfl rfl) rfl ?_
  refine ne (eo_call rfl en23 rfl (fun W _ => check_c _ _ _ _ _ W)) rfl ?_
  refine ne (eo_as rfl rfl) rfl ?_
  refine go_nil ?_
  refine gq_next ?_
  refine gc_seq ?_
  refine gc_region ?_
  refine ne (eo_mv rfl rfl) rfl ?_
  refine ne (eo_neq rfl rfl rfl) rfl ?_
  refine go_nil ?_
  refine gq_next ?_
  refine gc_cond rfl (fun hc10 => ?_) (fun hc10 => ?_)
  ·
    replace hc10 := of_decide_eq_true hc10
    refine gc_seq ?_
    refine gc_region ?_
    refine ne (eo_build rfl rfl (b24_)) rfl ?_
    refine ne (eo_mv rfl rfl) rfl ?_
    refine nu (by first | exact xo_storeA 0 rfl a24 rfl rfl (ones_cons (by first | rfl | exact AS.one) (ones_cons (by first | rfl | exact AS.one) (ones_cons (by first | rfl | exact AS.one) ones_nil))) rfl rfl rfl rfl | exact xo_storeA 1 rfl a24 rfl rfl (ones_cons (by first | rfl | exact AS.one) (ones_cons (by first | rfl | exact AS.one) (ones_cons (by first | rfl | exact AS.one) ones_nil))) rfl rfl rfl rfl | exact xo_storeA 2 rfl a24 rfl rfl (ones_cons (by first | rfl | exact AS.one) (ones_cons (by first | rfl | exact AS.one) (ones_cons (by first | rfl | exact AS.one) ones_nil))) rfl rfl rfl rfl | exact xo_storeA 3 rfl a24 rfl rfl (ones_cons (by first | rfl | exact AS.one) (ones_cons (by first | rfl | exact AS.one) (ones_cons (by first | rfl | exact AS.one) ones_nil))) rfl rfl rfl rfl | exact xo_storeA 4 rfl a24 rfl rfl (ones_cons (by first | rfl | exact AS.one) (ones_cons (by first | rfl | exact AS.one) (ones_cons (by first | rfl | exact AS.one) ones_nil))) rfl rfl rfl rfl | exact xo_storeA 5 rfl a24 rfl rfl (ones_cons (by first | rfl | exact AS.one) (ones_cons (by first | rfl | exact AS.one) (ones_cons (by first | rfl | exact AS.one) ones_nil))) rfl rfl rfl rfl) ?_
    rintro _ _ ⟨rfl, rfl⟩
    refine ne (eo_as rfl rfl) rfl ?_
    refine go_nil ?_
    refine gq_next ?_
    refine gc_ret ?_
    refine gq_then_ret ?_
    refine gq_results (by first | exact resCT 0 rfl a24 rfl rfl rfl rfl rfl | exact resCT 1 rfl a24 rfl rfl rfl rfl rfl | exact resCT 2 rfl a24 rfl rfl rfl rfl rfl | exact resCT 3 rfl a24 rfl rfl rfl rfl rfl | exact resCT 4 rfl a24 rfl rfl rfl rfl rfl | exact resCT 5 rfl a24 rfl rfl rfl rfl rfl) ?_
    exact fun W' hO => ⟨by rw [chk_no hv]; rfl, hO.toExt⟩
  ·
    replace hc10 := of_decide_eq_false hc10
    exact absurd hc10 (by rw [chk_no hv]; decide)

/-- barscan/raster.TurnImage -/
theorem turnim_ok (t W H : Int) (A : Option Addr) (n c : Nat) (f : Nat → Int) (w : World) (hr : Rd w A (tab n (iv .u8 f))) (hv : vldB W H n = true) :
    Calls Try.prog 40 #[.agg #[.int .i64 W, .int .i64 H, .slice A n c], .int .i64 t] w fun e w' => ∃ v Hn, e = .returned v ∧ REi 5 (tW (t % 4).toNat W H) (tW (t % 4).toNat H W) n (tF (t % 4).toNat W H f) v Hn ∧ Ow [] w w' Hn := by
  obtain ⟨v1, v2, v3, v4, v5, v6⟩ := vldB_iff.1 hv
  have hb := fits_bd (a := W) (b := H) (by simp only [vldB, Bool.and_eq_true] at hv; exact hv.1)
  refine calls_enter (N := ⟨35, []⟩) ([]) ([]) Try.func40 rfl rfl rfl (Ow.start _) ?_
  refine gc_seq ?_
  refine gc_region ?_
  refine nx (xo_boxA rfl rfl) rfl ?_
  rintro _ _ ⟨g2, rfl, rfl⟩
  refine nx (xo_alloc rfl z55) rfl ?_
  rintro _ _ ⟨g4, rfl, rfl⟩
  refine ne (eo_as rfl rfl) rfl ?_
  refine go_nil ?_
  refine gq_next ?_
  refine gc_seq ?_
  refine gc_seq ?_
  refine gc_region ?_
  refine ne (by first | exact eo_loadA 0 rfl a55 rfl rfl rfl rfl | exact eo_loadA 1 rfl a55 rfl rfl rfl rfl | exact eo_loadA 2 rfl a55 rfl rfl rfl rfl | exact eo_loadA 3 rfl a55 rfl rfl rfl rfl | exact eo_loadA 4 rfl a55 rfl rfl rfl rfl | exact eo_loadA 5 rfl a55 rfl rfl rfl rfl) rfl ?_
  refine ne (eo_call rfl en29 rfl (fun W _ => checkim_c _ _ _ _ _ W)) rfl ?_
  refine ne (eo_as rfl rfl) rfl ?_
  refine go_nil ?_
  refine gq_next ?_
  refine gc_seq ?_
  refine gc_region ?_
  refine ne (eo_mv rfl rfl) rfl ?_
  refine ne (eo_neq rfl rfl rfl) rfl ?_
  refine go_nil ?_
  refine gq_next ?_
  refine gc_cond rfl (fun hc10 => ?_) (fun hc10 => ?_)
  ·
    replace hc10 := of_decide_eq_true hc10
    exact absurd hc10 (by rw [chk_ok hv]; decide)
  ·
    replace hc10 := of_decide_eq_false hc10
    refine gc_skip ?_
    refine gq_next ?_
    refine gc_seq ?_
    refine gc_region ?_
    refine ne (eo_field rfl f55_2 rfl) rfl ?_
    refine ne (by first | exact eo_load 0 rfl s53 rfl rfl rfl rfl | exact eo_load 1 rfl s53 rfl rfl rfl rfl | exact eo_load 2 rfl s53 rfl rfl rfl rfl | exact eo_load 3 rfl s53 rfl rfl rfl rfl | exact eo_load 4 rfl s53 rfl rfl rfl rfl | exact eo_load 5 rfl s53 rfl rfl rfl rfl) rfl ?_
    refine nx (xo_fresh rfl en62 rfl (fun W hO => clonei_c _ _ _ _ W (hr.old0 hO) (by simp) tab_onei (by omega))) rfl ?_
    rintro _ _ ⟨_, hRa, rfl⟩
    obtain ⟨gk, ck, spk, rfl, rfl, hck⟩ := RApp.at_ hRa (by omega)
    refine ne (eo_field rfl f55_2 rfl) rfl ?_
    refine nu (by first | exact xo_store 0 rfl s53 rfl rfl (by first | rfl | exact AS.one) rfl rfl (by simp) | exact xo_store 1 rfl s53 rfl rfl (by first | rfl | exact AS.one) rfl rfl (by simp) | exact xo_store 2 rfl s53 rfl rfl (by first | rfl | exact AS.one) rfl rfl (by simp) | exact xo_store 3 rfl s53 rfl rfl (by first | rfl | exact AS.one) rfl rfl (by simp) | exact xo_store 4 rfl s53 rfl rfl (by first | rfl | exact AS.one) rfl rfl (by simp) | exact xo_store 5 rfl s53 rfl rfl (by first | rfl | exact AS.one) rfl rfl (by simp)) ?_
    rintro _ _ ⟨rfl, rfl⟩
    refine go_nil ?_
    refine gq_next ?_
    refine gc_seq ?_
    refine gc_seq ?_
    refine gc_region ?_
    refine ne (eo_mv rfl rfl) rfl ?_
    refine ne (eo_call rfl en54 rfl (fun W _ => quarters_c _ W)) rfl ?_
    refine ne (eo_mv rfl rfl) rfl ?_
    refine go_nil ?_
    refine gq_next ?_
    refine gc_block ?_
    refine loop4 (fun (i gk ck : Nat) (sp : List Value) => (i : Int) ≤ t % 4 ∧ n ≤ ck) (fun (i gk ck : Nat) (sp : List Value) => (t % 4 - i).toNat) (fun (i gk ck : Nat) (sp : List Value) => [(2, .pointer (some ⟨g2, 0, none⟩)), (4, .pointer (some ⟨g4, 0, none⟩)), (18, .int .i64 (t % 4)), (19, .int .i64 i)]) (fun (i gk ck : Nat) (sp : List Value) => [⟨gk, 5, tab n (iv .u8 (tF i W H f)) ++ sp⟩, ⟨g4, 55, [.int .i64 0, .int .i64 0, .slice none 0 0]⟩, ⟨g2, 55, [.int .i64 (tW i W H), .int .i64 (tW i H W), .slice (some ⟨gk, 0, none⟩) n ck]⟩]) 0 gk ck spk ⟨by omega, hck⟩ ⟨rfl, rfl, rfl, rfl, trivial⟩ (by first | exact List.Sublist.refl _ | exact List.Sublist.cons _ (List.Sublist.refl _) | exact List.Sublist.cons _ (List.Sublist.cons _ (List.Sublist.refl _)) | exact List.Sublist.cons _ (List.Sublist.cons _ (List.Sublist.cons _ (List.Sublist.refl _))) | exact List.Sublist.cons_cons _ (List.Sublist.cons _ (List.Sublist.refl _))) ?_
    rintro i gk ck sp ⟨hi, hck⟩
    refine gc_seq ?_
    refine gc_region ?_
    refine ne (eo_lss rfl rfl rfl) rfl ?_
    refine go_nil ?_
    refine gq_next ?_
    refine gc_seq ?_
    refine gc_cond rfl (fun hc20 => ?_) (fun hc20 => ?_)
    ·
      replace hc20 := of_decide_eq_true hc20
      refine gc_skip ?_
      refine gq_next ?_
      refine gc_seq ?_
      refine gc_block ?_
      refine gc_draw [] [0, 1, 2, 3, 4, 5, 6, 7, 8, 9] [10, 11] [12] (by kernel_rfl) (by kernel_rfl) ?_
      refine gp_nil ?_
      refine de rfl (eo_field rfl f55_1 rfl) rfl ?_
      refine de rfl (by first | exact eo_load 0 rfl s3 rfl rfl rfl rfl | exact eo_load 1 rfl s3 rfl rfl rfl rfl | exact eo_load 2 rfl s3 rfl rfl rfl rfl | exact eo_load 3 rfl s3 rfl rfl rfl rfl | exact eo_load 4 rfl s3 rfl rfl rfl rfl | exact eo_load 5 rfl s3 rfl rfl rfl rfl) rfl ?_
      refine de rfl (eo_field rfl f55_0 rfl) rfl ?_
      refine de rfl (by first | exact eo_load 0 rfl s3 rfl rfl rfl rfl | exact eo_load 1 rfl s3 rfl rfl rfl rfl | exact eo_load 2 rfl s3 rfl rfl rfl rfl | exact eo_load 3 rfl s3 rfl rfl rfl rfl | exact eo_load 4 rfl s3 rfl rfl rfl rfl | exact eo_load 5 rfl s3 rfl rfl rfl rfl) rfl ?_
      refine de rfl (eo_field rfl f55_2 rfl) rfl ?_
      refine de rfl (by first | exact eo_load 0 rfl s53 rfl rfl rfl rfl | exact eo_load 1 rfl s53 rfl rfl rfl rfl | exact eo_load 2 rfl s53 rfl rfl rfl rfl | exact eo_load 3 rfl s53 rfl rfl rfl rfl | exact eo_load 4 rfl s53 rfl rfl rfl rfl | exact eo_load 5 rfl s53 rfl rfl rfl rfl) rfl ?_
      refine de rfl (eo_field rfl f55_0 rfl) rfl ?_
      refine de rfl (by first | exact eo_load 0 rfl s3 rfl rfl rfl rfl | exact eo_load 1 rfl s3 rfl rfl rfl rfl | exact eo_load 2 rfl s3 rfl rfl rfl rfl | exact eo_load 3 rfl s3 rfl rfl rfl rfl | exact eo_load 4 rfl s3 rfl rfl rfl rfl | exact eo_load 5 rfl s3 rfl rfl rfl rfl) rfl ?_
      refine de rfl (eo_field rfl f55_1 rfl) rfl ?_
      refine de rfl (by first | exact eo_load 0 rfl s3 rfl rfl rfl rfl | exact eo_load 1 rfl s3 rfl rfl rfl rfl | exact eo_load 2 rfl s3 rfl rfl rfl rfl | exact eo_load 3 rfl s3 rfl rfl rfl rfl | exact eo_load 4 rfl s3 rfl rfl rfl rfl | exact eo_load 5 rfl s3 rfl rfl rfl rfl) rfl ?_
      refine ge_nil ?_
      refine da rfl (xo_fresh rfl en63 rfl (fun W' hO => turnedi_c _ _ _ _ _ _ W' (vld_turns hv) (tabs_rd hO 0 rfl))) rfl ?_
      rintro _ _ ⟨_, ⟨g2k, c2k, sp2, rfl, rfl, h2k⟩, rfl⟩
      refine ⟨(by first | exact List.Sublist.refl _ | exact List.Sublist.cons _ (List.Sublist.refl _) | exact List.Sublist.cons _ (List.Sublist.cons _ (List.Sublist.refl _)) | exact List.Sublist.cons _ (List.Sublist.cons _ (List.Sublist.cons _ (List.Sublist.refl _))) | exact List.Sublist.cons_cons _ (List.Sublist.cons _ (List.Sublist.refl _))), ?_⟩
      refine da rfl (xo_of_eo (eo_build rfl rfl (b55_012 _ _ _ _ _))) rfl ?_
      rintro _ _ ⟨rfl, rfl⟩
      refine ⟨(by first | exact List.Sublist.refl _ | exact List.Sublist.cons _ (List.Sublist.refl _) | exact List.Sublist.cons _ (List.Sublist.cons _ (List.Sublist.refl _)) | exact List.Sublist.cons _ (List.Sublist.cons _ (List.Sublist.cons _ (List.Sublist.refl _))) | exact List.Sublist.cons_cons _ (List.Sublist.cons _ (List.Sublist.refl _))), ?_⟩
      refine ga_nil ?_
      refine iu rfl (by first | exact xo_storeA 0 rfl a55 rfl rfl (ones_cons (by first | rfl | exact AS.one) (ones_cons (by first | rfl | exact AS.one) (ones_cons (by first | rfl | exact AS.one) ones_nil))) rfl rfl rfl rfl | exact xo_storeA 1 rfl a55 rfl rfl (ones_cons (by first | rfl | exact AS.one) (ones_cons (by first | rfl | exact AS.one) (ones_cons (by first | rfl | exact AS.one) ones_nil))) rfl rfl rfl rfl | exact xo_storeA 2 rfl a55 rfl rfl (ones_cons (by first | rfl | exact AS.one) (ones_cons (by first | rfl | exact AS.one) (ones_cons (by first | rfl | exact AS.one) ones_nil))) rfl rfl rfl rfl | exact xo_storeA 3 rfl a55 rfl rfl (ones_cons (by first | rfl | exact AS.one) (ones_cons (by first | rfl | exact AS.one) (ones_cons (by first | rfl | exact AS.one) ones_nil))) rfl rfl rfl rfl | exact xo_storeA 4 rfl a55 rfl rfl (ones_cons (by first | rfl | exact AS.one) (ones_cons (by first | rfl | exact AS.one) (ones_cons (by first | rfl | exact AS.one) ones_nil))) rfl rfl rfl rfl | exact xo_storeA 5 rfl a55 rfl rfl (ones_cons (by first | rfl | exact AS.one) (ones_cons (by first | rfl | exact AS.one) (ones_cons (by first | rfl | exact AS.one) ones_nil))) rfl rfl rfl rfl) ?_
      rintro _ _ ⟨rfl, rfl⟩
      refine gi_nil ?_
      refine gq_nq ?_
      refine gq_block_end ?_
      refine gq_next ?_
      refine gc_region ?_
      refine ne (eo_add rfl rfl rfl (by omega) (by omega)) rfl ?_
      refine ne (eo_mv rfl rfl) rfl ?_
      refine go_nil ?_
      exact round4 (i + 1) g2k c2k sp2 ⟨by omega, h2k⟩ (by omega) ⟨rfl, rfl, rfl, rfl, trivial⟩ (by first | exact List.Sublist.refl _ | exact List.Sublist.cons _ (List.Sublist.refl _) | exact List.Sublist.cons _ (List.Sublist.cons _ (List.Sublist.refl _)) | exact List.Sublist.cons _ (List.Sublist.cons _ (List.Sublist.cons _ (List.Sublist.refl _))) | exact List.Sublist.cons_cons _ (List.Sublist.cons _ (List.Sublist.refl _)))
    ·
      replace hc20 := of_decide_eq_false hc20
      have hie : (t % 4).toNat = i := by omega
      rw [hie]
      refine gc_exit ?_
      refine gq_then_exit ?_
      refine gq_then_exit ?_
      refine gq_block_hit ?_
      refine gq_next ?_
      refine gc_seq ?_
      refine gc_region ?_
      refine ne (by first | exact eo_loadA 0 rfl a55 rfl rfl rfl rfl | exact eo_loadA 1 rfl a55 rfl rfl rfl rfl | exact eo_loadA 2 rfl a55 rfl rfl rfl rfl | exact eo_loadA 3 rfl a55 rfl rfl rfl rfl | exact eo_loadA 4 rfl a55 rfl rfl rfl rfl | exact eo_loadA 5 rfl a55 rfl rfl rfl rfl) rfl ?_
      refine nu (by first | exact xo_storeA 0 rfl a55 rfl rfl (ones_cons (by first | rfl | exact AS.one) (ones_cons (by first | rfl | exact AS.one) (ones_cons (by first | rfl | exact AS.one) ones_nil))) rfl rfl rfl rfl | exact xo_storeA 1 rfl a55 rfl rfl (ones_cons (by first | rfl | exact AS.one) (ones_cons (by first | rfl | exact AS.one) (ones_cons (by first | rfl | exact AS.one) ones_nil))) rfl rfl rfl rfl | exact xo_storeA 2 rfl a55 rfl rfl (ones_cons (by first | rfl | exact AS.one) (ones_cons (by first | rfl | exact AS.one) (ones_cons (by first | rfl | exact AS.one) ones_nil))) rfl rfl rfl rfl | exact xo_storeA 3 rfl a55 rfl rfl (ones_cons (by first | rfl | exact AS.one) (ones_cons (by first | rfl | exact AS.one) (ones_cons (by first | rfl | exact AS.one) ones_nil))) rfl rfl rfl rfl | exact xo_storeA 4 rfl a55 rfl rfl (ones_cons (by first | rfl | exact AS.one) (ones_cons (by first | rfl | exact AS.one) (ones_cons (by first | rfl | exact AS.one) ones_nil))) rfl rfl rfl rfl | exact xo_storeA 5 rfl a55 rfl rfl (ones_cons (by first | rfl | exact AS.one) (ones_cons (by first | rfl | exact AS.one) (ones_cons (by first | rfl | exact AS.one) ones_nil))) rfl rfl rfl rfl) ?_
      rintro _ _ ⟨rfl, rfl⟩
      refine ne (eo_as rfl rfl) rfl ?_
      refine go_nil ?_
      refine gq_next ?_
      refine gc_ret ?_
      refine gq_results (by first | exact resCT 0 rfl a55 rfl rfl rfl rfl rfl | exact resCT 1 rfl a55 rfl rfl rfl rfl rfl | exact resCT 2 rfl a55 rfl rfl rfl rfl rfl | exact resCT 3 rfl a55 rfl rfl rfl rfl rfl | exact resCT 4 rfl a55 rfl rfl rfl rfl rfl | exact resCT 5 rfl a55 rfl rfl rfl rfl rfl) ?_
      exact fun W' hO => ⟨_, _, rfl, ⟨_, _, _, rfl, rfl, by omega⟩, hO.pick 0 rfl⟩

/-- barscan/raster.TurnImage -/
theorem turnim_no (t W H : Int) (A : Option Addr) (n c : Nat) (f : Nat → Int) (w : World) (_hr : Rd w A (tab n (iv .u8 f))) (hv : vldB W H n = false) :
    Calls Try.prog 40 #[.agg #[.int .i64 W, .int .i64 H, .slice A n c], .int .i64 t] w fun e w' => e = .returned (noM 1) ∧ Ext w w' := by
  refine calls_enter (N := ⟨35, []⟩) ([]) ([]) Try.func40 rfl rfl rfl (Ow.start _) ?_
  refine gc_seq ?_
  refine gc_region ?_
  refine nx (xo_boxA rfl rfl) rfl ?_
  rintro _ _ ⟨g2, rfl, rfl⟩
  refine nx (xo_alloc rfl z55) rfl ?_
  rintro _ _ ⟨g4, rfl, rfl⟩
  refine ne (eo_as rfl rfl) rfl ?_
  refine go_nil ?_
  refine gq_next ?_
  refine gc_seq ?_
  refine gc_seq ?_
  refine gc_region ?_
  refine ne (by first | exact eo_loadA 0 rfl a55 rfl rfl rfl rfl | exact eo_loadA 1 rfl a55 rfl rfl rfl rfl | exact eo_loadA 2 rfl a55 rfl rfl rfl rfl | exact eo_loadA 3 rfl a55 rfl rfl rfl rfl | exact eo_loadA 4 rfl a55 rfl rfl rfl rfl | exact eo_loadA 5 rfl a55 rfl rfl rfl rfl) rfl ?_
  refine ne (eo_call rfl en29 rfl (fun W _ => checkim_c _ _ _ _ _ W)) rfl ?_
  refine ne (eo_as rfl rfl) rfl ?_
  refine go_nil ?_
  refine gq_next ?_
  refine gc_seq ?_
  refine gc_region ?_
  refine ne (eo_mv rfl rfl) rfl ?_
  refine ne (eo_neq rfl rfl rfl) rfl ?_
  refine go_nil ?_
  refine gq_next ?_
  refine gc_cond rfl (fun hc10 => ?_) (fun hc10 => ?_)
  ·
    replace hc10 := of_decide_eq_true hc10
    refine gc_seq ?_
    refine gc_region ?_
    refine ne (eo_build rfl rfl (b55_)) rfl ?_
    refine ne (eo_mv rfl rfl) rfl ?_
    refine nu (by first | exact xo_storeA 0 rfl a55 rfl rfl (ones_cons (by first | rfl | exact AS.one) (ones_cons (by first | rfl | exact AS.one) (ones_cons (by first | rfl | exact AS.one) ones_nil))) rfl rfl rfl rfl | exact xo_storeA 1 rfl a55 rfl rfl (ones_cons (by first | rfl | exact AS.one) (ones_cons (by first | rfl | exact AS.one) (ones_cons (by first | rfl | exact AS.one) ones_nil))) rfl rfl rfl rfl | exact xo_storeA 2 rfl a55 rfl rfl (ones_cons (by first | rfl | exact AS.one) (ones_cons (by first | rfl | exact AS.one) (ones_cons (by first | rfl | exact AS.one) ones_nil))) rfl rfl rfl rfl | exact xo_storeA 3 rfl a55 rfl rfl (ones_cons (by first | rfl | exact AS.one) (ones_cons (by first | rfl | exact AS.one) (ones_cons (by first | rfl | exact AS.one) ones_nil))) rfl rfl rfl rfl | exact xo_storeA 4 rfl a55 rfl rfl (ones_cons (by first | rfl | exact AS.one) (ones_cons (by first | rfl | exact AS.one) (ones_cons (by first | rfl | exact AS.one) ones_nil))) rfl rfl rfl rfl | exact xo_storeA 5 rfl a55 rfl rfl (ones_cons (by first | rfl | exact AS.one) (ones_cons (by first | rfl | exact AS.one) (ones_cons (by first | rfl | exact AS.one) ones_nil))) rfl rfl rfl rfl) ?_
    rintro _ _ ⟨rfl, rfl⟩
    refine ne (eo_as rfl rfl) rfl ?_
    refine go_nil ?_
    refine gq_next ?_
    refine gc_ret ?_
    refine gq_then_ret ?_
    refine gq_results (by first | exact resCT 0 rfl a55 rfl rfl rfl rfl rfl | exact resCT 1 rfl a55 rfl rfl rfl rfl rfl | exact resCT 2 rfl a55 rfl rfl rfl rfl rfl | exact resCT 3 rfl a55 rfl rfl rfl rfl rfl | exact resCT 4 rfl a55 rfl rfl rfl rfl rfl | exact resCT 5 rfl a55 rfl rfl rfl rfl rfl) ?_
    exact fun W' hO => ⟨by rw [chk_no hv]; rfl, hO.toExt⟩
  ·
    replace hc10 := of_decide_eq_false hc10
    exact absurd hc10 (by rw [chk_no hv]; decide)

end Go.Proofs.Ytefblgildcaldaa
