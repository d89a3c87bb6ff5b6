/-
  The walks of the functions of package printing and of the document's answer (part M): what each call returns, at every argument.
-/
import Derived.Test.YtibooikbbcilcaaWL
import Derived.Test.YtibooikbbcilcaaPq
namespace Go.Proofs.Ytibooikbbcilcaa
open Go.RowKit Go.Eng

open Go.Bs
theorem en46 : Ent Try.prog 46 := ent_of Try.func46 (by kernel_rfl) rfl
theorem en47 : Ent Try.prog 47 := ent_of Try.func47 (by kernel_rfl) rfl
theorem en12 : Ent Try.prog 12 := ent_of Try.func12 (by kernel_rfl) rfl
theorem lit22_0 (W : World) : (Instr.buildSlice 22 0 #[]).run Try.prog W = .ok (.slice (some ⟨W.heap.size, 0, none⟩) 0 0) (W.alloc (.cells #[] 5)) := by kernel_rfl

/-- barscan/barscanref43.Print -/
theorem rprint_x (W H : Int) (A : Option Addr) (n c : Nat) (f : Nat → Bool) (t bl d sd : Int) (w : World) (hr : Rd w A (tab n (bv f))) (hs0 : 0 ≤ sd) (hs1 : sd ≤ 4294967295) :
    Calls Try.prog 27 #[.agg #[.int .i64 W, .int .i64 H, .slice A n c], .agg #[.int .i64 t, .int .i64 bl, .int .i64 d, .int .u32 sd]] w (fun e w' => ∃ v Hn, e = .returned v ∧ RXi (printR ⟨W, H, n, f⟩ t bl d sd) v Hn ∧ Ow [] w w' Hn) := by
  refine calls_enter (N := ⟨91, []⟩) [] ([]) Try.func27 rfl rfl rfl (Ow.start _) ?_
  refine gc_seq ?_
  refine gc_region ?_
  refine nx (xo_boxA rfl rfl) rfl ?_
  rintro _ _ ⟨g2, rfl, rfl⟩
  refine nx (xo_boxA rfl rfl) rfl ?_
  rintro _ _ ⟨g3, rfl, rfl⟩
  refine nx (xo_alloc rfl z24) rfl ?_
  rintro _ _ ⟨g4, rfl, rfl⟩
  refine ne (eo_as rfl rfl) rfl ?_
  refine go_nil ?_
  refine gq_next ?_
  refine gc_seq ?_
  refine gc_region ?_
  refine ne (eo_loadA 2 rfl a33 rfl rfl rfl rfl) rfl ?_
  refine ne (eo_field rfl f54_0 rfl) rfl ?_
  refine ne (eo_load 1 rfl s3 rfl rfl rfl rfl) rfl ?_
  refine nx (xo_freshT rfl en46 rfl (fun W1 hO => rturn_x _ _ _ _ _ _ _ W1 (hr.old0 hO) )) rfl ?_
  rintro _ _ ⟨S20, ⟨A20, k20, rfl, hk20, hS20⟩, rfl⟩
  refine ne (eo_mv rfl rfl) rfl ?_
  refine ne (eo_extract rfl rfl rfl) rfl ?_
  refine ne (eo_extract rfl rfl rfl) rfl ?_
  refine nx (xo_alloc rfl z33) rfl ?_
  rintro _ _ ⟨g6, rfl, rfl⟩
  refine nu (xo_storeA 0 rfl a33 rfl rfl (ones_cons (by first | rfl | exact AS.one) (ones_cons (by first | rfl | exact AS.one) (ones_cons (by first | rfl | exact AS.one) ones_nil))) rfl rfl rfl rfl) ?_
  rintro _ _ ⟨rfl, rfl⟩
  refine ne (eo_as rfl rfl) rfl ?_
  refine go_nil ?_
  refine gq_next ?_
  refine gc_seq ?_
  refine gc_seq ?_
  refine gc_region ?_
  refine ne (eo_mv rfl rfl) rfl ?_
  refine ne (eo_neq rfl rfl rfl) rfl ?_
  refine go_nil ?_
  refine gq_next ?_
  refine gc_cond rfl (fun hc0 => ?_) (fun hc0 => ?_)
  ·
    replace hc0 := of_decide_eq_true hc0
    refine gc_seq ?_
    refine gc_region ?_
    refine ne (eo_build rfl rfl (b24_)) rfl ?_
    refine ne (eo_mv rfl rfl) rfl ?_
    refine nu (xo_storeA 1 rfl a24 rfl rfl (ones_cons (by first | rfl | exact AS.one) (ones_cons (by first | rfl | exact AS.one) (ones_cons (by first | rfl | exact AS.one) ones_nil))) rfl rfl rfl rfl) ?_
    rintro _ _ ⟨rfl, rfl⟩
    refine ne (eo_as rfl rfl) rfl ?_
    refine go_nil ?_
    refine gq_next ?_
    refine gc_ret ?_
    refine gq_then_ret ?_
    refine gq_results (resCT 1 rfl a24 rfl rfl rfl rfl rfl) ?_
    exact fun W1 hO => rxi_nil hO (printR_e0 hc0)
  ·
    replace hc0 := of_decide_eq_false hc0
    have hv : vldB W H n = true := turnR_zero hc0
    obtain ⟨v1, v2, v3, v4, v5, v6⟩ := vldB_iff.1 hv
    have v7 := vld_pos hv
    obtain ⟨z1, z2, z3, z4, z5, z6⟩ := print_steps (t := t) (bl := bl) (f := f) hv
    have hx29 : PixOk (grayR (turnR ⟨W, H, n, f⟩ t).1).1.n (grayR (turnR ⟨W, H, n, f⟩ t).1).1.f := by rw [z5]; exact gray_pix
    refine gc_skip ?_
    refine gq_next ?_
    refine gc_seq ?_
    refine gc_region ?_
    refine ne (eo_loadA 0 rfl a33 rfl rfl rfl rfl) rfl ?_
    refine nx (xo_freshT rfl en47 rfl (fun W1 hO => rgray_x _ _ _ _ _ _ W1 (hS20.rd (hO.tl 4 rfl (List.Sublist.refl _))) )) rfl ?_
    rintro _ _ ⟨S29, ⟨A29, k29, rfl, hk29, hS29⟩, rfl⟩
    refine ne (eo_mv rfl rfl) rfl ?_
    refine ne (eo_extract rfl rfl rfl) rfl ?_
    refine ne (eo_extract rfl rfl rfl) rfl ?_
    refine nx (xo_alloc rfl z24) rfl ?_
    rintro _ _ ⟨g8, rfl, rfl⟩
    refine nu (xo_storeA 0 rfl a24 rfl rfl (ones_cons (by first | rfl | exact AS.one) (ones_cons (by first | rfl | exact AS.one) (ones_cons (by first | rfl | exact AS.one) ones_nil))) rfl rfl rfl rfl) ?_
    rintro _ _ ⟨rfl, rfl⟩
    refine ne (eo_as rfl rfl) rfl ?_
    refine go_nil ?_
    refine gq_next ?_
    refine gc_seq ?_
    refine gc_region ?_
    refine ne (eo_loadA 0 rfl a24 rfl rfl rfl rfl) rfl ?_
    refine ne (eo_field rfl f54_1 rfl) rfl ?_
    refine ne (eo_load 3 rfl s3 rfl rfl rfl rfl) rfl ?_
    refine nx (xo_freshT rfl en12 rfl (fun W1 hO => rblur_x _ _ _ _ _ _ _ W1 (hS29.rd (hO.tl 5 rfl (List.sublist_append_right _ _))) hx29)) rfl ?_
    rintro _ _ ⟨S36, ⟨A36, k36, rfl, hk36, hS36⟩, rfl⟩
    refine ne (eo_mv rfl rfl) rfl ?_
    refine ne (eo_extract rfl rfl rfl) rfl ?_
    refine ne (eo_extract rfl rfl rfl) rfl ?_
    refine nx (xo_alloc rfl z24) rfl ?_
    rintro _ _ ⟨g10, rfl, rfl⟩
    refine nu (xo_storeA 0 rfl a24 rfl rfl (ones_cons (by first | rfl | exact AS.one) (ones_cons (by first | rfl | exact AS.one) (ones_cons (by first | rfl | exact AS.one) ones_nil))) rfl rfl rfl rfl) ?_
    rintro _ _ ⟨rfl, rfl⟩
    refine ne (eo_as rfl rfl) rfl ?_
    refine go_nil ?_
    refine gq_next ?_
    refine gc_seq ?_
    refine gc_seq ?_
    refine gc_region ?_
    refine ne (eo_mv rfl rfl) rfl ?_
    refine ne (eo_neq rfl rfl rfl) rfl ?_
    refine go_nil ?_
    refine gq_next ?_
    refine gc_cond rfl (fun hc1 => ?_) (fun hc1 => ?_)
    ·
      replace hc1 := of_decide_eq_true hc1
      refine gc_seq ?_
      refine gc_region ?_
      refine ne (eo_build rfl rfl (b24_)) rfl ?_
      refine ne (eo_mv rfl rfl) rfl ?_
      refine nu (xo_storeA 3 rfl a24 rfl rfl (ones_cons (by first | rfl | exact AS.one) (ones_cons (by first | rfl | exact AS.one) (ones_cons (by first | rfl | exact AS.one) ones_nil))) rfl rfl rfl rfl) ?_
      rintro _ _ ⟨rfl, rfl⟩
      refine ne (eo_as rfl rfl) rfl ?_
      refine go_nil ?_
      refine gq_next ?_
      refine gc_ret ?_
      refine gq_then_ret ?_
      refine gq_results (resCT 3 rfl a24 rfl rfl rfl rfl rfl) ?_
      exact fun W1 hO => rxi_nil hO (printR_e1 hv hc1)
    ·
      replace hc1 := of_decide_eq_false hc1
      refine gc_skip ?_
      refine gq_next ?_
      refine gc_seq ?_
      refine gc_region ?_
      refine ne (eo_field rfl f33_0 rfl) rfl ?_
      refine ne (eo_load 2 rfl s3 rfl rfl rfl rfl) rfl ?_
      refine ne (eo_field rfl f33_1 rfl) rfl ?_
      refine ne (eo_load 2 rfl s3 rfl rfl rfl rfl) rfl ?_
      refine ne (eo_field rfl f54_2 rfl) rfl ?_
      refine ne (eo_load 4 rfl s3 rfl rfl rfl rfl) rfl ?_
      refine ne (eo_field rfl f54_3 rfl) rfl ?_
      refine ne (eo_load 4 rfl s40 rfl rfl rfl rfl) rfl ?_
      refine nx (xo_freshT rfl en17 rfl (fun W1 hO => rplaces_x _ _ _ _ W1  (by omega) (by omega))) rfl ?_
      rintro _ _ ⟨S52, ⟨A52, k52, rfl, hk52, hS52⟩, rfl⟩
      refine ne (eo_mv rfl rfl) rfl ?_
      refine ne (eo_extract rfl rfl rfl) rfl ?_
      refine ne (eo_extract rfl rfl rfl) rfl ?_
      refine ne (eo_as rfl rfl) rfl ?_
      refine ne (eo_as rfl rfl) rfl ?_
      refine go_nil ?_
      refine gq_next ?_
      refine gc_seq ?_
      refine gc_seq ?_
      refine gc_region ?_
      refine ne (eo_mv rfl rfl) rfl ?_
      refine ne (eo_neq rfl rfl rfl) rfl ?_
      refine go_nil ?_
      refine gq_next ?_
      refine gc_cond rfl (fun hc2 => ?_) (fun hc2 => ?_)
      ·
        replace hc2 := of_decide_eq_true hc2
        refine gc_seq ?_
        refine gc_region ?_
        refine ne (eo_build rfl rfl (b24_)) rfl ?_
        refine ne (eo_mv rfl rfl) rfl ?_
        refine nu (xo_storeA 3 rfl a24 rfl rfl (ones_cons (by first | rfl | exact AS.one) (ones_cons (by first | rfl | exact AS.one) (ones_cons (by first | rfl | exact AS.one) ones_nil))) rfl rfl rfl rfl) ?_
        rintro _ _ ⟨rfl, rfl⟩
        refine ne (eo_as rfl rfl) rfl ?_
        refine go_nil ?_
        refine gq_next ?_
        refine gc_ret ?_
        refine gq_then_ret ?_
        refine gq_results (resCT 3 rfl a24 rfl rfl rfl rfl rfl) ?_
        exact fun W1 hO => rxi_nil hO (printR_e2 hv hc2)
      ·
        replace hc2 := of_decide_eq_false hc2
        obtain ⟨k1, k2, k3, k4, k5, k6⟩ := printR_k hv hc1 hc2
        have k1b : (blurR ⟨(grayR ⟨(turnR ⟨W, H, n, f⟩ t).1.W, (turnR ⟨W, H, n, f⟩ t).1.H, (turnR ⟨W, H, n, f⟩ t).1.n, (turnR ⟨W, H, n, f⟩ t).1.f⟩).1.W, (grayR ⟨(turnR ⟨W, H, n, f⟩ t).1.W, (turnR ⟨W, H, n, f⟩ t).1.H, (turnR ⟨W, H, n, f⟩ t).1.n, (turnR ⟨W, H, n, f⟩ t).1.f⟩).1.H, (grayR ⟨(turnR ⟨W, H, n, f⟩ t).1.W, (turnR ⟨W, H, n, f⟩ t).1.H, (turnR ⟨W, H, n, f⟩ t).1.n, (turnR ⟨W, H, n, f⟩ t).1.f⟩).1.n, (grayR ⟨(turnR ⟨W, H, n, f⟩ t).1.W, (turnR ⟨W, H, n, f⟩ t).1.H, (turnR ⟨W, H, n, f⟩ t).1.n, (turnR ⟨W, H, n, f⟩ t).1.f⟩).1.f⟩ bl).1.n = n := k1
        refine gc_skip ?_
        refine gq_next ?_
        refine gc_seq ?_
        refine gc_draw_new (i := 9) (d := 14) [] [0, 1, 2, 3, 5, 6] [4, 7, 8] [10] (by kernel_rfl) (by kernel_rfl) rfl z24 rfl ?_
        refine gp_nil ?_
        refine de rfl (eo_field rfl f24_0 rfl) rfl ?_
        refine de rfl (eo_load 0 rfl s3 rfl rfl rfl rfl) rfl ?_
        refine de rfl (eo_field rfl f24_1 rfl) rfl ?_
        refine de rfl (eo_load 0 rfl s3 rfl rfl rfl rfl) rfl ?_
        refine de rfl (eo_field rfl f24_2 rfl) rfl ?_
        refine de rfl (eo_load 0 rfl s22 rfl rfl rfl rfl) rfl ?_
        refine ge_nil ?_
        refine ⟨rfl, ?_⟩
        refine da rfl (xo_lit rfl rfl lit22_0) rfl ?_
        rintro _ _ ⟨g63, rfl, rfl⟩
        refine ⟨by first | exact (List.Sublist.cons _ (List.Sublist.refl _)) | exact (List.sublist_append_left _ _), ?_⟩
        refine da rfl (xo_grabLF (F := (iv .u8 ((blurR (grayR (turnR ⟨W, H, n, f⟩ t).1).1 bl).1.f))) rfl Try.underlying22 e5.toN rfl rfl (fun W1 hO => (hS36.rd (hO.tl 7 rfl ((List.sublist_append_right _ _).trans (List.sublist_append_left _ _))))) tab_onei (by omega) (by omega) (by decide)) rfl ?_
        rintro _ _ ⟨gn66, cn66, sn66, rfl, rfl, hcn66⟩
        refine ⟨by first | exact (List.Sublist.cons _ (List.Sublist.refl _)) | exact (List.sublist_append_left _ _), ?_⟩
        refine da rfl (xo_of_eo (eo_build rfl rfl (b24_012 _ _ _ _ _))) rfl ?_
        rintro _ _ ⟨rfl, rfl⟩
        refine ⟨by first | exact (List.Sublist.cons _ (List.Sublist.refl _)) | exact (List.sublist_append_left _ _), ?_⟩
        refine ga_nil ?_
        intro g14
        refine iu rfl (xo_storeA 0 rfl a24 rfl rfl (ones_cons (by first | rfl | exact AS.one) (ones_cons (by first | rfl | exact AS.one) (ones_cons (by first | rfl | exact AS.one) ones_nil))) rfl rfl rfl rfl) ?_
        rintro _ _ ⟨rfl, rfl⟩
        refine gi_nil ?_
        refine gq_nq ?_
        refine gq_next ?_
        refine gc_seq ?_
        refine gc_seq ?_
        refine gc_region ?_
        refine ne (eo_as rfl rfl) rfl ?_
        refine go_nil ?_
        refine gq_next ?_
        refine gc_block ?_
        refine loop1 (fun (k : Nat) => k ≤ d.toNat) (fun (k : Nat) => d.toNat - k) (fun (k : Nat) => [(4, .pointer (some ⟨g4, 0, none⟩)), (12, .slice A52 ((placesR ((turnR ⟨W, H, n, f⟩ t).1.W) ((turnR ⟨W, H, n, f⟩ t).1.H) d sd).1.1) k52), (14, .pointer (some ⟨g14, 0, none⟩)), (15, .int .i64 (k : Int))]) (fun (k : Nat) => ⟨g14, 24, [.int .i64 ((blurR (grayR (turnR ⟨W, H, n, f⟩ t).1).1 bl).1.W), .int .i64 ((blurR (grayR (turnR ⟨W, H, n, f⟩ t).1).1 bl).1.H), .slice (some ⟨gn66, 0, none⟩) ((blurR (grayR (turnR ⟨W, H, n, f⟩ t).1).1 bl).1.n) cn66]⟩ :: ⟨gn66, 5, tab ((blurR (grayR (turnR ⟨W, H, n, f⟩ t).1).1 bl).1.n) (iv .u8 (invF (plF n sd) (blurR (grayR (turnR ⟨W, H, n, f⟩ t).1).1 bl).1.f k)) ++ sn66⟩ :: ⟨g10, 24, [.int .i64 ((blurR (grayR (turnR ⟨W, H, n, f⟩ t).1).1 bl).1.W), .int .i64 ((blurR (grayR (turnR ⟨W, H, n, f⟩ t).1).1 bl).1.H), .slice A36 ((blurR (grayR (turnR ⟨W, H, n, f⟩ t).1).1 bl).1.n) k36]⟩ :: ⟨g8, 24, [.int .i64 ((grayR (turnR ⟨W, H, n, f⟩ t).1).1.W), .int .i64 ((grayR (turnR ⟨W, H, n, f⟩ t).1).1.H), .slice A29 ((grayR (turnR ⟨W, H, n, f⟩ t).1).1.n) k29]⟩ :: ⟨g6, 33, [.int .i64 ((turnR ⟨W, H, n, f⟩ t).1.W), .int .i64 ((turnR ⟨W, H, n, f⟩ t).1.H), .slice A20 ((turnR ⟨W, H, n, f⟩ t).1.n) k20]⟩ :: ⟨g4, 24, [.int .i64 0, .int .i64 0, .slice none 0 0]⟩ :: ⟨g3, 54, [.int .i64 t, .int .i64 bl, .int .i64 d, .int .u32 sd]⟩ :: ⟨g2, 33, [.int .i64 W, .int .i64 H, .slice A n c]⟩ :: (((S20 ++ S29) ++ S36) ++ S52)) 0 (by omega) ⟨rfl, rfl, rfl, rfl, trivial⟩ (List.Sublist.refl _) ?_
        intro k hk
        refine gc_seq ?_
        refine gc_seq ?_
        refine gc_region ?_
        refine ne (eo_mv rfl rfl) rfl ?_
        refine ne (eo_mv rfl rfl) rfl ?_
        refine ne (eo_len rfl Try.underlying41 rfl) rfl ?_
        refine ne (eo_lss rfl rfl rfl) rfl ?_
        refine go_nil ?_
        refine gq_next ?_
        refine gc_cond rfl (fun hc3 => ?_) (fun hc3 => ?_)
        ·
          replace hc3 := of_decide_eq_true hc3
          have hpk : (placesR ((turnR ⟨W, H, n, f⟩ t).1.W) ((turnR ⟨W, H, n, f⟩ t).1.H) d sd).1.2 (k : Int).toNat = ((plF n sd k : Nat) : Int) := k4 k
          have hpl := plF_lt (N := n) (s := sd) (i := k) (by omega)
          have hpx := inv_pix (p := plF n sd) k2 k (plF n sd k) hpl
          have hpt : ((placesR ((turnR ⟨W, H, n, f⟩ t).1.W) ((turnR ⟨W, H, n, f⟩ t).1.H) d sd).1.2 (k : Int).toNat).toNat = plF n sd k := by rw [hpk]; rfl
          have hpv : invF (plF n sd) (blurR (grayR (turnR ⟨W, H, n, f⟩ t).1).1 bl).1.f k (((placesR ((turnR ⟨W, H, n, f⟩ t).1.W) ((turnR ⟨W, H, n, f⟩ t).1.H) d sd).1.2 (k : Int).toNat).toNat) = invF (plF n sd) (blurR (grayR (turnR ⟨W, H, n, f⟩ t).1).1 bl).1.f k (plF n sd k) := by rw [hpt]
          refine gc_skip ?_
          refine gq_next ?_
          refine gc_seq ?_
          refine gc_block ?_
          refine gc_draw [] [0, 1, 2, 3, 4, 5, 6, 7, 8, 9, 10, 11, 12, 13, 14, 15] [] [16] (by kernel_rfl) (by kernel_rfl) ?_
          refine gp_nil ?_
          refine de rfl (eo_field rfl f24_2 rfl) rfl ?_
          refine de rfl (eo_load 0 rfl s22 rfl rfl rfl rfl) rfl ?_
          refine de rfl (eo_mv rfl rfl) rfl ?_
          refine de rfl (eo_mv rfl rfl) rfl ?_
          refine de rfl (eo_indexS rfl sl41 rfl rfl (fun W1 hO => (hS52.rd (hO.tl 8 rfl (List.sublist_append_right _ _)))) (by simp) (by omega) (by omega)) rfl ?_
          refine de rfl (eo_loadS rfl s3 rfl (fun W1 hO => Rd.tabi (hS52.rd (hO.tl 8 rfl (List.sublist_append_right _ _))) (by omega))) rfl ?_
          refine de rfl (eo_field rfl f24_2 rfl) rfl ?_
          refine de rfl (eo_load 0 rfl s22 rfl rfl rfl rfl) rfl ?_
          refine de rfl (eo_mv rfl rfl) rfl ?_
          refine de rfl (eo_mv rfl rfl) rfl ?_
          refine de rfl (eo_indexS rfl sl41 rfl rfl (fun W1 hO => (hS52.rd (hO.tl 8 rfl (List.sublist_append_right _ _)))) (by simp) (by omega) (by omega)) rfl ?_
          refine de rfl (eo_loadS rfl s3 rfl (fun W1 hO => Rd.tabi (hS52.rd (hO.tl 8 rfl (List.sublist_append_right _ _))) (by omega))) rfl ?_
          refine de rfl (eo_index0 rfl sl22 rfl rfl (by omega) (by omega)) rfl ?_
          refine de rfl (eo_geti 1 rfl s5 rfl rfl (by omega)) rfl ?_
          refine de rfl (eo_subk rfl rfl rfl (u8_in (by omega) (by omega))) rfl ?_
          refine de rfl (eo_index0 rfl sl22 rfl rfl (by omega) (by omega)) rfl ?_
          refine ge_nil ?_
          refine ga_nil ?_
          refine iu rfl (xo_seti 1 rfl s5 rfl rfl rfl (by omega)) ?_
          rintro _ _ ⟨rfl, rfl⟩
          refine gi_nil ?_
          refine gq_nq ?_
          refine gq_block_end ?_
          refine gq_next ?_
          refine gc_region ?_
          refine ne (eo_mv rfl rfl) rfl ?_
          refine ne (eo_add rfl rfl rfl (by omega) (by omega)) rfl ?_
          refine ne (eo_as rfl rfl) rfl ?_
          refine go_nil ?_
          rw [hpk]
          exact round1 (k + 1) (by omega) (by omega) ⟨rfl, rfl, rfl, rfl, trivial⟩ (List.Sublist.refl _)
        ·
          replace hc3 := of_decide_eq_false hc3
          refine gc_exit ?_
          refine gq_then_exit ?_
          refine gq_then_exit ?_
          refine gq_block_hit ?_
          refine gq_next ?_
          refine gc_seq ?_
          refine gc_region ?_
          refine ne (eo_loadA 0 rfl a24 rfl rfl rfl rfl) rfl ?_
          refine nu (xo_storeA 5 rfl a24 rfl rfl (ones_cons (by first | rfl | exact AS.one) (ones_cons (by first | rfl | exact AS.one) (ones_cons (by first | rfl | exact AS.one) ones_nil))) rfl rfl rfl rfl) ?_
          rintro _ _ ⟨rfl, rfl⟩
          refine ne (eo_as rfl rfl) rfl ?_
          refine go_nil ?_
          refine gq_next ?_
          refine gc_ret ?_
          refine gq_results (resCT 5 rfl a24 rfl rfl rfl rfl rfl) ?_
          exact fun W1 hO => rxi_own 1 hO rfl (k6) (fun j hj => by rw [show k = d.toNat by omega]) (by omega)

end Go.Proofs.Ytibooikbbcilcaa
