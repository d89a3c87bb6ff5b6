/-
  The walks of the functions of package regions and of the document's answers (part K): what each call returns, at every argument.
-/
import Derived.Test.YtnmiljloifbjeaaWJ
import Derived.Test.YtnmiljloifbjeaaRt
namespace Go.Proofs.Ytnmiljloifbjeaa
open Go.RowKit Go.Eng

open Go.Bs
theorem en25 : Ent Try.prog 25 := ent_of Try.func25 (by kernel_rfl) rfl
theorem en26 : Ent Try.prog 26 := ent_of Try.func26 (by kernel_rfl) rfl
theorem b64_012 (x0_0 : Int) (x0_1A : Option Addr) (x0_1n x0_1c : Nat) (x1 : Int) (x2 : Int) (W : World) : (Instr.build 64 #[(0, .agg #[.int .i64 x0_0, .slice x0_1A x0_1n x0_1c]), (1, .int .i64 x1), (2, .int .i64 x2)]).run Try.prog W = .ok (.agg #[.int .i64 x0_0, .slice x0_1A x0_1n x0_1c, .int .i64 x1, .int .i64 x2, .int .i64 0]) W := by kernel_rfl

/-- barscan/regions.Cut -/
theorem cut_x (W H : Int) (A : Option Addr) (n c : Nat) (f : Nat → Bool) (gx : Int) (gy : Int) (w : World) (hr : Rd w A (tab n (bv f))) (hn3 : n ≤ 3000) :
    Calls Try.prog 11 #[.agg #[.int .i64 W, .int .i64 H, .slice A n c], .int .i64 gx, .int .i64 gy] w (fun e w' => ∃ v Hn, e = .returned v ∧ RNs 4 (cutR ⟨W, H, n, f⟩ gx gy).1.length (bxG (cutR ⟨W, H, n, f⟩ gx gy).1) (cutR ⟨W, H, n, f⟩ gx gy).2 v Hn ∧ Ow [] w w' Hn) := by
  refine calls_enter (N := ⟨52, []⟩) [] ([]) Try.func11 rfl rfl rfl (Ow.start _) ?_
  refine gc_seq ?_
  refine gc_region ?_
  refine nx (xo_boxA rfl rfl) rfl ?_
  rintro _ _ ⟨g3, rfl, rfl⟩
  refine ne (eo_as rfl rfl) rfl ?_
  refine ne (eo_as rfl rfl) rfl ?_
  refine go_nil ?_
  refine gq_next ?_
  refine gc_seq ?_
  refine gc_seq ?_
  refine gc_region ?_
  refine ne (eo_loadA 0 rfl a24 rfl rfl rfl rfl) rfl ?_
  refine ne (eo_call rfl en24 rfl (fun W1 hO => check_c _ _ _ _ _ W1  )) rfl ?_
  refine ne (eo_neq rfl rfl rfl) rfl ?_
  refine go_nil ?_
  refine gq_next ?_
  refine gc_cond rfl (fun hc0 => ?_) (fun hc0 => ?_)
  ·
    replace hc0 := of_decide_eq_true hc0
    have hv := chk_f hc0
    refine gc_seq ?_
    refine gc_region ?_
    refine ne (eo_as rfl rfl) rfl ?_
    refine ne (eo_as rfl rfl) rfl ?_
    refine go_nil ?_
    refine gq_next ?_
    refine gc_ret ?_
    refine gq_then_ret ?_
    refine gq_results (res2 rfl rfl rfl) ?_
    exact fun W1 hO => rns_nil hO (by rw [cutR_no hv]; rfl) (by rw [cutR_no hv])
  ·
    replace hc0 := of_decide_eq_false hc0
    have hv := chk_t hc0
    obtain ⟨v1, v2, v3, v4, v5, v6⟩ := vldB_iff.1 hv
    have v7 := vld_pos hv
    refine gc_skip ?_
    refine gq_next ?_
    refine gc_seq ?_
    refine gc_seq ?_
    refine gc_region ?_
    refine ne (eo_mv rfl rfl) rfl ?_
    refine ne (eo_lss rfl rfl rfl) rfl ?_
    refine ne (eo_mv rfl rfl) rfl ?_
    refine ng rfl rfl (fun h => eo_mv rfl rfl) rfl ?_
    refine ng rfl rfl (fun h => eo_gtr rfl (ev_if h rfl) rfl) rfl ?_
    refine ne (eo_or rfl rfl (fun hb => ev_if hb rfl)) rfl ?_
    refine ne (eo_mv rfl rfl) rfl ?_
    refine ng rfl rfl (fun h => eo_mv rfl rfl) rfl ?_
    refine ng rfl rfl (fun h => eo_lss rfl (ev_if h rfl) rfl) rfl ?_
    refine ne (eo_or rfl rfl (fun hb => ev_if hb rfl)) rfl ?_
    refine ne (eo_mv rfl rfl) rfl ?_
    refine ng rfl rfl (fun h => eo_mv rfl rfl) rfl ?_
    refine ng rfl rfl (fun h => eo_gtr rfl (ev_if h rfl) rfl) rfl ?_
    refine ne (eo_or rfl rfl (fun hb => ev_if hb rfl)) rfl ?_
    refine go_nil ?_
    refine gq_next ?_
    refine gc_cond rfl (fun hc1 => ?_) (fun hc1 => ?_)
    ·
      have hd1 := (or_t hc1).imp (fun h => (or_t h).imp (fun h => (or_t h).imp (fun h => of_decide_eq_true h) (fun h => of_decide_eq_true h)) (fun h => of_decide_eq_true h)) (fun h => of_decide_eq_true h)
      have hgf : gxy gx gy = false := decide_eq_false (by omega)
      refine gc_seq ?_
      refine gc_region ?_
      refine ne (eo_as rfl rfl) rfl ?_
      refine ne (eo_as rfl rfl) rfl ?_
      refine go_nil ?_
      refine gq_next ?_
      refine gc_ret ?_
      refine gq_then_ret ?_
      refine gq_results (res2 rfl rfl rfl) ?_
      exact fun W1 hO => rns_nil hO (by rw [cutR_range hv hgf]; rfl) (by rw [cutR_range hv hgf])
    ·
      have hd1 := (or_f hc1).imp (fun h => (or_f h).imp (fun h => (or_f h).imp (fun h => of_decide_eq_false h) (fun h => of_decide_eq_false h)) (fun h => of_decide_eq_false h)) (fun h => of_decide_eq_false h)
      have hgt : gxy gx gy = true := gxy_iff.2 (by omega)
      refine gc_skip ?_
      refine gq_next ?_
      refine gc_seq ?_
      refine gc_region ?_
      refine ne (eo_loadA 0 rfl a24 rfl rfl rfl rfl) rfl ?_
      refine ne (eo_call rfl en25 rfl (fun W1 hO => calls_v (boxOf_eq (dotsV W H n f)) (bounds_c _ _ _ _ _ _ W1 (hr.old0 hO)))) rfl ?_
      refine ne (eo_mv rfl rfl) rfl ?_
      refine ne (eo_extract rfl rfl rfl) rfl ?_
      refine ne (eo_extract rfl rfl rfl) rfl ?_
      refine nx (xo_alloc rfl z32) rfl ?_
      rintro _ _ ⟨g8, rfl, rfl⟩
      refine nu (xo_storeA 0 rfl a32 rfl rfl (ones_cons (by first | rfl | exact AS.one) (ones_cons (by first | rfl | exact AS.one) (ones_cons (by first | rfl | exact AS.one) (ones_cons (by first | rfl | exact AS.one) ones_nil)))) rfl rfl rfl rfl) ?_
      rintro _ _ ⟨rfl, rfl⟩
      refine ne (eo_as rfl rfl) rfl ?_
      refine go_nil ?_
      refine gq_next ?_
      refine gc_seq ?_
      refine gc_seq ?_
      refine gc_region ?_
      refine ne (eo_mv rfl rfl) rfl ?_
      refine ne (eo_not rfl rfl) rfl ?_
      refine go_nil ?_
      refine gq_next ?_
      refine gc_cond rfl (fun hc2 => ?_) (fun hc2 => ?_)
      ·
        have hd2 := (not_t hc2)
        refine gc_seq ?_
        refine gc_region ?_
        refine ne (eo_as rfl rfl) rfl ?_
        refine ne (eo_as rfl rfl) rfl ?_
        refine go_nil ?_
        refine gq_next ?_
        refine gc_ret ?_
        refine gq_then_ret ?_
        refine gq_results (res2 rfl rfl rfl) ?_
        exact fun W1 hO => rns_nil hO (by rw [cutR_ok hv hgt, div_nil (bx_none hv (not_t hc2))]; rfl) (by rw [cutR_ok hv hgt])
      ·
        have hd2 := (not_f hc2)
        obtain ⟨hbx, hhd⟩ := bx_red hv (not_f hc2)
        rw [show bxX (dotsV W H n f) = (redB f W ⟨0, 0, W, H⟩).X from congrArg Bx.X hbx, show bxY (dotsV W H n f) = (redB f W ⟨0, 0, W, H⟩).Y from congrArg Bx.Y hbx, show bxW (dotsV W H n f) = (redB f W ⟨0, 0, W, H⟩).W from congrArg Bx.W hbx, show bxH (dotsV W H n f) = (redB f W ⟨0, 0, W, H⟩).H from congrArg Bx.H hbx]
        have hin := bx_in hv
        have hnz := hasD_no hin hhd
        have htg := tg_red hin hhd
        have hrl := red_len hin hhd
        have har := area_sub (redB_spec hin hhd).sub (by have := htg.red.pos; omega) hin.w0
        have hlv := lv_spec (gx := gx) (gy := gy) (W + H).toNat htg (by simp only at hrl; omega)
        have hln := hlv.num
        simp only at hrl har
        refine gc_skip ?_
        refine gq_next ?_
        refine gc_seq ?_
        have v8 := mul_up1 v1 v2 v3 v4
        refine gc_region ?_
        refine ne (eo_loadA 1 rfl a24 rfl rfl rfl rfl) rfl ?_
        refine nx (xo_freshT rfl en26 rfl (fun W1 hO => count_x _ _ _ _ _ _ W1 (hr.old0 hO) (by assumption))) rfl ?_
        rintro _ _ ⟨S37, ⟨A37, k37, rfl, hk37, hS37⟩, rfl⟩
        refine ne (eo_mv rfl rfl) rfl ?_
        refine ne (eo_mv rfl rfl) rfl ?_
        refine ne (eo_build rfl rfl (b64_012 _ _ _ _ _ _)) rfl ?_
        refine nx (xo_boxA rfl rfl) rfl ?_
        rintro _ _ ⟨g41, rfl, rfl⟩
        refine ne (eo_as rfl rfl) rfl ?_
        refine go_nil ?_
        refine gq_next ?_
        refine gc_seq ?_
        refine gc_region ?_
        refine ne (eo_mv rfl rfl) rfl ?_
        refine ne (eo_loadA 1 rfl a32 rfl rfl rfl rfl) rfl ?_
        refine nx (xo_overN 0 rfl en27 rfl rfl (fun W1 hO => div_x _ _ _ _ _ _ _ _ (by omega) (by omega) (by omega) (by omega) (ne_cells hO 0 rfl (hS37.rd (hO.tl 3 rfl (List.Sublist.refl _))) (by omega)) (W + H).toNat (redB f W ⟨0, 0, W, H⟩) 0 W1 (hS37.rd (hO.tl 3 rfl (List.Sublist.refl _))) (hO.at_ (i := 0) rfl) htg (by omega) (by omega) (by omega))) rfl ?_
        rintro _ _ ⟨Hn44, hT44, rfl⟩
        obtain ⟨gp44, rfl⟩ := hT44.ptr
        refine ne (eo_as rfl rfl) rfl ?_
        refine go_nil ?_
        refine gq_next ?_
        refine gc_seq ?_
        refine gc_seq ?_
        refine gc_region ?_
        refine ne (eo_mv rfl rfl) rfl ?_
        refine ne (eo_nilChk rfl rfl) rfl ?_
        refine ne (eo_field rfl f64_3 rfl) rfl ?_
        refine ne (eo_load 0 rfl s3 rfl rfl rfl rfl) rfl ?_
        refine ne (eo_gtr rfl rfl rfl) rfl ?_
        refine go_nil ?_
        refine gq_next ?_
        refine gc_cond rfl (fun hc3 => ?_) (fun hc3 => ?_)
        ·
          replace hc3 := of_decide_eq_true hc3
          exfalso; omega
        ·
          replace hc3 := of_decide_eq_false hc3
          refine gc_skip ?_
          refine gq_next ?_
          refine gc_seq ?_
          refine gc_region ?_
          refine ne (eo_mv rfl rfl) rfl ?_
          refine nx (xo_grow (sz := 4) (s := .nil) (e := 32) (xs := []) (ys := tab ((cutT f W gx gy (W + H).toNat (redB f W ⟨0, 0, W, H⟩)).lvs.length * 4) (iv .i64 (bxG (cutT f W gx gy (W + H).toNat (redB f W ⟨0, 0, W, H⟩)).lvs))) (m := (cutT f W gx gy (W + H).toNat (redB f W ⟨0, 0, W, H⟩)).lvs.length) (⟨g41, 64, [.int .i64 (W + 1), .slice A37 (((W + 1) * (H + 1)).toNat) k37, .int .i64 gx, .int .i64 gy, .int .i64 (0 + ((cutT f W gx gy (W + H).toNat (redB f W ⟨0, 0, W, H⟩)).lvs.length : Int))]⟩ :: ⟨g8, 32, [.int .i64 ((redB f W ⟨0, 0, W, H⟩).X), .int .i64 ((redB f W ⟨0, 0, W, H⟩).Y), .int .i64 ((redB f W ⟨0, 0, W, H⟩).W), .int .i64 ((redB f W ⟨0, 0, W, H⟩).H)]⟩ :: ⟨g3, 24, [.int .i64 W, .int .i64 H, .slice A n c]⟩ :: (S37 ++ Hn44)) (List.append_nil _).symm rfl en28 rfl (fun W1 hO => leaves_x (cutT f W gx gy (W + H).toNat (redB f W ⟨0, 0, W, H⟩)) _ .nil [] W1 (tr_at hO hT44 fun b hb => List.mem_append_left _ ((List.Sublist.cons _ (List.Sublist.cons _ (List.Sublist.cons _ (List.sublist_append_right _ _)))).subset hb)) ⟨rfl, rfl⟩ (Ow.start _) (by show (cutT f W gx gy (W + H).toNat (redB f W ⟨0, 0, W, H⟩)).lvs.length ≤ _; omega))) rfl ?_
          rintro _ _ ⟨s51, hs51, rfl, rfl⟩
          refine ne (eo_as rfl rfl) rfl ?_
          refine ne (eo_as rfl rfl) rfl ?_
          refine go_nil ?_
          refine gq_next ?_
          refine gc_ret ?_
          refine gq_results (res2 rfl rfl rfl) ?_
          have he : (cutR ⟨W, H, n, f⟩ gx gy).1 = (cutT f W gx gy (W + H).toNat (redB f W ⟨0, 0, W, H⟩)).lvs := by rw [cutR_ok hv hgt]; exact div_some hnz
          exact fun W1 hO => rns_as hO (List.sublist_append_right _ _) hs51 (by rw [he]) (by rw [cutR_ok hv hgt]) (fun j _ => by rw [he])

end Go.Proofs.Ytnmiljloifbjeaa
