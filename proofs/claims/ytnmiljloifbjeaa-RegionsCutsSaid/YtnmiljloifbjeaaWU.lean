/-
  The walks of the functions of package regions and of the document's answers (part U): what each call returns, at every argument.
-/
import Derived.Test.YtnmiljloifbjeaaWT
import Derived.Test.YtnmiljloifbjeaaWE
import Derived.Test.YtnmiljloifbjeaaWQ
import Derived.Test.YtnmiljloifbjeaaRv
import Derived.Test.YtnmiljloifbjeaaRf
namespace Go.Proofs.Ytnmiljloifbjeaa
open Go.RowKit Go.Eng

open Go.Bs
theorem en45 : Ent Try.prog 45 := ent_of Try.func45 (by kernel_rfl) rfl
theorem en34 : Ent Try.prog 34 := ent_of Try.func34 (by kernel_rfl) rfl
theorem en46 : Ent Try.prog 46 := ent_of Try.func46 (by kernel_rfl) rfl
theorem lit27_1 {x0 x1 x2 x3 : Int} (W : World) : (Instr.buildSlice 27 1 #[(0, .agg #[.int .i64 x0, .int .i64 x1, .int .i64 x2, .int .i64 x3])]).run Try.prog W = .ok (.slice (some ⟨W.heap.size, 0, none⟩) 1 1) (W.alloc (.cells #[.int .i64 x0, .int .i64 x1, .int .i64 x2, .int .i64 x3] 32)) := by kernel_rfl
theorem en37 : Ent Try.prog 37 := ent_of Try.func37 (by kernel_rfl) rfl
theorem en_32 : TyEN Try.prog 32 (.agg #[.int .i64 0, .int .i64 0, .int .i64 0, .int .i64 0]) 4 32 := ⟨rfl, by omega, by kernel_rfl⟩

theorem tight_yb (W H : Int) (A : Option Addr) (n c : Nat) (f : Nat → Bool) (b : Bx) (w : World) (hr : Rd w A (tab n (bv f))) (hv : vldB W H n = true) (hb : BIn W H b) (hd : HasD f W b) : Calls Try.prog 45 #[.agg #[.int .i64 W, .int .i64 H, .slice A n c], .agg #[.int .i64 b.X, .int .i64 b.Y, .int .i64 b.W, .int .i64 b.H]] w (fun e w' => e = .returned (.tuple #[.agg #[.int .i64 (redB f W b).X, .int .i64 (redB f W b).Y, .int .i64 (redB f W b).W, .int .i64 (redB f W b).H], .bool true]) ∧ Ext w w') := tight_yes W H A n c f b.X b.Y b.W b.H w hr hv hb hd

/-- barscan/barscanref46.divided -/
theorem rdiv_nil (W H : Int) (A : Option Addr) (n c : Nat) (f : Nat → Bool) (b : Bx) (gx : Int) (gy : Int) (w : World) (hr : Rd w A (tab n (bv f))) (k : Nat) (hv : vldB W H n = true) (hb : BIn W H b) (hz : bxS f W b = 0) :
    Calls Try.prog 37 #[.agg #[.int .i64 W, .int .i64 H, .slice A n c], .agg #[.int .i64 b.X, .int .i64 b.Y, .int .i64 b.W, .int .i64 b.H], .int .i64 gx, .int .i64 gy] w (fun e w' => ∃ v Hn, e = .returned v ∧ RApp [] 32 4 (divL f W gx gy k b).length (tab ((divL f W gx gy k b).length * 4) (iv .i64 (bxG (divL f W gx gy k b)))) v Hn ∧ Ow [] w w' Hn) := by
  refine calls_enter (N := ⟨105, []⟩) [] ([]) Try.func37 rfl rfl rfl (Ow.start _) ?_
  refine gc_seq ?_
  refine gc_region ?_
  refine nx (xo_boxA rfl rfl) rfl ?_
  rintro _ _ ⟨g4, rfl, rfl⟩
  refine nx (xo_boxA rfl rfl) rfl ?_
  rintro _ _ ⟨g5, rfl, rfl⟩
  refine ne (eo_as rfl rfl) rfl ?_
  refine go_nil ?_
  refine gq_next ?_
  refine gc_seq ?_
  refine gc_region ?_
  refine ne (eo_loadA 1 rfl a24 rfl rfl rfl rfl) rfl ?_
  refine ne (eo_loadA 0 rfl a32 rfl rfl rfl rfl) rfl ?_
  refine ne (eo_call rfl en45 rfl (fun W1 hO => tight_no _ _ _ _ _ _ _ _ _ _ W1 (hr.old0 hO) hv hb hz)) rfl ?_
  refine ne (eo_mv rfl rfl) rfl ?_
  refine ne (eo_extract rfl rfl rfl) rfl ?_
  refine ne (eo_extract rfl rfl rfl) rfl ?_
  refine nx (xo_alloc rfl z32) rfl ?_
  rintro _ _ ⟨g9, rfl, rfl⟩
  refine nu (xo_storeA 0 rfl a32 rfl rfl (ones_cons (by first | rfl | exact AS.one) (ones_cons (by first | rfl | exact AS.one) (ones_cons (by first | rfl | exact AS.one) (ones_cons (by first | rfl | exact AS.one) ones_nil)))) rfl rfl rfl rfl) ?_
  rintro _ _ ⟨rfl, rfl⟩
  refine ne (eo_as rfl rfl) rfl ?_
  refine go_nil ?_
  refine gq_next ?_
  refine gc_seq ?_
  refine gc_seq ?_
  refine gc_region ?_
  refine ne (eo_mv rfl rfl) rfl ?_
  refine ne (eo_not rfl rfl) rfl ?_
  refine go_nil ?_
  refine gq_next ?_
  refine gc_cond rfl (fun hc0 => ?_) (fun hc0 => ?_)
  ·
    have hd0 := (not_t hc0)
    refine gc_seq ?_
    refine gc_region ?_
    refine ne (eo_as rfl rfl) rfl ?_
    refine go_nil ?_
    refine gq_next ?_
    refine gc_ret ?_
    refine gq_then_ret ?_
    refine gq_results (res1 rfl rfl) ?_
    rw [div_nil hz]
    exact fun W1 hO => ⟨_, [], rfl, ⟨.nil, ⟨rfl, rfl⟩, rfl, rfl⟩, hO.sub (List.nil_sublist _)⟩
  ·
    have hd0 := (not_f hc0)
    exact absurd hc0 (by decide)

/-- barscan/barscanref46.divided -/
theorem rdiv_step (W H : Int) (A : Option Addr) (n c : Nat) (f : Nat → Bool) (b : Bx) (gx : Int) (gy : Int) (w : World) (hr : Rd w A (tab n (bv f))) (k : Nat) (ih : ∀ (b : Bx) (w : World) (hr : Rd w A (tab n (bv f))) (hb : BIn W H b) (hk : b.W + b.H ≤ (k : Int)), Calls Try.prog 37 #[.agg #[.int .i64 W, .int .i64 H, .slice A n c], .agg #[.int .i64 b.X, .int .i64 b.Y, .int .i64 b.W, .int .i64 b.H], .int .i64 gx, .int .i64 gy] w (fun e w' => ∃ v Hn, e = .returned v ∧ RApp [] 32 4 (divL f W gx gy k b).length (tab ((divL f W gx gy k b).length * 4) (iv .i64 (bxG (divL f W gx gy k b)))) v Hn ∧ Ow [] w w' Hn)) (hv : vldB W H n = true) (hb : BIn W H b) (hk : b.W + b.H ≤ (k : Int) + 1) (hnz : bxS f W b ≠ 0) :
    Calls Try.prog 37 #[.agg #[.int .i64 W, .int .i64 H, .slice A n c], .agg #[.int .i64 b.X, .int .i64 b.Y, .int .i64 b.W, .int .i64 b.H], .int .i64 gx, .int .i64 gy] w (fun e w' => ∃ v Hn, e = .returned v ∧ RApp [] 32 4 (divL f W gx gy (k + 1) b).length (tab ((divL f W gx gy (k + 1) b).length * 4) (iv .i64 (bxG (divL f W gx gy (k + 1) b)))) v Hn ∧ Ow [] w w' Hn) := by
  obtain ⟨v1, v2, v3, v4, v5, v6⟩ := vldB_iff.1 hv
  have v7 := vld_pos hv
  obtain ⟨a1, a2, a3, a4, a5, a6⟩ := hb
  have hb : BIn W H b := ⟨a1, a2, a3, a4, a5, a6⟩
  have hd := hasD_of hb hnz
  have htg := tg_red hb hd
  have hrl := red_len hb hd
  obtain ⟨b1, b2, b3, b4, b5, b6⟩ := htg.inn
  have hp1 := htg.red.pos
  have bC := wC_bd (f := f) (gx := gx) htg.inn
  have bR := wR_bd (f := f) (gy := gy) htg.inn
  have hnum := (dv_spec (f := f) (gx := gx) (gy := gy) (k := k + 1) hb (by push_cast; omega)).num
  have har := mul_le2 (a := b.W) (b := b.H) (A := 4096) (B := 4096) (by omega) (by omega) (by omega) (by omega)
  refine calls_enter (N := ⟨105, []⟩) [] ([]) Try.func37 rfl rfl rfl (Ow.start _) ?_
  refine gc_seq ?_
  refine gc_region ?_
  refine nx (xo_boxA rfl rfl) rfl ?_
  rintro _ _ ⟨g4, rfl, rfl⟩
  refine nx (xo_boxA rfl rfl) rfl ?_
  rintro _ _ ⟨g5, rfl, rfl⟩
  refine ne (eo_as rfl rfl) rfl ?_
  refine go_nil ?_
  refine gq_next ?_
  refine gc_seq ?_
  refine gc_region ?_
  refine ne (eo_loadA 1 rfl a24 rfl rfl rfl rfl) rfl ?_
  refine ne (eo_loadA 0 rfl a32 rfl rfl rfl rfl) rfl ?_
  refine ne (eo_call rfl en45 rfl (fun W1 hO => tight_yb _ _ _ _ _ _ _ W1 (hr.old0 hO) hv hb hd)) rfl ?_
  refine ne (eo_mv rfl rfl) rfl ?_
  refine ne (eo_extract rfl rfl rfl) rfl ?_
  refine ne (eo_extract rfl rfl rfl) rfl ?_
  refine nx (xo_alloc rfl z32) rfl ?_
  rintro _ _ ⟨g9, rfl, rfl⟩
  refine nu (xo_storeA 0 rfl a32 rfl rfl (ones_cons (by first | rfl | exact AS.one) (ones_cons (by first | rfl | exact AS.one) (ones_cons (by first | rfl | exact AS.one) (ones_cons (by first | rfl | exact AS.one) ones_nil)))) rfl rfl rfl rfl) ?_
  rintro _ _ ⟨rfl, rfl⟩
  refine ne (eo_as rfl rfl) rfl ?_
  refine go_nil ?_
  refine gq_next ?_
  refine gc_seq ?_
  refine gc_seq ?_
  refine gc_region ?_
  refine ne (eo_mv rfl rfl) rfl ?_
  refine ne (eo_not rfl rfl) rfl ?_
  refine go_nil ?_
  refine gq_next ?_
  refine gc_cond rfl (fun hc0 => ?_) (fun hc0 => ?_)
  ·
    have hd0 := (not_t hc0)
    exact absurd hc0 (by decide)
  ·
    have hd0 := (not_f hc0)
    refine gc_skip ?_
    refine gq_next ?_
    refine gc_seq ?_
    refine gc_drawF (H0 := [⟨g9, 32, [.int .i64 ((redB f W b).X), .int .i64 ((redB f W b).Y), .int .i64 ((redB f W b).W), .int .i64 ((redB f W b).H)]⟩, ⟨g4, 24, [.int .i64 W, .int .i64 H, .slice A n c]⟩]) [0, 1, 3, 5, 6, 8] [2, 4, 7, 9] [12, 13] [⟨10, 11, 38, [.int .i64 0, .int .i64 0]⟩, ⟨11, 12, 38, [.int .i64 0, .int .i64 0]⟩] (List.Sublist.cons_cons _ (List.Sublist.cons _ (List.Sublist.cons_cons _ (List.nil_sublist _)))) (by kernel_rfl) (by kernel_rfl) (fls_cons ⟨⟨_, _, _, rfl⟩, rfl, z38⟩ (fls_cons ⟨⟨_, _, _, rfl⟩, rfl, z38⟩ fls_nil)) ?_
    refine de rfl (eo_loadA 1 rfl a24 rfl rfl rfl rfl) rfl ?_
    refine de rfl (eo_loadA 0 rfl a32 rfl rfl rfl rfl) rfl ?_
    refine de rfl (eo_mv rfl rfl) rfl ?_
    refine de rfl (eo_loadA 1 rfl a24 rfl rfl rfl rfl) rfl ?_
    refine de rfl (eo_loadA 0 rfl a32 rfl rfl rfl rfl) rfl ?_
    refine de rfl (eo_mv rfl rfl) rfl ?_
    refine ge_nil ?_
    refine ⟨rfl, ?_⟩
    refine da rfl (xo_freshT rfl en34 rfl (fun W1 hO => rgaps_x _ _ _ _ _ _ _ _ _ _ _ W1 (hr.old0 hO) hv htg.inn)) rfl ?_
    rintro _ _ ⟨S25, ⟨A25, k25, rfl, hk25, hS25⟩, rfl⟩
    refine ⟨(List.Sublist.cons_cons _ (List.Sublist.cons _ (List.Sublist.cons_cons _ (List.nil_sublist _)))), ?_⟩
    refine da rfl (xo_of_eo (eo_call rfl en46 rfl (fun W1 hO => rwidest_c _ _ _ _ W1 (hS25.rd (hO.tl 3 rfl (List.Sublist.refl _))) (Nat.le_trans (gpV_len htg.inn v2 v4) (by omega))))) rfl ?_
    rintro _ _ ⟨rfl, rfl⟩
    refine ⟨(List.Sublist.cons_cons _ (List.Sublist.cons _ (List.Sublist.cons_cons _ (List.nil_sublist _)))), ?_⟩
    refine da rfl (xo_freshT rfl en34 rfl (fun W1 hO => rgaps_x _ _ _ _ _ _ _ _ _ _ _ W1 (hr.old0 hO) hv htg.inn)) rfl ?_
    rintro _ _ ⟨S30, ⟨A30, k30, rfl, hk30, hS30⟩, rfl⟩
    refine ⟨(List.Sublist.cons_cons _ (List.Sublist.cons _ (List.Sublist.cons_cons _ (List.nil_sublist _)))), ?_⟩
    refine da rfl (xo_of_eo (eo_call rfl en46 rfl (fun W1 hO => rwidest_c _ _ _ _ W1 (hS30.rd (hO.tl 3 rfl (List.sublist_append_right _ _))) (Nat.le_trans (gpV_len htg.inn v2 v4) (by omega))))) rfl ?_
    rintro _ _ ⟨rfl, rfl⟩
    refine ⟨(List.Sublist.cons_cons _ (List.Sublist.cons _ (List.Sublist.cons_cons _ (List.nil_sublist _)))), ?_⟩
    refine ga_nil ?_
    intro g11 g12
    refine ⟨(List.Sublist.cons_cons _ (List.Sublist.cons _ (List.Sublist.cons_cons _ (List.nil_sublist _)))), ?_⟩
    refine mu rfl (xo_storeA 0 rfl a38 rfl rfl (ones_cons (by first | rfl | exact AS.one) (ones_cons (by first | rfl | exact AS.one) ones_nil)) rfl rfl rfl rfl) ?_
    rintro _ _ ⟨rfl, rfl⟩
    refine ⟨(List.Sublist.cons _ (List.Sublist.cons _ (List.Sublist.cons_cons _ (List.Sublist.cons _ (List.Sublist.cons_cons _ (List.nil_sublist _)))))), ?_⟩
    refine mu rfl (xo_storeA 1 rfl a38 rfl rfl (ones_cons (by first | rfl | exact AS.one) (ones_cons (by first | rfl | exact AS.one) ones_nil)) rfl rfl rfl rfl) ?_
    rintro _ _ ⟨rfl, rfl⟩
    refine ⟨(List.Sublist.cons _ (List.Sublist.cons _ (List.Sublist.cons_cons _ (List.Sublist.cons _ (List.Sublist.cons_cons _ (List.nil_sublist _)))))), ?_⟩
    refine gm_nil ?_
    refine gq_nq ?_
    refine gq_next ?_
    refine gc_seq ?_
    rw [show (widL gx (gpV f W (redB f W b) true)) = (wC f W gx (redB f W b)) from rfl, show (widL gy (gpV f W (redB f W b) false)) = (wR f W gy (redB f W b)) from rfl]
    refine gc_drawF (H0 := [⟨g9, 32, [.int .i64 ((redB f W b).X), .int .i64 ((redB f W b).Y), .int .i64 ((redB f W b).W), .int .i64 ((redB f W b).H)]⟩]) [0, 1] [] [4, 5] [⟨2, 13, 32, [.int .i64 0, .int .i64 0, .int .i64 0, .int .i64 0]⟩, ⟨3, 14, 32, [.int .i64 0, .int .i64 0, .int .i64 0, .int .i64 0]⟩] (List.Sublist.cons _ (List.Sublist.cons _ (List.Sublist.cons_cons _ (List.nil_sublist _)))) (by kernel_rfl) (by kernel_rfl) (fls_cons ⟨⟨_, _, _, rfl⟩, rfl, z32⟩ (fls_cons ⟨⟨_, _, _, rfl⟩, rfl, z32⟩ fls_nil)) ?_
    refine de rfl (eo_loadA 0 rfl a32 rfl rfl rfl rfl) rfl ?_
    refine de rfl (eo_loadA 0 rfl a32 rfl rfl rfl rfl) rfl ?_
    refine ge_nil ?_
    refine ⟨rfl, ?_⟩
    refine ga_nil ?_
    intro g13 g14
    refine ⟨(List.Sublist.cons _ (List.Sublist.cons _ (List.Sublist.cons_cons _ (List.nil_sublist _)))), ?_⟩
    refine mu rfl (xo_storeA 0 rfl a32 rfl rfl (ones_cons (by first | rfl | exact AS.one) (ones_cons (by first | rfl | exact AS.one) (ones_cons (by first | rfl | exact AS.one) (ones_cons (by first | rfl | exact AS.one) ones_nil)))) rfl rfl rfl rfl) ?_
    rintro _ _ ⟨rfl, rfl⟩
    refine ⟨(List.Sublist.cons _ (List.Sublist.cons _ (List.Sublist.cons _ (List.Sublist.cons _ (List.Sublist.cons_cons _ (List.nil_sublist _)))))), ?_⟩
    refine mu rfl (xo_storeA 1 rfl a32 rfl rfl (ones_cons (by first | rfl | exact AS.one) (ones_cons (by first | rfl | exact AS.one) (ones_cons (by first | rfl | exact AS.one) (ones_cons (by first | rfl | exact AS.one) ones_nil)))) rfl rfl rfl rfl) ?_
    rintro _ _ ⟨rfl, rfl⟩
    refine ⟨(List.Sublist.cons _ (List.Sublist.cons _ (List.Sublist.cons _ (List.Sublist.cons _ (List.Sublist.cons_cons _ (List.nil_sublist _)))))), ?_⟩
    refine gm_nil ?_
    refine gq_nq ?_
    refine gq_next ?_
    refine gc_seq ?_
    refine gc_block ?_
    refine gc_seq ?_
    refine gc_region ?_
    refine ne (eo_field rfl f38_1 rfl) rfl ?_
    refine ne (eo_load 2 rfl s3 rfl rfl rfl rfl) rfl ?_
    refine ne (eo_eql rfl rfl rfl) rfl ?_
    refine ne (eo_mv rfl rfl) rfl ?_
    refine ng rfl rfl (fun h => eo_field rfl f38_1 rfl) rfl ?_
    refine ng rfl rfl (fun h => eo_load 3 rfl s3 (ev_if h rfl) rfl rfl rfl) rfl ?_
    refine ng rfl rfl (fun h => eo_eql rfl (ev_if h rfl) rfl) rfl ?_
    refine ne (eo_and rfl rfl (fun hb => ev_if hb rfl)) rfl ?_
    refine ne (eo_as rfl rfl) rfl ?_
    refine go_nil ?_
    refine gq_next ?_
    refine gc_cond rfl (fun hc1 => ?_) (fun hc1 => ?_)
    ·
      have hd1 := (and_t hc1).imp (fun h => of_decide_eq_true h) (fun h => of_decide_eq_true h)
      have hlf : isLf f W gx gy (redB f W b) := hd1
      refine gc_seq ?_
      refine gc_region ?_
      refine ne (eo_loadA 4 rfl a32 rfl rfl rfl rfl) rfl ?_
      refine nx (xo_lit rfl rfl lit27_1) rfl ?_
      rintro _ _ ⟨g66, rfl, rfl⟩
      refine ne (eo_as rfl rfl) rfl ?_
      refine go_nil ?_
      refine gq_next ?_
      refine gc_ret ?_
      refine gq_block_ret ?_
      refine gq_then_ret ?_
      refine gq_results (res1 rfl rfl) ?_
      exact fun W1 hO => rapp_one (b := (redB f W b)) 0 hO rfl (div_one hnz hlf)
    ·
      have hd1 := (and_f hc1).imp (fun h => of_decide_eq_false h) (fun h => of_decide_eq_false h)
      have hnl : ¬ isLf f W gx gy (redB f W b) := fun q => hd1.elim (fun r => r q.1) fun r => r q.2
      refine gc_seq ?_
      refine gc_region ?_
      refine ne (eo_field rfl f38_1 rfl) rfl ?_
      refine ne (eo_load 2 rfl s3 rfl rfl rfl rfl) rfl ?_
      refine ne (eo_field rfl f38_1 rfl) rfl ?_
      refine ne (eo_load 3 rfl s3 rfl rfl rfl rfl) rfl ?_
      refine ne (eo_geq rfl rfl rfl) rfl ?_
      refine ne (eo_as rfl rfl) rfl ?_
      refine go_nil ?_
      refine gq_next ?_
      refine gc_cond rfl (fun hc2 => ?_) (fun hc2 => ?_)
      ·
        have hd2 := of_decide_eq_true hc2
        have hco : isCo f W gx gy (redB f W b) := hd2
        have sq := sq_spec (k := k) htg hnl (by omega) (sp1_co hco) (sp2_co hco)
        have spl := sq.sp.pl
        have sql := sq.sp.ql
        simp only at spl sql
        have hdj := div_join hnz sq
        refine gc_seq ?_
        refine gc_region ?_
        refine ne (eo_field rfl f38_0 rfl) rfl ?_
        refine ne (eo_load 2 rfl s3 rfl rfl rfl rfl) rfl ?_
        refine ne (eo_field rfl f32_0 rfl) rfl ?_
        refine ne (eo_load 4 rfl s3 rfl rfl rfl rfl) rfl ?_
        refine ne (eo_sub rfl rfl rfl (by omega) (by omega)) rfl ?_
        refine ne (eo_field rfl f32_2 rfl) rfl ?_
        refine nu (xo_store 0 rfl s3 rfl rfl (by first | rfl | exact AS.one) rfl rfl (by simp)) ?_
        rintro _ _ ⟨rfl, rfl⟩
        refine go_nil ?_
        refine gq_next ?_
        refine gc_seq ?_
        refine gc_region ?_
        refine ne (eo_field rfl f38_0 rfl) rfl ?_
        refine ne (eo_load 2 rfl s3 rfl rfl rfl rfl) rfl ?_
        refine ne (eo_field rfl f38_1 rfl) rfl ?_
        refine ne (eo_load 2 rfl s3 rfl rfl rfl rfl) rfl ?_
        refine ne (eo_add rfl rfl rfl (by omega) (by omega)) rfl ?_
        refine ne (eo_field rfl f32_0 rfl) rfl ?_
        refine nu (xo_store 1 rfl s3 rfl rfl (by first | rfl | exact AS.one) rfl rfl (by simp)) ?_
        rintro _ _ ⟨rfl, rfl⟩
        refine go_nil ?_
        refine gq_next ?_
        refine gc_region ?_
        refine ne (eo_field rfl f32_0 rfl) rfl ?_
        refine ne (eo_load 4 rfl s3 rfl rfl rfl rfl) rfl ?_
        refine ne (eo_field rfl f32_2 rfl) rfl ?_
        refine ne (eo_load 4 rfl s3 rfl rfl rfl rfl) rfl ?_
        refine ne (eo_add rfl rfl rfl (by omega) (by omega)) rfl ?_
        refine ne (eo_field rfl f32_0 rfl) rfl ?_
        refine ne (eo_load 1 rfl s3 rfl rfl rfl rfl) rfl ?_
        refine ne (eo_sub rfl rfl rfl (by omega) (by omega)) rfl ?_
        refine ne (eo_field rfl f32_2 rfl) rfl ?_
        refine nu (xo_store 1 rfl s3 rfl rfl (by first | rfl | exact AS.one) rfl rfl (by simp)) ?_
        rintro _ _ ⟨rfl, rfl⟩
        refine go_nil ?_
        refine gq_block_end ?_
        refine gq_next ?_
        refine gc_seq ?_
        refine gc_draw [] [0, 1, 2, 3, 5, 6, 7, 8] [4, 9] [10, 11] (by kernel_rfl) (by kernel_rfl) ?_
        refine gp_nil ?_
        refine de rfl (eo_loadA 6 rfl a24 rfl rfl rfl rfl) rfl ?_
        refine de rfl (eo_loadA 0 rfl a32 rfl rfl rfl rfl) rfl ?_
        refine de rfl (eo_mv rfl rfl) rfl ?_
        refine de rfl (eo_mv rfl rfl) rfl ?_
        refine de rfl (eo_loadA 6 rfl a24 rfl rfl rfl rfl) rfl ?_
        refine de rfl (eo_loadA 1 rfl a32 rfl rfl rfl rfl) rfl ?_
        refine de rfl (eo_mv rfl rfl) rfl ?_
        refine de rfl (eo_mv rfl rfl) rfl ?_
        refine ge_nil ?_
        refine da rfl (xo_freshT rfl en37 rfl (fun W1 hO => ih ⟨(redB f W b).X, (redB f W b).Y, (wC f W gx (redB f W b)).1 - (redB f W b).X, (redB f W b).H⟩ W1 (hr.old0 hO) sq.sp.pin (by simp only; omega))) rfl ?_
        rintro _ _ ⟨_, ⟨s98, hs98, rfl, rfl⟩, rfl⟩
        refine ⟨List.sublist_append_left _ _, ?_⟩
        refine da rfl (xo_fresh rfl en37 rfl (fun W1 hO => ih ⟨(wC f W gx (redB f W b)).1 + (wC f W gx (redB f W b)).2, (redB f W b).Y, (redB f W b).X + (redB f W b).W - ((wC f W gx (redB f W b)).1 + (wC f W gx (redB f W b)).2), (redB f W b).H⟩ W1 (hr.old0 hO) sq.sp.qin (by simp only; omega))) rfl ?_
        rintro _ _ ⟨_, ⟨s103, hs103, rfl, rfl⟩, rfl⟩
        refine ⟨(List.sublist_append_left _ _).trans (List.sublist_append_right _ _), ?_⟩
        refine ga_nil ?_
        refine ix rfl (xo_joinA (n' := ((divL f W gx gy k ⟨(redB f W b).X, (redB f W b).Y, (wC f W gx (redB f W b)).1 - (redB f W b).X, (redB f W b).H⟩) ++ (divL f W gx gy k ⟨(wC f W gx (redB f W b)).1 + (wC f W gx (redB f W b)).2, (redB f W b).Y, (redB f W b).X + (redB f W b).W - ((wC f W gx (redB f W b)).1 + (wC f W gx (redB f W b)).2), (redB f W b).H⟩)).length) (⟨g13, 32, [.int .i64 ((redB f W b).X), .int .i64 ((redB f W b).Y), .int .i64 ((wC f W gx (redB f W b)).1 - (redB f W b).X), .int .i64 ((redB f W b).H)]⟩ :: ⟨g14, 32, [.int .i64 ((wC f W gx (redB f W b)).1 + (wC f W gx (redB f W b)).2), .int .i64 ((redB f W b).Y), .int .i64 (((redB f W b).X + (redB f W b).W) - ((wC f W gx (redB f W b)).1 + (wC f W gx (redB f W b)).2)), .int .i64 ((redB f W b).H)]⟩ :: ⟨g11, 38, [.int .i64 ((wC f W gx (redB f W b)).1), .int .i64 ((wC f W gx (redB f W b)).2)]⟩ :: ⟨g12, 38, [.int .i64 ((wR f W gy (redB f W b)).1), .int .i64 ((wR f W gy (redB f W b)).2)]⟩ :: ⟨g9, 32, [.int .i64 ((redB f W b).X), .int .i64 ((redB f W b).Y), .int .i64 ((redB f W b).W), .int .i64 ((redB f W b).H)]⟩ :: ⟨g5, 32, [.int .i64 b.X, .int .i64 b.Y, .int .i64 b.W, .int .i64 b.H]⟩ :: ⟨g4, 24, [.int .i64 W, .int .i64 H, .slice A n c]⟩ :: (S25 ++ S30)) rfl rfl Try.underlying27 en_32 rfl hs98 rfl hs103 tab_onei (List.length_append).symm bx_join (by rw [← hdj]; simp only [maxLen]; omega) (by rw [← hdj]; omega)) rfl ?_
        rintro _ _ ⟨s104, hs104, rfl, rfl⟩
        refine ie rfl (eo_as rfl rfl) rfl ?_
        refine gi_nil ?_
        refine gq_nq ?_
        refine gq_next ?_
        refine gc_ret ?_
        refine gq_results (res1 rfl rfl) ?_
        rw [hdj]
        exact fun W1 hO => ⟨_, _, rfl, ⟨s104, hs104, rfl, rfl⟩, hO.sub (List.sublist_append_right _ _)⟩
      ·
        have hd2 := of_decide_eq_false hc2
        have hco : ¬ isCo f W gx gy (redB f W b) := hd2
        have sq := sq_spec (k := k) htg hnl (by omega) (sp1_ro hco) (sp2_ro hco)
        have spl := sq.sp.pl
        have sql := sq.sp.ql
        simp only at spl sql
        have hdj := div_join hnz sq
        refine gc_seq ?_
        refine gc_region ?_
        refine ne (eo_field rfl f38_0 rfl) rfl ?_
        refine ne (eo_load 3 rfl s3 rfl rfl rfl rfl) rfl ?_
        refine ne (eo_field rfl f32_1 rfl) rfl ?_
        refine ne (eo_load 4 rfl s3 rfl rfl rfl rfl) rfl ?_
        refine ne (eo_sub rfl rfl rfl (by omega) (by omega)) rfl ?_
        refine ne (eo_field rfl f32_3 rfl) rfl ?_
        refine nu (xo_store 0 rfl s3 rfl rfl (by first | rfl | exact AS.one) rfl rfl (by simp)) ?_
        rintro _ _ ⟨rfl, rfl⟩
        refine go_nil ?_
        refine gq_next ?_
        refine gc_seq ?_
        refine gc_region ?_
        refine ne (eo_field rfl f38_0 rfl) rfl ?_
        refine ne (eo_load 3 rfl s3 rfl rfl rfl rfl) rfl ?_
        refine ne (eo_field rfl f38_1 rfl) rfl ?_
        refine ne (eo_load 3 rfl s3 rfl rfl rfl rfl) rfl ?_
        refine ne (eo_add rfl rfl rfl (by omega) (by omega)) rfl ?_
        refine ne (eo_field rfl f32_1 rfl) rfl ?_
        refine nu (xo_store 1 rfl s3 rfl rfl (by first | rfl | exact AS.one) rfl rfl (by simp)) ?_
        rintro _ _ ⟨rfl, rfl⟩
        refine go_nil ?_
        refine gq_next ?_
        refine gc_region ?_
        refine ne (eo_field rfl f32_1 rfl) rfl ?_
        refine ne (eo_load 4 rfl s3 rfl rfl rfl rfl) rfl ?_
        refine ne (eo_field rfl f32_3 rfl) rfl ?_
        refine ne (eo_load 4 rfl s3 rfl rfl rfl rfl) rfl ?_
        refine ne (eo_add rfl rfl rfl (by omega) (by omega)) rfl ?_
        refine ne (eo_field rfl f32_1 rfl) rfl ?_
        refine ne (eo_load 1 rfl s3 rfl rfl rfl rfl) rfl ?_
        refine ne (eo_sub rfl rfl rfl (by omega) (by omega)) rfl ?_
        refine ne (eo_field rfl f32_3 rfl) rfl ?_
        refine nu (xo_store 1 rfl s3 rfl rfl (by first | rfl | exact AS.one) rfl rfl (by simp)) ?_
        rintro _ _ ⟨rfl, rfl⟩
        refine go_nil ?_
        refine gq_block_end ?_
        refine gq_next ?_
        refine gc_seq ?_
        refine gc_draw [] [0, 1, 2, 3, 5, 6, 7, 8] [4, 9] [10, 11] (by kernel_rfl) (by kernel_rfl) ?_
        refine gp_nil ?_
        refine de rfl (eo_loadA 6 rfl a24 rfl rfl rfl rfl) rfl ?_
        refine de rfl (eo_loadA 0 rfl a32 rfl rfl rfl rfl) rfl ?_
        refine de rfl (eo_mv rfl rfl) rfl ?_
        refine de rfl (eo_mv rfl rfl) rfl ?_
        refine de rfl (eo_loadA 6 rfl a24 rfl rfl rfl rfl) rfl ?_
        refine de rfl (eo_loadA 1 rfl a32 rfl rfl rfl rfl) rfl ?_
        refine de rfl (eo_mv rfl rfl) rfl ?_
        refine de rfl (eo_mv rfl rfl) rfl ?_
        refine ge_nil ?_
        refine da rfl (xo_freshT rfl en37 rfl (fun W1 hO => ih ⟨(redB f W b).X, (redB f W b).Y, (redB f W b).W, (wR f W gy (redB f W b)).1 - (redB f W b).Y⟩ W1 (hr.old0 hO) sq.sp.pin (by simp only; omega))) rfl ?_
        rintro _ _ ⟨_, ⟨s98, hs98, rfl, rfl⟩, rfl⟩
        refine ⟨List.sublist_append_left _ _, ?_⟩
        refine da rfl (xo_fresh rfl en37 rfl (fun W1 hO => ih ⟨(redB f W b).X, (wR f W gy (redB f W b)).1 + (wR f W gy (redB f W b)).2, (redB f W b).W, (redB f W b).Y + (redB f W b).H - ((wR f W gy (redB f W b)).1 + (wR f W gy (redB f W b)).2)⟩ W1 (hr.old0 hO) sq.sp.qin (by simp only; omega))) rfl ?_
        rintro _ _ ⟨_, ⟨s103, hs103, rfl, rfl⟩, rfl⟩
        refine ⟨(List.sublist_append_left _ _).trans (List.sublist_append_right _ _), ?_⟩
        refine ga_nil ?_
        refine ix rfl (xo_joinA (n' := ((divL f W gx gy k ⟨(redB f W b).X, (redB f W b).Y, (redB f W b).W, (wR f W gy (redB f W b)).1 - (redB f W b).Y⟩) ++ (divL f W gx gy k ⟨(redB f W b).X, (wR f W gy (redB f W b)).1 + (wR f W gy (redB f W b)).2, (redB f W b).W, (redB f W b).Y + (redB f W b).H - ((wR f W gy (redB f W b)).1 + (wR f W gy (redB f W b)).2)⟩)).length) (⟨g13, 32, [.int .i64 ((redB f W b).X), .int .i64 ((redB f W b).Y), .int .i64 ((redB f W b).W), .int .i64 ((wR f W gy (redB f W b)).1 - (redB f W b).Y)]⟩ :: ⟨g14, 32, [.int .i64 ((redB f W b).X), .int .i64 ((wR f W gy (redB f W b)).1 + (wR f W gy (redB f W b)).2), .int .i64 ((redB f W b).W), .int .i64 (((redB f W b).Y + (redB f W b).H) - ((wR f W gy (redB f W b)).1 + (wR f W gy (redB f W b)).2))]⟩ :: ⟨g11, 38, [.int .i64 ((wC f W gx (redB f W b)).1), .int .i64 ((wC f W gx (redB f W b)).2)]⟩ :: ⟨g12, 38, [.int .i64 ((wR f W gy (redB f W b)).1), .int .i64 ((wR f W gy (redB f W b)).2)]⟩ :: ⟨g9, 32, [.int .i64 ((redB f W b).X), .int .i64 ((redB f W b).Y), .int .i64 ((redB f W b).W), .int .i64 ((redB f W b).H)]⟩ :: ⟨g5, 32, [.int .i64 b.X, .int .i64 b.Y, .int .i64 b.W, .int .i64 b.H]⟩ :: ⟨g4, 24, [.int .i64 W, .int .i64 H, .slice A n c]⟩ :: (S25 ++ S30)) rfl rfl Try.underlying27 en_32 rfl hs98 rfl hs103 tab_onei (List.length_append).symm bx_join (by rw [← hdj]; simp only [maxLen]; omega) (by rw [← hdj]; omega)) rfl ?_
        rintro _ _ ⟨s104, hs104, rfl, rfl⟩
        refine ie rfl (eo_as rfl rfl) rfl ?_
        refine gi_nil ?_
        refine gq_nq ?_
        refine gq_next ?_
        refine gc_ret ?_
        refine gq_results (res1 rfl rfl) ?_
        rw [hdj]
        exact fun W1 hO => ⟨_, _, rfl, ⟨s104, hs104, rfl, rfl⟩, hO.sub (List.sublist_append_right _ _)⟩

theorem rdiv_x (W H : Int) (A : Option Addr) (n c : Nat) (f : Nat → Bool) (gx gy : Int) (hv : vldB W H n = true) : ∀ (k : Nat) (b : Bx) (w : World) (hr : Rd w A (tab n (bv f))) (hb : BIn W H b) (hk : b.W + b.H ≤ (k : Int)), Calls Try.prog 37 #[.agg #[.int .i64 W, .int .i64 H, .slice A n c], .agg #[.int .i64 b.X, .int .i64 b.Y, .int .i64 b.W, .int .i64 b.H], .int .i64 gx, .int .i64 gy] w (fun e w' => ∃ v Hn, e = .returned v ∧ RApp [] 32 4 (divL f W gx gy k b).length (tab ((divL f W gx gy k b).length * 4) (iv .i64 (bxG (divL f W gx gy k b)))) v Hn ∧ Ow [] w w' Hn)
  | 0, b, w, hr, hb, hk => rdiv_nil W H A n c f b gx gy w hr 0 hv hb (div_zero hb hk)
  | k + 1, b, w, hr, hb, hk => by
    by_cases hz : bxS f W b = 0
    · exact rdiv_nil W H A n c f b gx gy w hr (k + 1) hv hb hz
    · exact rdiv_step W H A n c f b gx gy w hr k (rdiv_x W H A n c f gx gy hv k) hv hb (by push_cast at hk; exact hk) hz

end Go.Proofs.Ytnmiljloifbjeaa
