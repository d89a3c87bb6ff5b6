/-
  The walks of the functions of package printing and of the document's answer (part L): what each call returns, at every argument.
-/
import Derived.Test.YtibooikbbcilcaaWK
namespace Go.Proofs.Ytibooikbbcilcaa
open Go.RowKit Go.Eng

open Go.Bs
theorem f54_1 : FieldAt Try.prog 54 1 1 := ⟨_, _, 0, Try.underlying54, rfl, by kernel_rfl, rfl⟩
theorem f54_2 : FieldAt Try.prog 54 2 2 := ⟨_, _, 0, Try.underlying54, rfl, by kernel_rfl, rfl⟩
theorem f54_3 : FieldAt Try.prog 54 3 3 := ⟨_, _, 0, Try.underlying54, rfl, by kernel_rfl, rfl⟩
theorem s40 : TyS Try.prog 40 := ⟨⟨_, Try.underlying40, rfl⟩, by kernel_rfl⟩
theorem en55 : Ent Try.prog 55 := ent_of Try.func55 (by kernel_rfl) rfl
theorem b76_0 (x0f : Fn) (x0a x0b : Array Value) (W : World) : (Instr.build 76 #[(0, .func x0f x0a x0b)]).run Try.prog W = .ok (.agg #[.func x0f x0a x0b]) W := by kernel_rfl
theorem litdeg (gd : Nat) (W : World) : (Instr.buildSlice 72 2 #[(0, .agg #[.func (.func 53) #[] #[.pointer (some ⟨gd, 0, none⟩)]]), (1, .agg #[.func (.func 54) #[] #[.pointer (some ⟨gd, 0, none⟩)]])]).run Try.prog W = .ok (.slice (some ⟨W.heap.size, 0, none⟩) 2 2) (W.alloc (.cells #[.func (.func 53) #[] #[.pointer (some ⟨gd, 0, none⟩)], .func (.func 54) #[] #[.pointer (some ⟨gd, 0, none⟩)]] 76)) := by kernel_rfl
theorem f54_0 : FieldAt Try.prog 54 0 0 := ⟨_, _, 0, Try.underlying54, rfl, by kernel_rfl, rfl⟩
theorem en28 : Ent Try.prog 28 := ent_of Try.func28 (by kernel_rfl) rfl
theorem en29 : Ent Try.prog 29 := ent_of Try.func29 (by kernel_rfl) rfl
theorem a54 : TyA Try.prog 54 4 := ⟨⟨_, Try.underlying54, rfl⟩, by kernel_rfl⟩
theorem en45 : Ent Try.prog 45 := ent_of Try.func45 (by kernel_rfl) rfl
theorem sl72 : TySl Try.prog 72 76 1 := ⟨Try.underlying72, by kernel_rfl⟩
theorem a76 : TyA Try.prog 76 1 := ⟨⟨_, Try.underlying76, rfl⟩, by kernel_rfl⟩
theorem z76 : TyZ Try.prog 76 [.nilFunc] := .inl (by kernel_rfl)
theorem f76_0 : FieldAt Try.prog 76 0 0 := ⟨_, _, 0, Try.underlying76, rfl, by kernel_rfl, rfl⟩
theorem s74 : TyS Try.prog 74 := ⟨⟨_, Try.underlying74, rfl⟩, by kernel_rfl⟩
theorem en53 : Ent Try.prog 53 := ent_of Try.func53 (by kernel_rfl) rfl
theorem en54 : Ent Try.prog 54 := ent_of Try.func54 (by kernel_rfl) rfl

/-- barscan/printing.soil -/
theorem soil_x (W H : Int) (A : Option Addr) (n c : Nat) (f : Nat → Int) (d : Int) (sd : Int) (w : World) (hr : Rd w A (tab n (iv .u8 f))) (hv : vldB W H n = true) (hp : PixOk n f) (hs0 : 0 ≤ sd) (hs1 : sd ≤ 4294967295) :
    Calls Try.prog 55 #[.agg #[.int .i64 W, .int .i64 H, .slice A n c], .int .i64 d, .int .u32 sd] w (fun e w' => ∃ v Hn, e = .returned v ∧ RXi (soilR ⟨W, H, n, f⟩ d sd) v Hn ∧ Ow [] w w' Hn) := by
  obtain ⟨v1, v2, v3, v4, v5, v6⟩ := vldB_iff.1 hv
  have v7 := vld_pos hv
  refine calls_enter (N := ⟨53, []⟩) [] ([]) Try.func55 rfl rfl rfl (Ow.start _) ?_
  refine gc_seq ?_
  refine gc_region ?_
  refine nx (xo_boxA rfl rfl) rfl ?_
  rintro _ _ ⟨g3, rfl, rfl⟩
  refine nx (xo_alloc rfl z24) rfl ?_
  rintro _ _ ⟨g6, rfl, rfl⟩
  refine ne (eo_as rfl rfl) rfl ?_
  refine go_nil ?_
  refine gq_next ?_
  refine gc_seq ?_
  refine gc_region ?_
  refine ne (eo_field rfl f24_0 rfl) rfl ?_
  refine ne (eo_load 1 rfl s3 rfl rfl rfl rfl) rfl ?_
  refine ne (eo_field rfl f24_1 rfl) rfl ?_
  refine ne (eo_load 1 rfl s3 rfl rfl rfl rfl) rfl ?_
  refine ne (eo_mv rfl rfl) rfl ?_
  refine ne (eo_mv rfl rfl) rfl ?_
  refine nx (xo_freshT rfl en16 rfl (fun W1 hO => places_x _ _ _ _ W1  (by omega) (by omega))) rfl ?_
  rintro _ _ ⟨S20, ⟨A20, k20, rfl, hk20, hS20⟩, rfl⟩
  refine ne (eo_mv rfl rfl) rfl ?_
  refine ne (eo_extract rfl rfl rfl) rfl ?_
  refine ne (eo_extract rfl rfl rfl) rfl ?_
  refine ne (eo_as rfl rfl) rfl ?_
  refine ne (eo_as rfl rfl) rfl ?_
  refine go_nil ?_
  refine gq_next ?_
  refine gc_seq ?_
  refine gc_seq ?_
  refine gc_region ?_
  refine ne (eo_mv rfl rfl) rfl ?_
  refine ne (eo_neq rfl rfl rfl) rfl ?_
  refine go_nil ?_
  refine gq_next ?_
  refine gc_cond rfl (fun hc0 => ?_) (fun hc0 => ?_)
  ·
    replace hc0 := of_decide_eq_true hc0
    refine gc_seq ?_
    refine gc_region ?_
    refine ne (eo_build rfl rfl (b24_)) rfl ?_
    refine ne (eo_mv rfl rfl) rfl ?_
    refine nu (xo_storeA 0 rfl a24 rfl rfl (ones_cons (by first | rfl | exact AS.one) (ones_cons (by first | rfl | exact AS.one) (ones_cons (by first | rfl | exact AS.one) ones_nil))) rfl rfl rfl rfl) ?_
    rintro _ _ ⟨rfl, rfl⟩
    refine ne (eo_as rfl rfl) rfl ?_
    refine go_nil ?_
    refine gq_next ?_
    refine gc_ret ?_
    refine gq_then_ret ?_
    refine gq_results (resCT 0 rfl a24 rfl rfl rfl rfl rfl) ?_
    exact fun W1 hO => rxi_nil hO (soilR_err (m := ⟨W, H, n, f⟩) hc0)
  ·
    replace hc0 := of_decide_eq_false hc0
    have hz : (placesR W H d sd).2 = 0 := Decidable.not_not.1 hc0
    obtain ⟨hfz, hnz⟩ := places_zero hz
    have hR := placesR_ok (s := sd) hfz hnz
    have hN1 : (placesR W H d sd).1.1 = d.toNat := by rw [hR]
    have hnn : (W * H).toNat = n := by omega
    refine gc_skip ?_
    refine gq_next ?_
    refine gc_seq ?_
    refine gc_draw_new (i := 8) (d := 10) [] [0, 1, 2, 3, 4, 5] [6, 7] [9] (by kernel_rfl) (by kernel_rfl) rfl z24 rfl ?_
    refine gp_nil ?_
    refine de rfl (eo_field rfl f24_0 rfl) rfl ?_
    refine de rfl (eo_load 1 rfl s3 rfl rfl rfl rfl) rfl ?_
    refine de rfl (eo_field rfl f24_1 rfl) rfl ?_
    refine de rfl (eo_load 1 rfl s3 rfl rfl rfl rfl) rfl ?_
    refine de rfl (eo_field rfl f24_2 rfl) rfl ?_
    refine de rfl (eo_load 1 rfl s22 rfl rfl rfl rfl) rfl ?_
    refine ge_nil ?_
    refine ⟨rfl, ?_⟩
    refine da rfl (xo_grabNF (F := (iv .u8 f)) rfl Try.underlying22 e5.toN rfl rfl (fun W1 hO => (hr.old0 hO)) tab_onei (by omega) (by omega) (by decide)) rfl ?_
    rintro _ _ ⟨gn33, cn33, sn33, rfl, rfl, hcn33⟩
    refine ⟨by first | exact (List.Sublist.cons _ (List.Sublist.refl _)) | exact (List.sublist_append_left _ _), ?_⟩
    refine da rfl (xo_of_eo (eo_build rfl rfl (b24_012 _ _ _ _ _))) rfl ?_
    rintro _ _ ⟨rfl, rfl⟩
    refine ⟨by first | exact (List.Sublist.cons _ (List.Sublist.refl _)) | exact (List.sublist_append_left _ _), ?_⟩
    refine ga_nil ?_
    intro g10
    refine iu rfl (xo_storeA 0 rfl a24 rfl rfl (ones_cons (by first | rfl | exact AS.one) (ones_cons (by first | rfl | exact AS.one) (ones_cons (by first | rfl | exact AS.one) ones_nil))) rfl rfl rfl rfl) ?_
    rintro _ _ ⟨rfl, rfl⟩
    refine gi_nil ?_
    refine gq_nq ?_
    refine gq_next ?_
    refine gc_seq ?_
    refine gc_seq ?_
    refine gc_region ?_
    refine ne (eo_mv rfl rfl) rfl ?_
    refine ne (eo_len rfl Try.underlying41 rfl) rfl ?_
    refine ne (eo_mv rfl rfl) rfl ?_
    refine go_nil ?_
    refine gq_next ?_
    refine gc_block ?_
    refine loop1 (fun (k : Nat) => k ≤ d.toNat) (fun (k : Nat) => d.toNat - k) (fun (k : Nat) => [(6, .pointer (some ⟨g6, 0, none⟩)), (10, .pointer (some ⟨g10, 0, none⟩)), (35, .slice A20 ((placesR W H d sd).1.1) k20), (36, .int .i64 (((placesR W H d sd).1.1 : Nat) : Int)), (37, .int .i64 (k : Int))]) (fun (k : Nat) => ⟨g10, 24, [.int .i64 W, .int .i64 H, .slice (some ⟨gn33, 0, none⟩) n cn33]⟩ :: ⟨gn33, 5, tab n (iv .u8 (invF (plF n sd) f k)) ++ sn33⟩ :: ⟨g6, 24, [.int .i64 0, .int .i64 0, .slice none 0 0]⟩ :: ⟨g3, 24, [.int .i64 W, .int .i64 H, .slice A n c]⟩ :: S20) 0 (by omega) ⟨rfl, rfl, rfl, rfl, rfl, trivial⟩ (List.Sublist.refl _) ?_
    intro k hk
    refine gc_seq ?_
    refine gc_region ?_
    refine ne (eo_lss rfl rfl rfl) rfl ?_
    refine go_nil ?_
    refine gq_next ?_
    refine gc_seq ?_
    refine gc_cond rfl (fun hc1 => ?_) (fun hc1 => ?_)
    ·
      replace hc1 := of_decide_eq_true hc1
      have hpk : (placesR W H d sd).1.2 (k : Int).toNat = ((plF n sd k : Nat) : Int) := by rw [hR, ← hnn]; rfl
      have hpl := plF_lt (N := n) (s := sd) (i := k) (by omega)
      have hpx := inv_pix (p := plF n sd) hp k (plF n sd k) hpl
      have hpt : ((placesR W H d sd).1.2 (k : Int).toNat).toNat = plF n sd k := by rw [hpk]; rfl
      have hpv : invF (plF n sd) f k (((placesR W H d sd).1.2 (k : Int).toNat).toNat) = invF (plF n sd) f k (plF n sd k) := by rw [hpt]
      refine gc_skip ?_
      refine gq_next ?_
      refine gc_seq ?_
      refine gc_block ?_
      refine gc_seq ?_
      refine gc_region ?_
      refine ne (eo_indexS rfl sl41 rfl rfl (fun W1 hO => (hS20.rd (hO.tl 4 rfl (List.Sublist.refl _)))) (by simp) (by omega) (by omega)) rfl ?_
      refine ne (eo_loadS rfl s3 rfl (fun W1 hO => Rd.tabi (hS20.rd (hO.tl 4 rfl (List.Sublist.refl _))) (by omega))) rfl ?_
      refine ne (eo_as rfl rfl) rfl ?_
      refine go_nil ?_
      refine gq_next ?_
      refine gc_draw [] [0, 1, 2, 3, 4, 5, 6, 7, 8, 9] [] [10] (by kernel_rfl) (by kernel_rfl) ?_
      refine gp_nil ?_
      refine de rfl (eo_field rfl f24_2 rfl) rfl ?_
      refine de rfl (eo_load 0 rfl s22 rfl rfl rfl rfl) rfl ?_
      refine de rfl (eo_mv rfl rfl) rfl ?_
      refine de rfl (eo_field rfl f24_2 rfl) rfl ?_
      refine de rfl (eo_load 0 rfl s22 rfl rfl rfl rfl) rfl ?_
      refine de rfl (eo_mv rfl rfl) rfl ?_
      refine de rfl (eo_index0 rfl sl22 rfl rfl (by omega) (by omega)) rfl ?_
      refine de rfl (eo_geti 1 rfl s5 rfl rfl (by omega)) rfl ?_
      refine de rfl (eo_subk rfl rfl rfl (u8_in (by omega) (by omega))) rfl ?_
      refine de rfl (eo_index0 rfl sl22 rfl rfl (by omega) (by omega)) rfl ?_
      refine ge_nil ?_
      refine ga_nil ?_
      refine iu rfl (xo_seti 1 rfl s5 rfl rfl rfl (by omega)) ?_
      rintro _ _ ⟨rfl, rfl⟩
      refine gi_nil ?_
      refine gq_nq ?_
      refine gq_block_end ?_
      refine gq_next ?_
      refine gc_region ?_
      refine ne (eo_add rfl rfl rfl (by omega) (by omega)) rfl ?_
      refine ne (eo_mv rfl rfl) rfl ?_
      refine go_nil ?_
      rw [hpk]
      exact round1 (k + 1) (by omega) (by omega) ⟨rfl, rfl, rfl, rfl, rfl, trivial⟩ (List.Sublist.refl _)
    ·
      replace hc1 := of_decide_eq_false hc1
      refine gc_exit ?_
      refine gq_then_exit ?_
      refine gq_then_exit ?_
      refine gq_block_hit ?_
      refine gq_next ?_
      refine gc_seq ?_
      refine gc_region ?_
      refine ne (eo_loadA 0 rfl a24 rfl rfl rfl rfl) rfl ?_
      refine nu (xo_storeA 2 rfl a24 rfl rfl (ones_cons (by first | rfl | exact AS.one) (ones_cons (by first | rfl | exact AS.one) (ones_cons (by first | rfl | exact AS.one) ones_nil))) rfl rfl rfl rfl) ?_
      rintro _ _ ⟨rfl, rfl⟩
      refine ne (eo_as rfl rfl) rfl ?_
      refine go_nil ?_
      refine gq_next ?_
      refine gc_ret ?_
      refine gq_results (resCT 2 rfl a24 rfl rfl rfl rfl rfl) ?_
      exact fun W1 hO => rxi_own 1 hO rfl (soilR_ok (m := ⟨W, H, n, f⟩) hz) (fun j hj => by rw [show k = d.toNat by omega]) (by omega)

/-- barscan/printing.degradations_1 -/
theorem deg1_x (W H : Int) (A : Option Addr) (n c : Nat) (f : Nat → Int) (gr : Nat) (t bl d sd : Int) (w : World) (hr : Rd w A (tab n (iv .u8 f))) (hcr : ∀ k v, [.int .i64 t, .int .i64 bl, .int .i64 d, .int .u32 sd][k]? = some v → w.cell? ⟨gr, k, none⟩ = some v)  (hp : PixOk n f) :
    Calls Try.prog 53 #[.agg #[.int .i64 W, .int .i64 H, .slice A n c], .pointer (some ⟨gr, 0, none⟩)] w (fun e w' => ∃ v Hn, e = .returned v ∧ RXi (blurR ⟨W, H, n, f⟩ bl) v Hn ∧ Ow [] w w' Hn) := by
  refine calls_enter (N := ⟨11, []⟩) [] ([]) Try.func53 rfl rfl rfl (Ow.start _) ?_
  refine gc_seq ?_
  refine gc_region ?_
  refine nx (xo_boxA rfl rfl) rfl ?_
  rintro _ _ ⟨g2, rfl, rfl⟩
  refine nx (xo_alloc rfl z24) rfl ?_
  rintro _ _ ⟨g3, rfl, rfl⟩
  refine ne (eo_as rfl rfl) rfl ?_
  refine go_nil ?_
  refine gq_next ?_
  refine gc_seq ?_
  refine gc_region ?_
  refine ne (eo_loadA 1 rfl a24 rfl rfl rfl rfl) rfl ?_
  refine ne (eo_field rfl f54_1 rfl) rfl ?_
  refine ne (eo_load_old rfl s3 rfl (hcr 1 _ rfl) (by simp)) rfl ?_
  refine nx (xo_freshT rfl en11 rfl (fun W1 hO => blur_x _ _ _ _ _ _ _ W1 (hr.old0 hO) (by assumption))) rfl ?_
  rintro _ _ ⟨S8, ⟨A8, k8, rfl, hk8, hS8⟩, rfl⟩
  refine ne (eo_extract rfl rfl rfl) rfl ?_
  refine ne (eo_extract rfl rfl rfl) rfl ?_
  refine nu (xo_storeA 0 rfl a24 rfl rfl (ones_cons (by first | rfl | exact AS.one) (ones_cons (by first | rfl | exact AS.one) (ones_cons (by first | rfl | exact AS.one) ones_nil))) rfl rfl rfl rfl) ?_
  rintro _ _ ⟨rfl, rfl⟩
  refine ne (eo_as rfl rfl) rfl ?_
  refine go_nil ?_
  refine gq_next ?_
  refine gc_ret ?_
  refine gq_results (resCT 0 rfl a24 rfl rfl rfl rfl rfl) ?_
  exact fun W1 hO => rxi_pass (hO.tl 2 rfl (List.Sublist.refl _)) hk8 hS8 rfl

/-- barscan/printing.degradations_2 -/
theorem deg2_x (W H : Int) (A : Option Addr) (n c : Nat) (f : Nat → Int) (gr : Nat) (t bl d sd : Int) (w : World) (hr : Rd w A (tab n (iv .u8 f))) (hcr : ∀ k v, [.int .i64 t, .int .i64 bl, .int .i64 d, .int .u32 sd][k]? = some v → w.cell? ⟨gr, k, none⟩ = some v)  (hv : vldB W H n = true) (hp : PixOk n f) (hs0 : 0 ≤ sd) (hs1 : sd ≤ 4294967295) :
    Calls Try.prog 54 #[.agg #[.int .i64 W, .int .i64 H, .slice A n c], .pointer (some ⟨gr, 0, none⟩)] w (fun e w' => ∃ v Hn, e = .returned v ∧ RXi (soilR ⟨W, H, n, f⟩ d sd) v Hn ∧ Ow [] w w' Hn) := by
  refine calls_enter (N := ⟨13, []⟩) [] ([]) Try.func54 rfl rfl rfl (Ow.start _) ?_
  refine gc_seq ?_
  refine gc_region ?_
  refine nx (xo_boxA rfl rfl) rfl ?_
  rintro _ _ ⟨g2, rfl, rfl⟩
  refine nx (xo_alloc rfl z24) rfl ?_
  rintro _ _ ⟨g3, rfl, rfl⟩
  refine ne (eo_as rfl rfl) rfl ?_
  refine go_nil ?_
  refine gq_next ?_
  refine gc_seq ?_
  refine gc_region ?_
  refine ne (eo_loadA 1 rfl a24 rfl rfl rfl rfl) rfl ?_
  refine ne (eo_field rfl f54_2 rfl) rfl ?_
  refine ne (eo_load_old rfl s3 rfl (hcr 2 _ rfl) (by simp)) rfl ?_
  refine ne (eo_field rfl f54_3 rfl) rfl ?_
  refine ne (eo_load_old rfl s40 rfl (hcr 3 _ rfl) (by simp)) rfl ?_
  refine nx (xo_freshT rfl en55 rfl (fun W1 hO => soil_x _ _ _ _ _ _ _ _ W1 (hr.old0 hO) (by assumption) (by assumption) (by omega) (by omega))) rfl ?_
  rintro _ _ ⟨S10, ⟨A10, k10, rfl, hk10, hS10⟩, rfl⟩
  refine ne (eo_extract rfl rfl rfl) rfl ?_
  refine ne (eo_extract rfl rfl rfl) rfl ?_
  refine nu (xo_storeA 0 rfl a24 rfl rfl (ones_cons (by first | rfl | exact AS.one) (ones_cons (by first | rfl | exact AS.one) (ones_cons (by first | rfl | exact AS.one) ones_nil))) rfl rfl rfl rfl) ?_
  rintro _ _ ⟨rfl, rfl⟩
  refine ne (eo_as rfl rfl) rfl ?_
  refine go_nil ?_
  refine gq_next ?_
  refine gc_ret ?_
  refine gq_results (resCT 0 rfl a24 rfl rfl rfl rfl rfl) ?_
  exact fun W1 hO => rxi_pass (hO.tl 2 rfl (List.Sublist.refl _)) hk10 hS10 rfl

/-- barscan/printing.degradations -/
theorem degs_x (t bl d sd : Int) (w : World)   :
    Calls Try.prog 45 #[.agg #[.int .i64 t, .int .i64 bl, .int .i64 d, .int .u32 sd]] w (fun e w' => ∃ v Hn, e = .returned v ∧ (∃ gl gd, v = .slice (some ⟨gl, 0, none⟩) 2 2 ∧ Hn = [⟨gl, 76, [.func (.func 53) #[] #[.pointer (some ⟨gd, 0, none⟩)], .func (.func 54) #[] #[.pointer (some ⟨gd, 0, none⟩)]]⟩, ⟨gd, 54, [.int .i64 t, .int .i64 bl, .int .i64 d, .int .u32 sd]⟩]) ∧ Ow [] w w' Hn) := by
  refine calls_enter (N := ⟨8, []⟩) [] ([]) Try.func45 rfl rfl rfl (Ow.start _) ?_
  refine gc_seq ?_
  refine gc_region ?_
  refine nx (xo_boxA rfl rfl) rfl ?_
  rintro _ _ ⟨g1, rfl, rfl⟩
  refine ne (eo_as rfl rfl) rfl ?_
  refine go_nil ?_
  refine gq_next ?_
  refine gc_seq ?_
  refine gc_region ?_
  refine ne (eo_makeFunc rfl rfl rfl) rfl ?_
  refine ne (eo_build rfl rfl (b76_0 _ _ _)) rfl ?_
  refine ne (eo_makeFunc rfl rfl rfl) rfl ?_
  refine ne (eo_build rfl rfl (b76_0 _ _ _)) rfl ?_
  refine nx (xo_lit rfl rfl (litdeg _)) rfl ?_
  rintro _ _ ⟨gl, rfl, rfl⟩
  refine ne (eo_as rfl rfl) rfl ?_
  refine go_nil ?_
  refine gq_next ?_
  refine gc_ret ?_
  refine gq_results (res1 rfl rfl) ?_
  exact fun W1 hO => ⟨_, _, rfl, ⟨_, _, rfl, rfl⟩, hO⟩

/-- barscan/printing.Print -/
theorem print_x (W H : Int) (A : Option Addr) (n c : Nat) (f : Nat → Bool) (t bl d sd : Int) (w : World) (hr : Rd w A (tab n (bv f))) (hs0 : 0 ≤ sd) (hs1 : sd ≤ 4294967295) :
    Calls Try.prog 26 #[.agg #[.int .i64 W, .int .i64 H, .slice A n c], .agg #[.int .i64 t, .int .i64 bl, .int .i64 d, .int .u32 sd]] w (fun e w' => ∃ v Hn, e = .returned v ∧ RXi (printR ⟨W, H, n, f⟩ t bl d sd) v Hn ∧ Ow [] w w' Hn) := by
  refine calls_enter (N := ⟨80, []⟩) [] ([]) Try.func26 rfl rfl rfl (Ow.start _) ?_
  refine gc_seq ?_
  refine gc_region ?_
  refine nx (xo_boxA rfl rfl) rfl ?_
  rintro _ _ ⟨g2, rfl, rfl⟩
  refine nx (xo_boxA rfl rfl) rfl ?_
  rintro _ _ ⟨g3, rfl, rfl⟩
  refine nx (xo_alloc rfl z24) rfl ?_
  rintro _ _ ⟨g4, rfl, rfl⟩
  refine ne (eo_as rfl rfl) rfl ?_
  refine go_nil ?_
  refine gq_next ?_
  refine gc_seq ?_
  refine gc_seq ?_
  refine gc_region ?_
  refine ne (eo_loadA 2 rfl a33 rfl rfl rfl rfl) rfl ?_
  refine ne (eo_call rfl en35 rfl (fun W1 hO => check_c _ _ _ _ _ W1  )) rfl ?_
  refine ne (eo_neq rfl rfl rfl) rfl ?_
  refine go_nil ?_
  refine gq_next ?_
  refine gc_cond rfl (fun hc0 => ?_) (fun hc0 => ?_)
  ·
    replace hc0 := of_decide_eq_true hc0
    have hv := chk_f hc0
    refine gc_seq ?_
    refine gc_region ?_
    refine ne (eo_build rfl rfl (b24_)) rfl ?_
    refine nu (xo_storeA 0 rfl a24 rfl rfl (ones_cons (by first | rfl | exact AS.one) (ones_cons (by first | rfl | exact AS.one) (ones_cons (by first | rfl | exact AS.one) ones_nil))) rfl rfl rfl rfl) ?_
    rintro _ _ ⟨rfl, rfl⟩
    refine ne (eo_as rfl rfl) rfl ?_
    refine go_nil ?_
    refine gq_next ?_
    refine gc_ret ?_
    refine gq_then_ret ?_
    refine gq_results (resCT 0 rfl a24 rfl rfl rfl rfl rfl) ?_
    exact fun W1 hO => rxi_nil hO (printR_no hv)
  ·
    replace hc0 := of_decide_eq_false hc0
    have hv := chk_t hc0
    obtain ⟨v1, v2, v3, v4, v5, v6⟩ := vldB_iff.1 hv
    have v7 := vld_pos hv
    refine gc_skip ?_
    refine gq_next ?_
    refine gc_seq ?_
    refine gc_seq ?_
    refine gc_region ?_
    refine ne (eo_field rfl f54_1 rfl) rfl ?_
    refine ne (eo_load 1 rfl s3 rfl rfl rfl rfl) rfl ?_
    refine ne (eo_lss rfl rfl rfl) rfl ?_
    refine ne (eo_mv rfl rfl) rfl ?_
    refine ng rfl rfl (fun h => eo_field rfl f54_1 rfl) rfl ?_
    refine ng rfl rfl (fun h => eo_load 1 rfl s3 (ev_if h rfl) rfl rfl rfl) rfl ?_
    refine ng rfl rfl (fun h => eo_gtr rfl (ev_if h rfl) rfl) rfl ?_
    refine ne (eo_or rfl rfl (fun hb => ev_if hb rfl)) rfl ?_
    refine ne (eo_mv rfl rfl) rfl ?_
    refine ng rfl rfl (fun h => eo_field rfl f54_2 rfl) rfl ?_
    refine ng rfl rfl (fun h => eo_load 1 rfl s3 (ev_if h rfl) rfl rfl rfl) rfl ?_
    refine ng rfl rfl (fun h => eo_lss rfl (ev_if h rfl) rfl) rfl ?_
    refine ne (eo_or rfl rfl (fun hb => ev_if hb rfl)) rfl ?_
    refine ne (eo_mv rfl rfl) rfl ?_
    refine ng rfl rfl (fun h => eo_field rfl f54_2 rfl) rfl ?_
    refine ng rfl rfl (fun h => eo_load 1 rfl s3 (ev_if h rfl) rfl rfl rfl) rfl ?_
    refine ng rfl rfl (fun h => eo_field rfl f33_0 rfl) rfl ?_
    refine ng rfl rfl (fun h => eo_load 2 rfl s3 (ev_if h rfl) rfl rfl rfl) rfl ?_
    refine ng rfl rfl (fun h => eo_field rfl f33_1 rfl) rfl ?_
    refine ng rfl rfl (fun h => eo_load 2 rfl s3 (ev_if h rfl) rfl rfl rfl) rfl ?_
    refine ng rfl rfl (fun h => eo_mul rfl (ev_if h rfl) (ev_if h rfl) (by have hg0 := (or_f h).imp (fun h => (or_f h).imp (fun h => of_decide_eq_false h) (fun h => of_decide_eq_false h)) (fun h => of_decide_eq_false h); omega) (by have hg0 := (or_f h).imp (fun h => (or_f h).imp (fun h => of_decide_eq_false h) (fun h => of_decide_eq_false h)) (fun h => of_decide_eq_false h); omega)) rfl ?_
    refine ng rfl rfl (fun h => eo_min rfl (ev_if h rfl) rfl) rfl ?_
    refine ng rfl rfl (fun h => eo_gtr rfl (ev_if h rfl) (ev_if h rfl)) rfl ?_
    refine ne (eo_or rfl rfl (fun hb => ev_if hb rfl)) rfl ?_
    refine go_nil ?_
    refine gq_next ?_
    refine gc_cond rfl (fun hc1 => ?_) (fun hc1 => ?_)
    ·
      have hd1 := (or_t hc1).imp (fun h => (or_t h).imp (fun h => (or_t h).imp (fun h => of_decide_eq_true h) (fun h => of_decide_eq_true h)) (fun h => of_decide_eq_true h)) (fun h => of_decide_eq_true h)
      refine gc_seq ?_
      refine gc_region ?_
      refine ne (eo_build rfl rfl (b24_)) rfl ?_
      refine nu (xo_storeA 0 rfl a24 rfl rfl (ones_cons (by first | rfl | exact AS.one) (ones_cons (by first | rfl | exact AS.one) (ones_cons (by first | rfl | exact AS.one) ones_nil))) rfl rfl rfl rfl) ?_
      rintro _ _ ⟨rfl, rfl⟩
      refine ne (eo_as rfl rfl) rfl ?_
      refine go_nil ?_
      refine gq_next ?_
      refine gc_ret ?_
      refine gq_then_ret ?_
      refine gq_results (resCT 0 rfl a24 rfl rfl rfl rfl rfl) ?_
      exact fun W1 hO => rxi_nil hO (printR_range hv hd1)
    ·
      have hd1 := (or_f hc1).imp (fun h => (or_f h).imp (fun h => (or_f h).imp (fun h => of_decide_eq_false h) (fun h => of_decide_eq_false h)) (fun h => of_decide_eq_false h)) (fun h => of_decide_eq_false h)
      obtain ⟨e1, e2, e3, e4, e5, e6⟩ := print_steps (t := t) (bl := bl) (f := f) hv
      have e7 := e6 (by omega)
      have hx1 : PixOk (grayR (turnR ⟨W, H, n, f⟩ t).1).1.n (grayR (turnR ⟨W, H, n, f⟩ t).1).1.f := by rw [e5]; exact gray_pix
      have hx2 : PixOk (blurR (grayR (turnR ⟨W, H, n, f⟩ t).1).1 bl).1.n (blurR (grayR (turnR ⟨W, H, n, f⟩ t).1).1 bl).1.f := by rw [e7]; exact blur_pix
      have hv2 : vldB (blurR (grayR (turnR ⟨W, H, n, f⟩ t).1).1 bl).1.W (blurR (grayR (turnR ⟨W, H, n, f⟩ t).1).1 bl).1.H (blurR (grayR (turnR ⟨W, H, n, f⟩ t).1).1 bl).1.n = true := by rw [e7]; exact e3
      have hfz : fitsB (turnR ⟨W, H, n, f⟩ t).1.W (turnR ⟨W, H, n, f⟩ t).1.H = true := (vld_fits e3)
      have hpz : (placesR (blurR (grayR (turnR ⟨W, H, n, f⟩ t).1).1 bl).1.W (blurR (grayR (turnR ⟨W, H, n, f⟩ t).1).1 bl).1.H d sd).2 = 0 := by rw [e7]; simp only []; rw [placesR_ok hfz (by rw [e4]; omega)]
      refine gc_skip ?_
      refine gq_next ?_
      refine gc_seq ?_
      refine gc_region ?_
      refine ne (eo_loadA 2 rfl a33 rfl rfl rfl rfl) rfl ?_
      refine ne (eo_field rfl f54_0 rfl) rfl ?_
      refine ne (eo_load 1 rfl s3 rfl rfl rfl rfl) rfl ?_
      refine nx (xo_freshT rfl en28 rfl (fun W1 hO => turn_x _ _ _ _ _ _ _ W1 (hr.old0 hO) )) rfl ?_
      rintro _ _ ⟨S44, ⟨A44, k44, rfl, hk44, hS44⟩, rfl⟩
      refine ne (eo_mv rfl rfl) rfl ?_
      refine ne (eo_extract rfl rfl rfl) rfl ?_
      refine ne (eo_extract rfl rfl rfl) rfl ?_
      refine nx (xo_alloc rfl z33) rfl ?_
      rintro _ _ ⟨g6, rfl, rfl⟩
      refine nu (xo_storeA 0 rfl a33 rfl rfl (ones_cons (by first | rfl | exact AS.one) (ones_cons (by first | rfl | exact AS.one) (ones_cons (by first | rfl | exact AS.one) ones_nil))) rfl rfl rfl rfl) ?_
      rintro _ _ ⟨rfl, rfl⟩
      refine ne (eo_as rfl rfl) rfl ?_
      refine go_nil ?_
      refine gq_next ?_
      refine gc_seq ?_
      refine gc_seq ?_
      refine gc_region ?_
      refine ne (eo_mv rfl rfl) rfl ?_
      refine ne (eo_neq rfl rfl rfl) rfl ?_
      refine go_nil ?_
      refine gq_next ?_
      refine gc_cond rfl (fun hc2 => ?_) (fun hc2 => ?_)
      ·
        replace hc2 := of_decide_eq_true hc2
        exact absurd e1 hc2
      ·
        replace hc2 := of_decide_eq_false hc2
        refine gc_skip ?_
        refine gq_next ?_
        refine gc_seq ?_
        refine gc_region ?_
        refine ne (eo_loadA 0 rfl a33 rfl rfl rfl rfl) rfl ?_
        refine nx (xo_freshT rfl en29 rfl (fun W1 hO => gray_x _ _ _ _ _ _ W1 (hS44.rd (hO.tl 4 rfl (List.Sublist.refl _))) )) rfl ?_
        rintro _ _ ⟨S53, ⟨A53, k53, rfl, hk53, hS53⟩, rfl⟩
        refine ne (eo_mv rfl rfl) rfl ?_
        refine ne (eo_extract rfl rfl rfl) rfl ?_
        refine ne (eo_extract rfl rfl rfl) rfl ?_
        refine nx (xo_alloc rfl z24) rfl ?_
        rintro _ _ ⟨g8, rfl, rfl⟩
        refine nu (xo_storeA 0 rfl a24 rfl rfl (ones_cons (by first | rfl | exact AS.one) (ones_cons (by first | rfl | exact AS.one) (ones_cons (by first | rfl | exact AS.one) ones_nil))) rfl rfl rfl rfl) ?_
        rintro _ _ ⟨rfl, rfl⟩
        refine ne (eo_as rfl rfl) rfl ?_
        refine go_nil ?_
        refine gq_next ?_
        refine gc_seq ?_
        refine gc_seq ?_
        refine gc_region ?_
        refine ne (eo_mv rfl rfl) rfl ?_
        refine ne (eo_neq rfl rfl rfl) rfl ?_
        refine go_nil ?_
        refine gq_next ?_
        refine gc_cond rfl (fun hc3 => ?_) (fun hc3 => ?_)
        ·
          replace hc3 := of_decide_eq_true hc3
          exact absurd (by rw [e5]) hc3
        ·
          replace hc3 := of_decide_eq_false hc3
          refine gc_skip ?_
          refine gq_next ?_
          refine gc_seq ?_
          refine gc_seq ?_
          refine gc_region ?_
          refine ne (eo_loadA 3 rfl a54 rfl rfl rfl rfl) rfl ?_
          refine nx (xo_fresh rfl en45 rfl (fun W1 hO => degs_x _ _ _ _ W1)) rfl ?_
          rintro _ _ ⟨_, ⟨gl61, gd61, rfl, rfl⟩, rfl⟩
          refine ne (eo_len rfl Try.underlying72 rfl) rfl ?_
          refine ne (eo_mv rfl rfl) rfl ?_
          refine go_nil ?_
          refine gq_next ?_
          refine gc_block ?_
          refine gc_loopN 3 ?_
          refine gr_succ ?_
          refine gc_seq ?_
          refine gc_weak (L' := [(4, .pointer (some ⟨g4, 0, none⟩)), (8, .pointer (some ⟨g8, 0, none⟩)), (61, .slice (some ⟨gl61, 0, none⟩) 2 2), (62, .int .i64 ((2 : Nat) : Int)), (63, .int .i64 0)]) (H' := ⟨gl61, 76, [.func (.func 53) #[] #[.pointer (some ⟨gd61, 0, none⟩)], .func (.func 54) #[] #[.pointer (some ⟨gd61, 0, none⟩)]]⟩ :: ⟨gd61, 54, [.int .i64 t, .int .i64 bl, .int .i64 d, .int .u32 sd]⟩ :: ⟨g8, 24, [.int .i64 ((grayR (turnR ⟨W, H, n, f⟩ t).1).1.W), .int .i64 ((grayR (turnR ⟨W, H, n, f⟩ t).1).1.H), .slice A53 ((grayR (turnR ⟨W, H, n, f⟩ t).1).1.n) k53]⟩ :: ⟨g6, 33, [.int .i64 ((turnR ⟨W, H, n, f⟩ t).1.W), .int .i64 ((turnR ⟨W, H, n, f⟩ t).1.H), .slice A44 ((turnR ⟨W, H, n, f⟩ t).1.n) k44]⟩ :: ⟨g4, 24, [.int .i64 0, .int .i64 0, .slice none 0 0]⟩ :: ⟨g3, 54, [.int .i64 t, .int .i64 bl, .int .i64 d, .int .u32 sd]⟩ :: ⟨g2, 33, [.int .i64 W, .int .i64 H, .slice A n c]⟩ :: (S44 ++ S53)) ⟨rfl, rfl, rfl, rfl, rfl, trivial⟩ (List.Sublist.refl _) ?_
          refine gc_region ?_
          refine ne (eo_lss rfl rfl rfl) rfl ?_
          refine go_nil ?_
          refine gq_next ?_
          refine gc_seq ?_
          refine gc_cond rfl (fun hc4 => ?_) (fun hc4 => ?_)
          ·
            replace hc4 := of_decide_eq_true hc4
            refine gc_skip ?_
            refine gq_next ?_
            refine gc_seq ?_
            refine gc_block ?_
            refine gc_seq ?_
            refine gc_region ?_
            refine ne (eo_index0 rfl sl72 rfl rfl (by omega) (by omega)) rfl ?_
            refine ne (eo_loadM (cs := [.func (.func 53) #[] #[.pointer (some ⟨gd61, 0, none⟩)]]) 0 rfl a76 rfl rfl rfl rfl (by intro j hj; rcases j with _ | j; (· rfl); exact absurd hj (by omega))) rfl ?_
            refine nx (xo_alloc rfl z76) rfl ?_
            rintro _ _ ⟨g10, rfl, rfl⟩
            refine nu (xo_storeA 0 rfl a76 rfl rfl (ones_cons (by first | rfl | exact AS.one) ones_nil) rfl rfl rfl rfl) ?_
            rintro _ _ ⟨rfl, rfl⟩
            refine go_nil ?_
            refine gq_next ?_
            refine gc_seq ?_
            refine gc_region ?_
            refine ne (eo_field rfl f76_0 rfl) rfl ?_
            refine ne (eo_load 0 rfl s74 rfl rfl rfl rfl) rfl ?_
            refine ne (eo_loadA 3 rfl a24 rfl rfl rfl rfl) rfl ?_
            refine nx (xo_freshTv rfl rfl en53 rfl (fun W1 hO => deg1_x _ _ _ _ _ _ _ _ _ _ _ W1 (hS53.rd (hO.tl 8 rfl (List.sublist_append_right _ _))) (fun k v h => (hO.cell (i := 2) rfl k).trans h) hx1)) rfl ?_
            rintro _ _ ⟨S71, ⟨A71, k71, rfl, hk71, hS71⟩, rfl⟩
            refine ne (eo_mv rfl rfl) rfl ?_
            refine ne (eo_extract rfl rfl rfl) rfl ?_
            refine ne (eo_extract rfl rfl rfl) rfl ?_
            refine nu (xo_storeA 3 rfl a24 rfl rfl (ones_cons (by first | rfl | exact AS.one) (ones_cons (by first | rfl | exact AS.one) (ones_cons (by first | rfl | exact AS.one) ones_nil))) rfl rfl rfl rfl) ?_
            rintro _ _ ⟨rfl, rfl⟩
            refine ne (eo_as rfl rfl) rfl ?_
            refine go_nil ?_
            refine gq_next ?_
            refine gc_seq ?_
            refine gc_region ?_
            refine ne (eo_mv rfl rfl) rfl ?_
            refine ne (eo_neq rfl rfl rfl) rfl ?_
            refine go_nil ?_
            refine gq_next ?_
            refine gc_cond rfl (fun hc5 => ?_) (fun hc5 => ?_)
            ·
              replace hc5 := of_decide_eq_true hc5
              exact absurd (by rw [e7]) hc5
            ·
              replace hc5 := of_decide_eq_false hc5
              refine gc_skip ?_
              refine gq_block_end ?_
              refine gq_next ?_
              refine gc_region ?_
              refine ne (eo_add rfl rfl rfl (by omega) (by omega)) rfl ?_
              refine ne (eo_mv rfl rfl) rfl ?_
              refine go_nil ?_
              refine gq_rounds ?_
              refine gr_succ ?_
              refine gc_seq ?_
              refine gc_weak (L' := [(4, .pointer (some ⟨g4, 0, none⟩)), (8, .pointer (some ⟨g8, 0, none⟩)), (61, .slice (some ⟨gl61, 0, none⟩) 2 2), (62, .int .i64 ((2 : Nat) : Int)), (63, .int .i64 1)]) (H' := ⟨g10, 76, [.func (.func 53) #[] #[.pointer (some ⟨gd61, 0, none⟩)]]⟩ :: ⟨gl61, 76, [.func (.func 53) #[] #[.pointer (some ⟨gd61, 0, none⟩)], .func (.func 54) #[] #[.pointer (some ⟨gd61, 0, none⟩)]]⟩ :: ⟨gd61, 54, [.int .i64 t, .int .i64 bl, .int .i64 d, .int .u32 sd]⟩ :: ⟨g8, 24, [.int .i64 ((blurR (grayR (turnR ⟨W, H, n, f⟩ t).1).1 bl).1.W), .int .i64 ((blurR (grayR (turnR ⟨W, H, n, f⟩ t).1).1 bl).1.H), .slice A71 ((blurR (grayR (turnR ⟨W, H, n, f⟩ t).1).1 bl).1.n) k71]⟩ :: ⟨g6, 33, [.int .i64 ((turnR ⟨W, H, n, f⟩ t).1.W), .int .i64 ((turnR ⟨W, H, n, f⟩ t).1.H), .slice A44 ((turnR ⟨W, H, n, f⟩ t).1.n) k44]⟩ :: ⟨g4, 24, [.int .i64 0, .int .i64 0, .slice none 0 0]⟩ :: ⟨g3, 54, [.int .i64 t, .int .i64 bl, .int .i64 d, .int .u32 sd]⟩ :: ⟨g2, 33, [.int .i64 W, .int .i64 H, .slice A n c]⟩ :: ((S44 ++ S53) ++ S71)) ⟨rfl, rfl, rfl, rfl, rfl, trivial⟩ (List.Sublist.refl _) ?_
              refine gc_region ?_
              refine ne (eo_lss rfl rfl rfl) rfl ?_
              refine go_nil ?_
              refine gq_next ?_
              refine gc_seq ?_
              refine gc_cond rfl (fun hc4 => ?_) (fun hc4 => ?_)
              ·
                replace hc4 := of_decide_eq_true hc4
                refine gc_skip ?_
                refine gq_next ?_
                refine gc_seq ?_
                refine gc_block ?_
                refine gc_seq ?_
                refine gc_region ?_
                refine ne (eo_index0 rfl sl72 rfl rfl (by omega) (by omega)) rfl ?_
                refine ne (eo_loadM (cs := [.func (.func 54) #[] #[.pointer (some ⟨gd61, 0, none⟩)]]) 1 rfl a76 rfl rfl rfl rfl (by intro j hj; rcases j with _ | j; (· rfl); exact absurd hj (by omega))) rfl ?_
                refine nx (xo_alloc rfl z76) rfl ?_
                rintro _ _ ⟨g10r2, rfl, rfl⟩
                refine nu (xo_storeA 0 rfl a76 rfl rfl (ones_cons (by first | rfl | exact AS.one) ones_nil) rfl rfl rfl rfl) ?_
                rintro _ _ ⟨rfl, rfl⟩
                refine go_nil ?_
                refine gq_next ?_
                refine gc_seq ?_
                refine gc_region ?_
                refine ne (eo_field rfl f76_0 rfl) rfl ?_
                refine ne (eo_load 0 rfl s74 rfl rfl rfl rfl) rfl ?_
                refine ne (eo_loadA 4 rfl a24 rfl rfl rfl rfl) rfl ?_
                refine nx (xo_freshTv rfl rfl en54 rfl (fun W1 hO => deg2_x _ _ _ _ _ _ _ _ _ _ _ W1 (hS71.rd (hO.tl 9 rfl (List.sublist_append_right _ _))) (fun k v h => (hO.cell (i := 3) rfl k).trans h) hv2 hx2 hs0 hs1)) rfl ?_
                rintro _ _ ⟨S71r2, ⟨A71r2, k71r2, rfl, hk71r2, hS71r2⟩, rfl⟩
                refine ne (eo_mv rfl rfl) rfl ?_
                refine ne (eo_extract rfl rfl rfl) rfl ?_
                refine ne (eo_extract rfl rfl rfl) rfl ?_
                refine nu (xo_storeA 4 rfl a24 rfl rfl (ones_cons (by first | rfl | exact AS.one) (ones_cons (by first | rfl | exact AS.one) (ones_cons (by first | rfl | exact AS.one) ones_nil))) rfl rfl rfl rfl) ?_
                rintro _ _ ⟨rfl, rfl⟩
                refine ne (eo_as rfl rfl) rfl ?_
                refine go_nil ?_
                refine gq_next ?_
                refine gc_seq ?_
                refine gc_region ?_
                refine ne (eo_mv rfl rfl) rfl ?_
                refine ne (eo_neq rfl rfl rfl) rfl ?_
                refine go_nil ?_
                refine gq_next ?_
                refine gc_cond rfl (fun hc5 => ?_) (fun hc5 => ?_)
                ·
                  replace hc5 := of_decide_eq_true hc5
                  exact absurd (by rw [soilR_ok hpz]) hc5
                ·
                  replace hc5 := of_decide_eq_false hc5
                  refine gc_skip ?_
                  refine gq_block_end ?_
                  refine gq_next ?_
                  refine gc_region ?_
                  refine ne (eo_add rfl rfl rfl (by omega) (by omega)) rfl ?_
                  refine ne (eo_mv rfl rfl) rfl ?_
                  refine go_nil ?_
                  refine gq_rounds ?_
                  refine gr_succ ?_
                  refine gc_seq ?_
                  refine gc_weak (L' := [(4, .pointer (some ⟨g4, 0, none⟩)), (8, .pointer (some ⟨g8, 0, none⟩)), (61, .slice (some ⟨gl61, 0, none⟩) 2 2), (62, .int .i64 ((2 : Nat) : Int)), (63, .int .i64 2)]) (H' := ⟨g10r2, 76, [.func (.func 54) #[] #[.pointer (some ⟨gd61, 0, none⟩)]]⟩ :: ⟨g10, 76, [.func (.func 53) #[] #[.pointer (some ⟨gd61, 0, none⟩)]]⟩ :: ⟨gl61, 76, [.func (.func 53) #[] #[.pointer (some ⟨gd61, 0, none⟩)], .func (.func 54) #[] #[.pointer (some ⟨gd61, 0, none⟩)]]⟩ :: ⟨gd61, 54, [.int .i64 t, .int .i64 bl, .int .i64 d, .int .u32 sd]⟩ :: ⟨g8, 24, [.int .i64 ((soilR (blurR (grayR (turnR ⟨W, H, n, f⟩ t).1).1 bl).1 d sd).1.W), .int .i64 ((soilR (blurR (grayR (turnR ⟨W, H, n, f⟩ t).1).1 bl).1 d sd).1.H), .slice A71r2 ((soilR (blurR (grayR (turnR ⟨W, H, n, f⟩ t).1).1 bl).1 d sd).1.n) k71r2]⟩ :: ⟨g6, 33, [.int .i64 ((turnR ⟨W, H, n, f⟩ t).1.W), .int .i64 ((turnR ⟨W, H, n, f⟩ t).1.H), .slice A44 ((turnR ⟨W, H, n, f⟩ t).1.n) k44]⟩ :: ⟨g4, 24, [.int .i64 0, .int .i64 0, .slice none 0 0]⟩ :: ⟨g3, 54, [.int .i64 t, .int .i64 bl, .int .i64 d, .int .u32 sd]⟩ :: ⟨g2, 33, [.int .i64 W, .int .i64 H, .slice A n c]⟩ :: (((S44 ++ S53) ++ S71) ++ S71r2)) ⟨rfl, rfl, rfl, rfl, rfl, trivial⟩ (List.Sublist.refl _) ?_
                  refine gc_region ?_
                  refine ne (eo_lss rfl rfl rfl) rfl ?_
                  refine go_nil ?_
                  refine gq_next ?_
                  refine gc_seq ?_
                  refine gc_cond rfl (fun hc4 => ?_) (fun hc4 => ?_)
                  ·
                    replace hc4 := of_decide_eq_true hc4
                    first | exact absurd hc4 (by decide) | exact Bool.noConfusion hc4 | (exfalso; omega)
                  ·
                    replace hc4 := of_decide_eq_false hc4
                    refine gc_exit ?_
                    refine gq_then_exit ?_
                    refine gq_then_exit ?_
                    refine gq_block_hit ?_
                    refine gq_next ?_
                    refine gc_seq ?_
                    refine gc_region ?_
                    refine ne (eo_loadA 4 rfl a24 rfl rfl rfl rfl) rfl ?_
                    refine nu (xo_storeA 6 rfl a24 rfl rfl (ones_cons (by first | rfl | exact AS.one) (ones_cons (by first | rfl | exact AS.one) (ones_cons (by first | rfl | exact AS.one) ones_nil))) rfl rfl rfl rfl) ?_
                    rintro _ _ ⟨rfl, rfl⟩
                    refine ne (eo_as rfl rfl) rfl ?_
                    refine go_nil ?_
                    refine gq_next ?_
                    refine gc_ret ?_
                    refine gq_results (resCT 6 rfl a24 rfl rfl rfl rfl rfl) ?_
                    exact fun W1 hO => rxi_pass0 (hO.tl 9 rfl (List.sublist_append_right _ _)) hk71r2 hS71r2 (by rw [soilR_ok hpz]) (printR_ok hv (by omega))
              ·
                replace hc4 := of_decide_eq_false hc4
                first | exact absurd hc4 (by decide) | exact Bool.noConfusion hc4 | (exfalso; omega)
          ·
            replace hc4 := of_decide_eq_false hc4
            first | exact absurd hc4 (by decide) | exact Bool.noConfusion hc4 | (exfalso; omega)

end Go.Proofs.Ytibooikbbcilcaa
