/-
  The walks of the functions of package regions and of the document's answers (part V): what each call returns, at every argument.
-/
import Derived.Test.YtnmiljloifbjeaaWU
import Derived.Test.YtnmiljloifbjeaaWR
namespace Go.Proofs.Ytnmiljloifbjeaa
open Go.RowKit Go.Eng

open Go.Bs
theorem b32_23 (x2 : Int) (x3 : Int) (W : World) : (Instr.build 32 #[(2, .int .i64 x2), (3, .int .i64 x3)]).run Try.prog W = .ok (.agg #[.int .i64 0, .int .i64 0, .int .i64 x2, .int .i64 x3]) W := by kernel_rfl
theorem en20 : Ent Try.prog 20 := ent_of Try.func20 (by kernel_rfl) rfl
theorem sl27 : TySl Try.prog 27 32 4 := ⟨Try.underlying27, by kernel_rfl⟩
theorem en18 : Ent Try.prog 18 := ent_of Try.func18 (by kernel_rfl) rfl
theorem b54_01 (x0 : Int) (x1_0 : Int) (x1_1 : Int) (x1_2 : Int) (x1_3 : Int) (W : World) : (Instr.build 54 #[(0, .int .i64 x0), (1, .agg #[.int .i64 x1_0, .int .i64 x1_1, .int .i64 x1_2, .int .i64 x1_3])]).run Try.prog W = .ok (.agg #[.int .i64 x0, .int .i64 x1_0, .int .i64 x1_1, .int .i64 x1_2, .int .i64 x1_3]) W := by kernel_rfl
theorem lit49_1 {x0 x1 x2 x3 x4 : Int} (W : World) : (Instr.buildSlice 49 1 #[(0, .agg #[.int .i64 x0, .int .i64 x1, .int .i64 x2, .int .i64 x3, .int .i64 x4])]).run Try.prog W = .ok (.slice (some ⟨W.heap.size, 0, none⟩) 1 1) (W.alloc (.cells #[.int .i64 x0, .int .i64 x1, .int .i64 x2, .int .i64 x3, .int .i64 x4] 54)) := by kernel_rfl
theorem en_54 : TyEN Try.prog 54 (.agg #[.int .i64 0, .int .i64 0, .int .i64 0, .int .i64 0, .int .i64 0]) 5 40 := ⟨rfl, by omega, by kernel_rfl⟩

/-- barscan/barscanref46.Cut -/
theorem rcut_x (W H : Int) (A : Option Addr) (n c : Nat) (f : Nat → Bool) (gx : Int) (gy : Int) (w : World) (hr : Rd w A (tab n (bv f))) (hn3 : n ≤ 3000) :
    Calls Try.prog 20 #[.agg #[.int .i64 W, .int .i64 H, .slice A n c], .int .i64 gx, .int .i64 gy] w (fun e w' => ∃ v Hn, e = .returned v ∧ RNs 4 (cutR ⟨W, H, n, f⟩ gx gy).1.length (bxG (cutR ⟨W, H, n, f⟩ gx gy).1) (cutR ⟨W, H, n, f⟩ gx gy).2 v Hn ∧ Ow [] w w' Hn) := by
  refine calls_enter (N := ⟨39, []⟩) [] ([]) Try.func20 rfl rfl rfl (Ow.start _) ?_
  refine gc_seq ?_
  refine gc_region ?_
  refine nx (xo_boxA rfl rfl) rfl ?_
  rintro _ _ ⟨g3, rfl, rfl⟩
  refine ne (eo_as rfl rfl) rfl ?_
  refine ne (eo_as rfl rfl) rfl ?_
  refine go_nil ?_
  refine gq_next ?_
  refine gc_seq ?_
  refine gc_seq ?_
  refine gc_region ?_
  refine ne (eo_loadA 0 rfl a24 rfl rfl rfl rfl) rfl ?_
  refine ne (eo_call rfl en9 rfl (fun W1 hO => sound20_c _ _ _ _ _ _ W1 (hr.old0 hO) )) rfl ?_
  refine ne (eo_not rfl rfl) rfl ?_
  refine go_nil ?_
  refine gq_next ?_
  refine gc_cond rfl (fun hc0 => ?_) (fun hc0 => ?_)
  ·
    have hd0 := (not_t hc0)
    have hv := not_t hc0
    refine gc_seq ?_
    refine gc_region ?_
    refine ne (eo_as rfl rfl) rfl ?_
    refine ne (eo_as rfl rfl) rfl ?_
    refine go_nil ?_
    refine gq_next ?_
    refine gc_ret ?_
    refine gq_then_ret ?_
    refine gq_results (res2 rfl rfl rfl) ?_
    exact fun W1 hO => rns_nil hO (by rw [cutR_no (not_t hc0)]; rfl) (by rw [cutR_no (not_t hc0)])
  ·
    have hd0 := (not_f hc0)
    have hv := not_f hc0
    obtain ⟨v1, v2, v3, v4, v5, v6⟩ := vldB_iff.1 hv
    have v7 := vld_pos hv
    have hv := not_f hc0
    obtain ⟨v1, v2, v3, v4, v5, v6⟩ := vldB_iff.1 hv
    have v7 := vld_pos hv
    refine gc_skip ?_
    refine gq_next ?_
    refine gc_seq ?_
    refine gc_seq ?_
    refine gc_region ?_
    refine ne (eo_mv rfl rfl) rfl ?_
    refine ne (eo_lss rfl rfl rfl) rfl ?_
    refine ne (eo_mv rfl rfl) rfl ?_
    refine ng rfl rfl (fun h => eo_mv rfl rfl) rfl ?_
    refine ng rfl rfl (fun h => eo_gtr rfl (ev_if h rfl) rfl) rfl ?_
    refine ne (eo_or rfl rfl (fun hb => ev_if hb rfl)) rfl ?_
    refine ne (eo_mv rfl rfl) rfl ?_
    refine ng rfl rfl (fun h => eo_mv rfl rfl) rfl ?_
    refine ng rfl rfl (fun h => eo_lss rfl (ev_if h rfl) rfl) rfl ?_
    refine ne (eo_or rfl rfl (fun hb => ev_if hb rfl)) rfl ?_
    refine ne (eo_mv rfl rfl) rfl ?_
    refine ng rfl rfl (fun h => eo_mv rfl rfl) rfl ?_
    refine ng rfl rfl (fun h => eo_gtr rfl (ev_if h rfl) rfl) rfl ?_
    refine ne (eo_or rfl rfl (fun hb => ev_if hb rfl)) rfl ?_
    refine go_nil ?_
    refine gq_next ?_
    refine gc_cond rfl (fun hc1 => ?_) (fun hc1 => ?_)
    ·
      have hd1 := (or_t hc1).imp (fun h => (or_t h).imp (fun h => (or_t h).imp (fun h => of_decide_eq_true h) (fun h => of_decide_eq_true h)) (fun h => of_decide_eq_true h)) (fun h => of_decide_eq_true h)
      have hgf : gxy gx gy = false := decide_eq_false (by omega)
      refine gc_seq ?_
      refine gc_region ?_
      refine ne (eo_as rfl rfl) rfl ?_
      refine ne (eo_as rfl rfl) rfl ?_
      refine go_nil ?_
      refine gq_next ?_
      refine gc_ret ?_
      refine gq_then_ret ?_
      refine gq_results (res2 rfl rfl rfl) ?_
      exact fun W1 hO => rns_nil hO (by rw [cutR_range hv hgf]; rfl) (by rw [cutR_range hv hgf])
    ·
      have hd1 := (or_f hc1).imp (fun h => (or_f h).imp (fun h => (or_f h).imp (fun h => of_decide_eq_false h) (fun h => of_decide_eq_false h)) (fun h => of_decide_eq_false h)) (fun h => of_decide_eq_false h)
      have hgt : gxy gx gy = true := gxy_iff.2 (by omega)
      refine gc_skip ?_
      refine gq_next ?_
      refine gc_seq ?_
      refine gc_region ?_
      refine ne (eo_loadA 0 rfl a24 rfl rfl rfl rfl) rfl ?_
      refine ne (eo_field rfl f24_0 rfl) rfl ?_
      refine ne (eo_load 0 rfl s3 rfl rfl rfl rfl) rfl ?_
      refine ne (eo_field rfl f24_1 rfl) rfl ?_
      refine ne (eo_load 0 rfl s3 rfl rfl rfl rfl) rfl ?_
      refine ne (eo_build rfl rfl (b32_23 _ _)) rfl ?_
      refine ne (eo_mv rfl rfl) rfl ?_
      refine ne (eo_mv rfl rfl) rfl ?_
      refine nx (xo_freshT rfl en37 rfl (fun W1 hO => rdiv_x _ _ _ _ _ _ _ _ hv (W + H).toNat ⟨0, 0, W, H⟩ W1 (hr.old0 hO) (bx_in hv) (by show W + H ≤ _; omega))) rfl ?_
      rintro _ _ ⟨_, ⟨s34, hs34, rfl, rfl⟩, rfl⟩
      refine ne (eo_as rfl rfl) rfl ?_
      refine go_nil ?_
      refine gq_next ?_
      refine gc_seq ?_
      refine gc_seq ?_
      have hln := (dv_spec (f := f) (gx := gx) (gy := gy) (k := (W + H).toNat) (bx_in hv) (by show W + H ≤ _; omega)).num
      simp only at hln
      refine gc_region ?_
      refine ne (eo_mv rfl rfl) rfl ?_
      refine ne (eo_lenAS rfl Try.underlying27 rfl hs34) rfl ?_
      refine ne (eo_gtr rfl rfl rfl) rfl ?_
      refine go_nil ?_
      refine gq_next ?_
      refine gc_cond rfl (fun hc2 => ?_) (fun hc2 => ?_)
      ·
        replace hc2 := of_decide_eq_true hc2
        exfalso; omega
      ·
        replace hc2 := of_decide_eq_false hc2
        refine gc_skip ?_
        refine gq_next ?_
        refine gc_seq ?_
        refine gc_region ?_
        refine ne (eo_mv rfl rfl) rfl ?_
        refine ne (eo_as rfl rfl) rfl ?_
        refine ne (eo_as rfl rfl) rfl ?_
        refine go_nil ?_
        refine gq_next ?_
        refine gc_ret ?_
        refine gq_results (res2 rfl rfl rfl) ?_
        exact fun W1 hO => rns_as hO (List.Sublist.cons _ (List.Sublist.refl _)) hs34 (by rw [cutR_ok hv hgt]) (by rw [cutR_ok hv hgt]) (fun j _ => by rw [cutR_ok hv hgt])

/-- barscan/barscanref46.Regions -/
theorem rregions_x (W H : Int) (A : Option Addr) (n c : Nat) (f : Nat → Bool) (gx : Int) (gy : Int) (w : World) (hr : Rd w A (tab n (bv f))) (hn3 : n ≤ 3000) :
    Calls Try.prog 22 #[.agg #[.int .i64 W, .int .i64 H, .slice A n c], .int .i64 gx, .int .i64 gy] w (fun e w' => ∃ v Hn, e = .returned v ∧ RNs 5 (cutR ⟨W, H, n, f⟩ gx gy).1.length (rgG (clsI f W) (cutR ⟨W, H, n, f⟩ gx gy).1) (cutR ⟨W, H, n, f⟩ gx gy).2 v Hn ∧ Ow [] w w' Hn) := by
  refine calls_enter (N := ⟨47, []⟩) [] ([]) Try.func22 rfl rfl rfl (Ow.start _) ?_
  refine gc_seq ?_
  refine gc_region ?_
  refine nx (xo_boxA rfl rfl) rfl ?_
  rintro _ _ ⟨g3, rfl, rfl⟩
  refine ne (eo_as rfl rfl) rfl ?_
  refine ne (eo_as rfl rfl) rfl ?_
  refine go_nil ?_
  refine gq_next ?_
  refine gc_seq ?_
  refine gc_region ?_
  refine ne (eo_loadA 0 rfl a24 rfl rfl rfl rfl) rfl ?_
  refine ne (eo_mv rfl rfl) rfl ?_
  refine ne (eo_mv rfl rfl) rfl ?_
  refine nx (xo_freshT rfl en20 rfl (fun W1 hO => rcut_x _ _ _ _ _ _ _ _ W1 (hr.old0 hO) (by omega))) rfl ?_
  rintro _ _ ⟨S18, ⟨A18, k18, rfl, hk18, hS18⟩, rfl⟩
  refine ne (eo_mv rfl rfl) rfl ?_
  refine ne (eo_extract rfl rfl rfl) rfl ?_
  refine ne (eo_extract rfl rfl rfl) rfl ?_
  refine ne (eo_as rfl rfl) rfl ?_
  refine ne (eo_as rfl rfl) rfl ?_
  refine go_nil ?_
  refine gq_next ?_
  refine gc_seq ?_
  refine gc_region ?_
  refine ne (eo_as rfl rfl) rfl ?_
  refine go_nil ?_
  refine gq_next ?_
  refine gc_seq ?_
  refine gc_seq ?_
  refine gc_region ?_
  refine ne (eo_as rfl rfl) rfl ?_
  refine go_nil ?_
  refine gq_next ?_
  refine gc_block ?_
  refine loop2 (fun (i : Nat) (s : AS) => i ≤ (cutR ⟨W, H, n, f⟩ gx gy).1.length ∧ s.Ok 5 i (tab (i * 5) (iv .i64 (rgG (clsI f W) (cutR ⟨W, H, n, f⟩ gx gy).1)))) (fun (i : Nat) (s : AS) => (cutR ⟨W, H, n, f⟩ gx gy).1.length - i) (fun (i : Nat) (s : AS) => [(3, .pointer (some ⟨g3, 0, none⟩)), (8, .slice A18 ((cutR ⟨W, H, n, f⟩ gx gy).1.length) k18), (9, .int .i64 ((cutR ⟨W, H, n, f⟩ gx gy).2)), (10, s.val i), (11, .int .i64 (i : Int))]) (fun (i : Nat) (s : AS) => ⟨g3, 24, [.int .i64 W, .int .i64 H, .slice A n c]⟩ :: (S18 ++ s.blks 54 (tab (i * 5) (iv .i64 (rgG (clsI f W) (cutR ⟨W, H, n, f⟩ gx gy).1))))) 0 .nil ⟨by omega, AS.OkN⟩ ⟨rfl, rfl, rfl, rfl, rfl, trivial⟩ (List.Sublist.cons_cons _ sub_nil) ?_
  rintro i s ⟨hi, hs⟩
  refine gc_seq ?_
  refine gc_seq ?_
  refine gc_region ?_
  refine ne (eo_mv rfl rfl) rfl ?_
  refine ne (eo_mv rfl rfl) rfl ?_
  refine ne (eo_len rfl Try.underlying27 rfl) rfl ?_
  refine ne (eo_lss rfl rfl rfl) rfl ?_
  refine go_nil ?_
  refine gq_next ?_
  refine gc_cond rfl (fun hc0 => ?_) (fun hc0 => ?_)
  ·
    replace hc0 := of_decide_eq_true hc0
    obtain ⟨hv, hgt⟩ := cutR_pos (show i < (cutR ⟨W, H, n, f⟩ gx gy).1.length by omega)
    obtain ⟨v1, v2, v3, v4, v5, v6⟩ := vldB_iff.1 hv
    have v7 := vld_pos hv
    have hdv := cutR_dv (f := f) (gx := gx) (gy := gy) hv hgt
    have hln := cutR_len (W := W) (H := H) (n := n) (f := f) (gx := gx) (gy := gy)
    have hins := tg_ins (hdv.tg _ (bx_mem (l := (cutR ⟨W, H, n, f⟩ gx gy).1) (i := i) (by omega)))
    have hb4 : (⟨((bxG (cutR ⟨W, H, n, f⟩ gx gy).1) (i * 4 + 0)), ((bxG (cutR ⟨W, H, n, f⟩ gx gy).1) (i * 4 + 1)), ((bxG (cutR ⟨W, H, n, f⟩ gx gy).1) (i * 4 + 2)), ((bxG (cutR ⟨W, H, n, f⟩ gx gy).1) (i * 4 + 3))⟩ : Bx) = (cutR ⟨W, H, n, f⟩ gx gy).1.getD i bx0 := Bx.ext_ (bxG_0 rfl) (bxG_1 rfl) (bxG_2 rfl) (bxG_3 rfl)
    have hcl : (clsR ⟨W, H, n, f⟩ ⟨((bxG (cutR ⟨W, H, n, f⟩ gx gy).1) (i * 4 + 0)), ((bxG (cutR ⟨W, H, n, f⟩ gx gy).1) (i * 4 + 1)), ((bxG (cutR ⟨W, H, n, f⟩ gx gy).1) (i * 4 + 2)), ((bxG (cutR ⟨W, H, n, f⟩ gx gy).1) (i * 4 + 3))⟩).1 = clsI f W ((cutR ⟨W, H, n, f⟩ gx gy).1.getD i bx0) := by rw [hb4, clsR_ok hv hins]
    refine gc_skip ?_
    refine gq_next ?_
    refine gc_seq ?_
    refine gc_block ?_
    refine gc_seq ?_
    refine gc_draw [] [0, 1, 2, 3, 4, 5, 6, 7, 8, 9, 10] [] [] (by kernel_rfl) (by kernel_rfl) ?_
    refine gp_nil ?_
    refine de rfl (eo_loadA 0 rfl a24 rfl rfl rfl rfl) rfl ?_
    refine de rfl (eo_mv rfl rfl) rfl ?_
    refine de rfl (eo_mv rfl rfl) rfl ?_
    refine de rfl (eo_indexNS rfl sl27 rfl rfl (fun W1 hO => (hS18.rd (hO.tl 1 rfl (List.sublist_append_left _ _)))) (by omega) (by omega) (by omega)) rfl ?_
    refine de rfl (eo_loadNA rfl a32 rfl (fun W1 hO => (hS18.rd (hO.tl 1 rfl (List.sublist_append_left _ _)))) (by omega)) rfl ?_
    refine de rfl (eo_call rfl en18 rfl (fun W1 hO => rclassify_c _ _ _ _ _ _ _ _ _ _ W1 (hr.old0 hO) )) rfl ?_
    refine de rfl (eo_mv rfl rfl) rfl ?_
    refine de rfl (eo_extract rfl rfl rfl) rfl ?_
    refine de rfl (eo_extract rfl rfl rfl) rfl ?_
    refine de rfl (eo_as rfl rfl) rfl ?_
    refine de rfl (eo_as rfl rfl) rfl ?_
    refine ge_nil ?_
    refine ga_nil ?_
    refine gi_nil ?_
    refine gq_nq ?_
    refine gq_next ?_
    refine gc_region ?_
    refine ne (eo_mv rfl rfl) rfl ?_
    refine ne (eo_mv rfl rfl) rfl ?_
    refine ne (eo_mv rfl rfl) rfl ?_
    refine ne (eo_mv rfl rfl) rfl ?_
    refine ne (eo_indexNS rfl sl27 rfl rfl (fun W1 hO => (hS18.rd (hO.tl 1 rfl (List.sublist_append_left _ _)))) (by omega) (by omega) (by omega)) rfl ?_
    refine ne (eo_loadNA rfl a32 rfl (fun W1 hO => (hS18.rd (hO.tl 1 rfl (List.sublist_append_left _ _)))) (by omega)) rfl ?_
    refine ne (eo_build rfl rfl (b54_01 _ _ _ _ _)) rfl ?_
    refine nx (xo_lit rfl rfl lit49_1) rfl ?_
    rintro _ _ ⟨g43, rfl, rfl⟩
    refine nx (xo_appNT [(clsR ⟨W, H, n, f⟩ ⟨((bxG (cutR ⟨W, H, n, f⟩ gx gy).1) (i * 4 + 0)), ((bxG (cutR ⟨W, H, n, f⟩ gx gy).1) (i * 4 + 1)), ((bxG (cutR ⟨W, H, n, f⟩ gx gy).1) (i * 4 + 2)), ((bxG (cutR ⟨W, H, n, f⟩ gx gy).1) (i * 4 + 3))⟩).1, ((bxG (cutR ⟨W, H, n, f⟩ gx gy).1) (i * 4 + 0)), ((bxG (cutR ⟨W, H, n, f⟩ gx gy).1) (i * 4 + 1)), ((bxG (cutR ⟨W, H, n, f⟩ gx gy).1) (i * 4 + 2)), ((bxG (cutR ⟨W, H, n, f⟩ gx gy).1) (i * 4 + 3))] (⟨g43, 54, [.int .i64 ((clsR ⟨W, H, n, f⟩ ⟨((bxG (cutR ⟨W, H, n, f⟩ gx gy).1) (i * 4 + 0)), ((bxG (cutR ⟨W, H, n, f⟩ gx gy).1) (i * 4 + 1)), ((bxG (cutR ⟨W, H, n, f⟩ gx gy).1) (i * 4 + 2)), ((bxG (cutR ⟨W, H, n, f⟩ gx gy).1) (i * 4 + 3))⟩).1), .int .i64 ((bxG (cutR ⟨W, H, n, f⟩ gx gy).1) (i * 4 + 0)), .int .i64 ((bxG (cutR ⟨W, H, n, f⟩ gx gy).1) (i * 4 + 1)), .int .i64 ((bxG (cutR ⟨W, H, n, f⟩ gx gy).1) (i * 4 + 2)), .int .i64 ((bxG (cutR ⟨W, H, n, f⟩ gx gy).1) (i * 4 + 3))]⟩ :: ⟨g3, 24, [.int .i64 W, .int .i64 H, .slice A n c]⟩ :: S18) rfl rfl Try.underlying49 en_54 rfl hs rfl rfl rfl (by rw [hcl, bxG_0 (l := (cutR ⟨W, H, n, f⟩ gx gy).1) (i := i) rfl, bxG_1 (l := (cutR ⟨W, H, n, f⟩ gx gy).1) (i := i) rfl, bxG_2 (l := (cutR ⟨W, H, n, f⟩ gx gy).1) (i := i) rfl, bxG_3 (l := (cutR ⟨W, H, n, f⟩ gx gy).1) (i := i) rfl]; exact rg_new rfl) (by omega) (by decide)) rfl ?_
    rintro _ _ ⟨s44, hs44, rfl, rfl⟩
    refine ne (eo_as rfl rfl) rfl ?_
    refine go_nil ?_
    refine gq_block_end ?_
    refine gq_next ?_
    refine gc_region ?_
    refine ne (eo_mv rfl rfl) rfl ?_
    refine ne (eo_add rfl rfl rfl (by omega) (by omega)) rfl ?_
    refine ne (eo_as rfl rfl) rfl ?_
    refine go_nil ?_
    exact round2 (i + 1) s44 ⟨by omega, hs44⟩ (by omega) ⟨rfl, rfl, rfl, rfl, rfl, trivial⟩ (List.Sublist.cons _ (List.Sublist.refl _))
  ·
    replace hc0 := of_decide_eq_false hc0
    refine gc_exit ?_
    refine gq_then_exit ?_
    refine gq_then_exit ?_
    refine gq_block_hit ?_
    refine gq_next ?_
    refine gc_seq ?_
    refine gc_region ?_
    refine ne (eo_mv rfl rfl) rfl ?_
    refine ne (eo_mv rfl rfl) rfl ?_
    refine ne (eo_as rfl rfl) rfl ?_
    refine ne (eo_as rfl rfl) rfl ?_
    refine go_nil ?_
    refine gq_next ?_
    refine gc_ret ?_
    refine gq_results (res2 rfl rfl rfl) ?_
    exact fun W1 hO => rns_as hO (List.Sublist.cons _ (List.sublist_append_right _ _)) hs (by omega) rfl (fun j _ => rfl)

end Go.Proofs.Ytnmiljloifbjeaa
