/-
  The walks of the functions of package regions and of the document's answers (part E): what each call returns, at every argument.
-/
import Derived.Test.YtnmiljloifbjeaaWC
namespace Go.Proofs.Ytnmiljloifbjeaa
open Go.RowKit Go.Eng

open Go.Bs
theorem sl34 : TySl Try.prog 34 38 2 := ⟨Try.underlying34, by kernel_rfl⟩
theorem b38_  (W : World) : (Instr.build 38 #[]).run Try.prog W = .ok (.agg #[.int .i64 0, .int .i64 0]) W := by kernel_rfl

/-- barscan/regions.widest -/
theorem widest_c (l : List (Int × Int)) (A : Option Addr) (c : Nat) (least : Int) (w : World) (hr : Rd w A (tab (l.length * 2) (iv .i64 (ptG l)))) (hll : l.length ≤ 1073741824) :
    Calls Try.prog 40 #[.slice A l.length c, .int .i64 least] w (fun e w' => e = .returned (.agg #[.int .i64 (widL least l).1, .int .i64 (widL least l).2]) ∧ Ext w w') := by
  refine calls_enter (N := ⟨28, []⟩) [] ([]) Try.func40 rfl rfl rfl (Ow.start _) ?_
  refine gc_seq ?_
  refine gc_region ?_
  refine nx (xo_alloc rfl z38) rfl ?_
  rintro _ _ ⟨g4, rfl, rfl⟩
  refine go_nil ?_
  refine gq_next ?_
  refine gc_seq ?_
  refine gc_region ?_
  refine nx (xo_alloc rfl z38) rfl ?_
  rintro _ _ ⟨g5, rfl, rfl⟩
  refine go_nil ?_
  refine gq_next ?_
  refine gc_seq ?_
  refine gc_seq ?_
  refine gc_region ?_
  refine ne (eo_mv rfl rfl) rfl ?_
  refine ne (eo_len rfl Try.underlying34 rfl) rfl ?_
  refine ne (eo_mv rfl rfl) rfl ?_
  refine go_nil ?_
  refine gq_next ?_
  refine gc_block ?_
  refine loop3 (fun (i : Nat) (bx : Int) (yb : Int) => i ≤ l.length ∧ bx = (widL least (l.take i)).1 ∧ yb = (widL least (l.take i)).2) (fun (i : Nat) (bx : Int) (yb : Int) => l.length - i) (fun (i : Nat) (bx : Int) (yb : Int) => [(1, .int .i64 least), (4, .pointer (some ⟨g4, 0, none⟩)), (5, .pointer (some ⟨g5, 0, none⟩)), (8, .slice A l.length c), (9, .int .i64 ((l.length : Nat) : Int)), (10, .int .i64 (i : Int))]) (fun (i : Nat) (bx : Int) (yb : Int) => [⟨g5, 38, [.int .i64 bx, .int .i64 yb]⟩, ⟨g4, 38, [.int .i64 0, .int .i64 0]⟩]) 0 0 0 ⟨by omega, rfl, rfl⟩ ⟨rfl, rfl, rfl, rfl, rfl, rfl, trivial⟩ (List.Sublist.refl _) ?_
  rintro i bx yb ⟨hi, hbx, hby⟩
  refine gc_seq ?_
  refine gc_region ?_
  refine ne (eo_lss rfl rfl rfl) rfl ?_
  refine go_nil ?_
  refine gq_next ?_
  refine gc_seq ?_
  refine gc_cond rfl (fun hc0 => ?_) (fun hc0 => ?_)
  ·
    replace hc0 := of_decide_eq_true hc0
    refine gc_skip ?_
    refine gq_next ?_
    refine gc_seq ?_
    refine gc_block ?_
    refine gc_seq ?_
    refine gc_region ?_
    refine ne (eo_indexNS rfl sl34 rfl rfl (fun W1 hO => (hr.old0 hO)) (by omega) (by omega) (by omega)) rfl ?_
    refine ne (eo_loadNA rfl a38 rfl (fun W1 hO => (hr.old0 hO)) (by omega)) rfl ?_
    refine nx (xo_alloc rfl z38) rfl ?_
    rintro _ _ ⟨g7, rfl, rfl⟩
    refine nu (xo_storeA 0 rfl a38 rfl rfl (ones_cons (by first | rfl | exact AS.one) (ones_cons (by first | rfl | exact AS.one) ones_nil)) rfl rfl rfl rfl) ?_
    rintro _ _ ⟨rfl, rfl⟩
    refine go_nil ?_
    refine gq_next ?_
    refine gc_seq ?_
    refine gc_region ?_
    refine ne (eo_field rfl f38_1 rfl) rfl ?_
    refine ne (eo_load 0 rfl s3 rfl rfl rfl rfl) rfl ?_
    refine ne (eo_mv rfl rfl) rfl ?_
    refine ne (eo_geq rfl rfl rfl) rfl ?_
    refine ne (eo_mv rfl rfl) rfl ?_
    refine ng rfl rfl (fun h => eo_field rfl f38_1 rfl) rfl ?_
    refine ng rfl rfl (fun h => eo_load 0 rfl s3 (ev_if h rfl) rfl rfl rfl) rfl ?_
    refine ng rfl rfl (fun h => eo_field rfl f38_1 rfl) rfl ?_
    refine ng rfl rfl (fun h => eo_load 1 rfl s3 (ev_if h rfl) rfl rfl rfl) rfl ?_
    refine ng rfl rfl (fun h => eo_gtr rfl (ev_if h rfl) (ev_if h rfl)) rfl ?_
    refine ne (eo_and rfl rfl (fun hb => ev_if hb rfl)) rfl ?_
    refine go_nil ?_
    refine gq_next ?_
    refine gc_cond rfl (fun hc1 => ?_) (fun hc1 => ?_)
    ·
      have hd1 := (and_t hc1).imp (fun h => of_decide_eq_true h) (fun h => of_decide_eq_true h)
      have hwd := wid_yes (least := least) (l := l) (i := i) (by omega) (by rw [← hby]; exact hd1)
      refine gc_region ?_
      refine ne (eo_loadA 0 rfl a38 rfl rfl rfl rfl) rfl ?_
      refine nu (xo_storeA 1 rfl a38 rfl rfl (ones_cons (by first | rfl | exact AS.one) (ones_cons (by first | rfl | exact AS.one) ones_nil)) rfl rfl rfl rfl) ?_
      rintro _ _ ⟨rfl, rfl⟩
      refine go_nil ?_
      refine gq_block_end ?_
      refine gq_next ?_
      refine gc_region ?_
      refine ne (eo_add rfl rfl rfl (by omega) (by omega)) rfl ?_
      refine ne (eo_mv rfl rfl) rfl ?_
      refine go_nil ?_
      exact round3 (i + 1) ((ptG l) (i * 2 + 0)) ((ptG l) (i * 2 + 1)) ⟨by omega, by rw [hwd], by rw [hwd]⟩ (by omega) ⟨rfl, rfl, rfl, rfl, rfl, rfl, trivial⟩ (List.Sublist.cons _ (List.Sublist.refl _))
    ·
      have hd1 := (and_f hc1).imp (fun h => of_decide_eq_false h) (fun h => of_decide_eq_false h)
      have hwd := wid_no (least := least) (l := l) (i := i) (by omega) (fun ⟨p1, p2⟩ => by rw [← hby] at p2; exact hd1.elim (fun q => q p1) fun q => q p2)
      refine gc_skip ?_
      refine gq_block_end ?_
      refine gq_next ?_
      refine gc_region ?_
      refine ne (eo_add rfl rfl rfl (by omega) (by omega)) rfl ?_
      refine ne (eo_mv rfl rfl) rfl ?_
      refine go_nil ?_
      exact round3 (i + 1) bx yb ⟨by omega, by rw [hwd]; exact hbx, by rw [hwd]; exact hby⟩ (by omega) ⟨rfl, rfl, rfl, rfl, rfl, rfl, trivial⟩ (List.Sublist.cons _ (List.Sublist.refl _))
  ·
    replace hc0 := of_decide_eq_false hc0
    refine gc_exit ?_
    refine gq_then_exit ?_
    refine gq_then_exit ?_
    refine gq_block_hit ?_
    refine gq_next ?_
    refine gc_seq ?_
    refine gc_region ?_
    refine ne (eo_loadA 0 rfl a38 rfl rfl rfl rfl) rfl ?_
    refine nu (xo_storeA 1 rfl a38 rfl rfl (ones_cons (by first | rfl | exact AS.one) (ones_cons (by first | rfl | exact AS.one) ones_nil)) rfl rfl rfl rfl) ?_
    rintro _ _ ⟨rfl, rfl⟩
    refine go_nil ?_
    refine gq_next ?_
    refine gc_ret ?_
    refine gq_results (resC 1 rfl a38 rfl rfl rfl rfl) ?_
    exact fun W1 hO => ⟨ret_agg2 (by rw [hbx, hby, wid_end (by omega)]), hO.toExt⟩

/-- barscan/barscanref46.widest -/
theorem rwidest_c (l : List (Int × Int)) (A : Option Addr) (c : Nat) (least : Int) (w : World) (hr : Rd w A (tab (l.length * 2) (iv .i64 (ptG l)))) (hll : l.length ≤ 1073741824) :
    Calls Try.prog 46 #[.slice A l.length c, .int .i64 least] w (fun e w' => e = .returned (.agg #[.int .i64 (widL least l).1, .int .i64 (widL least l).2]) ∧ Ext w w') := by
  refine calls_enter (N := ⟨36, []⟩) [] ([]) Try.func46 rfl rfl rfl (Ow.start _) ?_
  refine gc_seq ?_
  refine gc_region ?_
  refine nx (xo_alloc rfl z38) rfl ?_
  rintro _ _ ⟨g4, rfl, rfl⟩
  refine go_nil ?_
  refine gq_next ?_
  refine gc_seq ?_
  refine gc_region ?_
  refine ne (eo_build rfl rfl (b38_)) rfl ?_
  refine nx (xo_alloc rfl z38) rfl ?_
  rintro _ _ ⟨g5, rfl, rfl⟩
  refine nu (xo_storeA 0 rfl a38 rfl rfl (ones_cons (by first | rfl | exact AS.one) (ones_cons (by first | rfl | exact AS.one) ones_nil)) rfl rfl rfl rfl) ?_
  rintro _ _ ⟨rfl, rfl⟩
  refine go_nil ?_
  refine gq_next ?_
  refine gc_seq ?_
  refine gc_seq ?_
  refine gc_region ?_
  refine ne (eo_as rfl rfl) rfl ?_
  refine go_nil ?_
  refine gq_next ?_
  refine gc_block ?_
  refine loop3 (fun (i : Nat) (bx : Int) (yb : Int) => i ≤ l.length ∧ bx = (widL least (l.take i)).1 ∧ yb = (widL least (l.take i)).2) (fun (i : Nat) (bx : Int) (yb : Int) => l.length - i) (fun (i : Nat) (bx : Int) (yb : Int) => [(0, .slice A l.length c), (1, .int .i64 least), (4, .pointer (some ⟨g4, 0, none⟩)), (5, .pointer (some ⟨g5, 0, none⟩)), (6, .int .i64 (i : Int))]) (fun (i : Nat) (bx : Int) (yb : Int) => [⟨g5, 38, [.int .i64 bx, .int .i64 yb]⟩, ⟨g4, 38, [.int .i64 0, .int .i64 0]⟩]) 0 0 0 ⟨by omega, rfl, rfl⟩ ⟨rfl, rfl, rfl, rfl, rfl, trivial⟩ (List.Sublist.refl _) ?_
  rintro i bx yb ⟨hi, hbx, hby⟩
  refine gc_seq ?_
  refine gc_seq ?_
  refine gc_region ?_
  refine ne (eo_mv rfl rfl) rfl ?_
  refine ne (eo_mv rfl rfl) rfl ?_
  refine ne (eo_len rfl Try.underlying34 rfl) rfl ?_
  refine ne (eo_lss rfl rfl rfl) rfl ?_
  refine go_nil ?_
  refine gq_next ?_
  refine gc_cond rfl (fun hc0 => ?_) (fun hc0 => ?_)
  ·
    replace hc0 := of_decide_eq_true hc0
    refine gc_skip ?_
    refine gq_next ?_
    refine gc_seq ?_
    refine gc_block ?_
    refine gc_seq ?_
    refine gc_draw [] [0, 1, 2, 3, 4, 5, 6, 7, 8, 9, 10, 11, 12, 13, 14, 15, 16] [] [] (by kernel_rfl) (by kernel_rfl) ?_
    refine gp_nil ?_
    refine de rfl (eo_mv rfl rfl) rfl ?_
    refine de rfl (eo_mv rfl rfl) rfl ?_
    refine de rfl (eo_indexNS rfl sl34 rfl rfl (fun W1 hO => (hr.old0 hO)) (by omega) (by omega) (by omega)) rfl ?_
    refine de rfl (eo_field rfl f38_1 rfl) rfl ?_
    refine de rfl (eo_loadNS rfl s3 rfl (fun W1 hO => (hr.old0 hO)) (by omega)) rfl ?_
    refine de rfl (eo_mv rfl rfl) rfl ?_
    refine de rfl (eo_geq rfl rfl rfl) rfl ?_
    refine de rfl (eo_mv rfl rfl) rfl ?_
    refine dg rfl rfl rfl (fun h => eo_mv rfl rfl) rfl ?_
    refine dg rfl rfl rfl (fun h => eo_mv rfl rfl) rfl ?_
    refine dg rfl rfl rfl (fun h => eo_indexNS rfl sl34 (ev_if h rfl) (ev_if h rfl) (fun W1 hO => (hr.old0 hO)) (by have hg0 := of_decide_eq_true h; omega) (by have hg0 := of_decide_eq_true h; omega) (by have hg0 := of_decide_eq_true h; omega)) rfl ?_
    refine dg rfl rfl rfl (fun h => eo_field rfl f38_1 (ev_if h rfl)) rfl ?_
    refine dg rfl rfl rfl (fun h => eo_loadNS rfl s3 (ev_if h rfl) (fun W1 hO => (hr.old0 hO)) (by have hg0 := of_decide_eq_true h; omega)) rfl ?_
    refine dg rfl rfl rfl (fun h => eo_field rfl f38_1 rfl) rfl ?_
    refine dg rfl rfl rfl (fun h => eo_load 0 rfl s3 (ev_if h rfl) rfl rfl rfl) rfl ?_
    refine dg rfl rfl rfl (fun h => eo_gtr rfl (ev_if h rfl) (ev_if h rfl)) rfl ?_
    refine de rfl (eo_and rfl rfl (fun hb => ev_if hb rfl)) rfl ?_
    refine ge_nil ?_
    refine ga_nil ?_
    refine gi_nil ?_
    refine gq_nq ?_
    refine gq_next ?_
    refine gc_cond rfl (fun hc1 => ?_) (fun hc1 => ?_)
    ·
      have hd1 := (and_t hc1).imp (fun h => of_decide_eq_true h) (fun h => of_decide_eq_true h)
      have hwd := wid_yes (least := least) (l := l) (i := i) (by omega) (by rw [← hby]; exact hd1)
      refine gc_region ?_
      refine ne (eo_mv rfl rfl) rfl ?_
      refine ne (eo_mv rfl rfl) rfl ?_
      refine ne (eo_indexNS rfl sl34 rfl rfl (fun W1 hO => (hr.old0 hO)) (by omega) (by omega) (by omega)) rfl ?_
      refine ne (eo_loadNA rfl a38 rfl (fun W1 hO => (hr.old0 hO)) (by omega)) rfl ?_
      refine nu (xo_storeA 0 rfl a38 rfl rfl (ones_cons (by first | rfl | exact AS.one) (ones_cons (by first | rfl | exact AS.one) ones_nil)) rfl rfl rfl rfl) ?_
      rintro _ _ ⟨rfl, rfl⟩
      refine go_nil ?_
      refine gq_block_end ?_
      refine gq_next ?_
      refine gc_region ?_
      refine ne (eo_mv rfl rfl) rfl ?_
      refine ne (eo_add rfl rfl rfl (by omega) (by omega)) rfl ?_
      refine ne (eo_as rfl rfl) rfl ?_
      refine go_nil ?_
      exact round3 (i + 1) ((ptG l) (i * 2 + 0)) ((ptG l) (i * 2 + 1)) ⟨by omega, by rw [hwd], by rw [hwd]⟩ (by omega) ⟨rfl, rfl, rfl, rfl, rfl, trivial⟩ (List.Sublist.refl _)
    ·
      have hd1 := (and_f hc1).imp (fun h => of_decide_eq_false h) (fun h => of_decide_eq_false h)
      have hwd := wid_no (least := least) (l := l) (i := i) (by omega) (fun ⟨p1, p2⟩ => by rw [← hby] at p2; exact hd1.elim (fun q => q p1) fun q => q p2)
      refine gc_skip ?_
      refine gq_block_end ?_
      refine gq_next ?_
      refine gc_region ?_
      refine ne (eo_mv rfl rfl) rfl ?_
      refine ne (eo_add rfl rfl rfl (by omega) (by omega)) rfl ?_
      refine ne (eo_as rfl rfl) rfl ?_
      refine go_nil ?_
      exact round3 (i + 1) bx yb ⟨by omega, by rw [hwd]; exact hbx, by rw [hwd]; exact hby⟩ (by omega) ⟨rfl, rfl, rfl, rfl, rfl, trivial⟩ (List.Sublist.refl _)
  ·
    replace hc0 := of_decide_eq_false hc0
    refine gc_exit ?_
    refine gq_then_exit ?_
    refine gq_then_exit ?_
    refine gq_block_hit ?_
    refine gq_next ?_
    refine gc_seq ?_
    refine gc_region ?_
    refine ne (eo_loadA 0 rfl a38 rfl rfl rfl rfl) rfl ?_
    refine nu (xo_storeA 1 rfl a38 rfl rfl (ones_cons (by first | rfl | exact AS.one) (ones_cons (by first | rfl | exact AS.one) ones_nil)) rfl rfl rfl rfl) ?_
    rintro _ _ ⟨rfl, rfl⟩
    refine go_nil ?_
    refine gq_next ?_
    refine gc_ret ?_
    refine gq_results (resC 1 rfl a38 rfl rfl rfl rfl) ?_
    exact fun W1 hO => ⟨ret_agg2 (by rw [hbx, hby, wid_end (by omega)]), hO.toExt⟩

/-- (barscan/regions.counts).classify -/
theorem cls_c (W H : Int) (A : Option Addr) (c : Nat) (f : Nat → Bool) (X Y BW BH : Int) (w : World) (hr : Rd w A (tab ((W + 1) * (H + 1)).toNat (iv .i32 (sumG (bw f) W)))) (w1 : 1 ≤ W) (w2 : W ≤ 4096) (h1 : 1 ≤ H) (h2 : H ≤ 4096) (hin : insB W H X Y BW BH = true) :
    Calls Try.prog 35 #[.agg #[.int .i64 (W + 1), .slice A (((W + 1) * (H + 1)).toNat) c], .agg #[.int .i64 X, .int .i64 Y, .int .i64 BW, .int .i64 BH]] w (fun e w' => e = .returned (.int .i64 (clsI f W ⟨X, Y, BW, BH⟩)) ∧ Ext w w') := by
  have hb := insB_in hin
  obtain ⟨b1, b2, b3, b4, b5, b6⟩ := bin_nums hb
  obtain ⟨_, _, n1, n2, _, _⟩ := insB_iff.1 hin
  have har := mul_le2 (a := BW) (b := BH) (A := 4096) (B := 4096) (by omega) (by omega) (by omega) (by omega)
  have hbd := bxS_bd (f := f) hb
  simp only at hbd
  refine calls_enter (N := ⟨137, []⟩) [] ([]) Try.func35 rfl rfl rfl (Ow.start _) ?_
  refine gc_seq ?_
  refine gc_region ?_
  refine nx (xo_boxA rfl rfl) rfl ?_
  rintro _ _ ⟨g2, rfl, rfl⟩
  refine nx (xo_boxA rfl rfl) rfl ?_
  rintro _ _ ⟨g3, rfl, rfl⟩
  refine ne (eo_as rfl rfl) rfl ?_
  refine go_nil ?_
  refine gq_next ?_
  refine gc_seq ?_
  refine gc_draw [] [0, 1, 2, 3, 4, 5, 6, 7, 8, 9] [] [] (by kernel_rfl) (by kernel_rfl) ?_
  refine gp_nil ?_
  refine de rfl (eo_loadA 1 rfl a61 rfl rfl rfl rfl) rfl ?_
  refine de rfl (eo_loadA 0 rfl a32 rfl rfl rfl rfl) rfl ?_
  refine de rfl (eo_call rfl en44 rfl (fun W1 hO => dkb_c _ _ _ _ _ _ _ _ _ W1 (hr.old0 hO) (by omega) (by omega) (by omega) (by omega) (bin_mk (by omega) (by omega) (by omega) (by omega) (by omega) (by omega)))) rfl ?_
  refine de rfl (eo_field rfl f32_2 rfl) rfl ?_
  refine de rfl (eo_load 0 rfl s3 rfl rfl rfl rfl) rfl ?_
  refine de rfl (eo_field rfl f32_3 rfl) rfl ?_
  refine de rfl (eo_load 0 rfl s3 rfl rfl rfl rfl) rfl ?_
  refine de rfl (eo_mul rfl rfl rfl (by omega) (by omega)) rfl ?_
  refine de rfl (eo_as rfl rfl) rfl ?_
  refine de rfl (eo_as rfl rfl) rfl ?_
  refine ge_nil ?_
  refine ga_nil ?_
  refine gi_nil ?_
  refine gq_nq ?_
  refine gq_next ?_
  refine gc_seq ?_
  refine gc_draw [] [0, 1, 2, 3, 4, 5, 6, 7, 8, 9, 10, 11, 12, 13, 14, 15, 16, 17, 18, 19, 20, 21, 22, 23, 24, 25, 26, 27, 28, 29, 30, 31, 32, 33, 34, 35, 36, 37, 38, 39, 40, 41, 42, 43, 44, 45, 46, 47, 48, 49, 50, 51, 52, 53, 54, 55, 56, 57, 58, 59, 60, 61, 62] [] [] (by kernel_rfl) (by kernel_rfl) ?_
  refine gp_nil ?_
  refine de rfl (eo_loadA 1 rfl a61 rfl rfl rfl rfl) rfl ?_
  refine de rfl (eo_field rfl f32_0 rfl) rfl ?_
  refine de rfl (eo_load 0 rfl s3 rfl rfl rfl rfl) rfl ?_
  refine de rfl (eo_field rfl f32_1 rfl) rfl ?_
  refine de rfl (eo_load 0 rfl s3 rfl rfl rfl rfl) rfl ?_
  refine de rfl (eo_field rfl f32_2 rfl) rfl ?_
  refine de rfl (eo_load 0 rfl s3 rfl rfl rfl rfl) rfl ?_
  refine de rfl (eo_build rfl rfl (b32_0123 _ _ _ _)) rfl ?_
  refine de rfl (eo_call rfl en44 rfl (fun W1 hO => dkb_c _ _ _ _ _ _ _ _ _ W1 (hr.old0 hO) (by omega) (by omega) (by omega) (by omega) (bin_mk (by omega) (by omega) (by omega) (by omega) (by omega) (by omega)))) rfl ?_
  refine de rfl (eo_field rfl f32_2 rfl) rfl ?_
  refine de rfl (eo_load 0 rfl s3 rfl rfl rfl rfl) rfl ?_
  refine de rfl (eo_eql rfl rfl rfl) rfl ?_
  refine de rfl (eo_mv rfl rfl) rfl ?_
  refine dg rfl rfl rfl (fun h => eo_loadA 1 rfl a61 rfl rfl rfl rfl) rfl ?_
  refine dg rfl rfl rfl (fun h => eo_field rfl f32_0 rfl) rfl ?_
  refine dg rfl rfl rfl (fun h => eo_load 0 rfl s3 (ev_if h rfl) rfl rfl rfl) rfl ?_
  refine dg rfl rfl rfl (fun h => eo_field rfl f32_1 rfl) rfl ?_
  refine dg rfl rfl rfl (fun h => eo_load 0 rfl s3 (ev_if h rfl) rfl rfl rfl) rfl ?_
  refine dg rfl rfl rfl (fun h => eo_field rfl f32_3 rfl) rfl ?_
  refine dg rfl rfl rfl (fun h => eo_load 0 rfl s3 (ev_if h rfl) rfl rfl rfl) rfl ?_
  refine dg rfl rfl rfl (fun h => eo_add rfl (ev_if h rfl) (ev_if h rfl) (by have hg0 := of_decide_eq_true h; omega) (by have hg0 := of_decide_eq_true h; omega)) rfl ?_
  refine dg rfl rfl rfl (fun h => eo_sub rfl (ev_if h rfl) rfl (by have hg0 := of_decide_eq_true h; omega) (by have hg0 := of_decide_eq_true h; omega)) rfl ?_
  refine dg rfl rfl rfl (fun h => eo_field rfl f32_2 rfl) rfl ?_
  refine dg rfl rfl rfl (fun h => eo_load 0 rfl s3 (ev_if h rfl) rfl rfl rfl) rfl ?_
  refine dg rfl rfl rfl (fun h => eo_build rfl (evp_cons (ev_if h rfl) (evp_cons (ev_if h rfl) (evp_cons (ev_if h rfl) (evp_cons rfl evp_nil)))) (b32_0123 _ _ _ _)) rfl ?_
  refine dg rfl rfl rfl (fun h => eo_call rfl en44 (evs_cons (ev_if h rfl) (evs_cons (ev_if h rfl) evs_nil)) (fun W1 hO => dkb_c _ _ _ _ _ _ _ _ _ W1 (hr.old0 hO) (by omega) (by omega) (by omega) (by omega) (bin_mk (by omega) (by omega) (by omega) (by omega) (by omega) (by omega)))) rfl ?_
  refine dg rfl rfl rfl (fun h => eo_field rfl f32_2 rfl) rfl ?_
  refine dg rfl rfl rfl (fun h => eo_load 0 rfl s3 (ev_if h rfl) rfl rfl rfl) rfl ?_
  refine dg rfl rfl rfl (fun h => eo_eql rfl (ev_if h rfl) (ev_if h rfl)) rfl ?_
  refine de rfl (eo_and rfl rfl (fun hb => ev_if hb rfl)) rfl ?_
  refine de rfl (eo_mv rfl rfl) rfl ?_
  refine dg rfl rfl rfl (fun h => eo_loadA 1 rfl a61 rfl rfl rfl rfl) rfl ?_
  refine dg rfl rfl rfl (fun h => eo_field rfl f32_0 rfl) rfl ?_
  refine dg rfl rfl rfl (fun h => eo_load 0 rfl s3 (ev_if h rfl) rfl rfl rfl) rfl ?_
  refine dg rfl rfl rfl (fun h => eo_field rfl f32_1 rfl) rfl ?_
  refine dg rfl rfl rfl (fun h => eo_load 0 rfl s3 (ev_if h rfl) rfl rfl rfl) rfl ?_
  refine dg rfl rfl rfl (fun h => eo_field rfl f32_3 rfl) rfl ?_
  refine dg rfl rfl rfl (fun h => eo_load 0 rfl s3 (ev_if h rfl) rfl rfl rfl) rfl ?_
  refine dg rfl rfl rfl (fun h => eo_build rfl (evp_cons (ev_if h rfl) (evp_cons (ev_if h rfl) (evp_cons rfl (evp_cons (ev_if h rfl) evp_nil)))) (b32_0123 _ _ _ _)) rfl ?_
  refine dg rfl rfl rfl (fun h => eo_call rfl en44 (evs_cons (ev_if h rfl) (evs_cons (ev_if h rfl) evs_nil)) (fun W1 hO => dkb_c _ _ _ _ _ _ _ _ _ W1 (hr.old0 hO) (by omega) (by omega) (by omega) (by omega) (bin_mk (by omega) (by omega) (by omega) (by omega) (by omega) (by omega)))) rfl ?_
  refine dg rfl rfl rfl (fun h => eo_field rfl f32_3 rfl) rfl ?_
  refine dg rfl rfl rfl (fun h => eo_load 0 rfl s3 (ev_if h rfl) rfl rfl rfl) rfl ?_
  refine dg rfl rfl rfl (fun h => eo_eql rfl (ev_if h rfl) (ev_if h rfl)) rfl ?_
  refine de rfl (eo_and rfl rfl (fun hb => ev_if hb rfl)) rfl ?_
  refine de rfl (eo_mv rfl rfl) rfl ?_
  refine dg rfl rfl rfl (fun h => eo_loadA 1 rfl a61 rfl rfl rfl rfl) rfl ?_
  refine dg rfl rfl rfl (fun h => eo_field rfl f32_0 rfl) rfl ?_
  refine dg rfl rfl rfl (fun h => eo_load 0 rfl s3 (ev_if h rfl) rfl rfl rfl) rfl ?_
  refine dg rfl rfl rfl (fun h => eo_field rfl f32_2 rfl) rfl ?_
  refine dg rfl rfl rfl (fun h => eo_load 0 rfl s3 (ev_if h rfl) rfl rfl rfl) rfl ?_
  refine dg rfl rfl rfl (fun h => eo_add rfl (ev_if h rfl) (ev_if h rfl) (by have hg0 := (and_t h).imp (fun h => (and_t h).imp (fun h => of_decide_eq_true h) (fun h => of_decide_eq_true h)) (fun h => of_decide_eq_true h); omega) (by have hg0 := (and_t h).imp (fun h => (and_t h).imp (fun h => of_decide_eq_true h) (fun h => of_decide_eq_true h)) (fun h => of_decide_eq_true h); omega)) rfl ?_
  refine dg rfl rfl rfl (fun h => eo_sub rfl (ev_if h rfl) rfl (by have hg0 := (and_t h).imp (fun h => (and_t h).imp (fun h => of_decide_eq_true h) (fun h => of_decide_eq_true h)) (fun h => of_decide_eq_true h); omega) (by have hg0 := (and_t h).imp (fun h => (and_t h).imp (fun h => of_decide_eq_true h) (fun h => of_decide_eq_true h)) (fun h => of_decide_eq_true h); omega)) rfl ?_
  refine dg rfl rfl rfl (fun h => eo_field rfl f32_1 rfl) rfl ?_
  refine dg rfl rfl rfl (fun h => eo_load 0 rfl s3 (ev_if h rfl) rfl rfl rfl) rfl ?_
  refine dg rfl rfl rfl (fun h => eo_field rfl f32_3 rfl) rfl ?_
  refine dg rfl rfl rfl (fun h => eo_load 0 rfl s3 (ev_if h rfl) rfl rfl rfl) rfl ?_
  refine dg rfl rfl rfl (fun h => eo_build rfl (evp_cons (ev_if h rfl) (evp_cons (ev_if h rfl) (evp_cons rfl (evp_cons (ev_if h rfl) evp_nil)))) (b32_0123 _ _ _ _)) rfl ?_
  refine dg rfl rfl rfl (fun h => eo_call rfl en44 (evs_cons (ev_if h rfl) (evs_cons (ev_if h rfl) evs_nil)) (fun W1 hO => dkb_c _ _ _ _ _ _ _ _ _ W1 (hr.old0 hO) (by omega) (by omega) (by omega) (by omega) (bin_mk (by omega) (by omega) (by omega) (by omega) (by omega) (by omega)))) rfl ?_
  refine dg rfl rfl rfl (fun h => eo_field rfl f32_3 rfl) rfl ?_
  refine dg rfl rfl rfl (fun h => eo_load 0 rfl s3 (ev_if h rfl) rfl rfl rfl) rfl ?_
  refine dg rfl rfl rfl (fun h => eo_eql rfl (ev_if h rfl) (ev_if h rfl)) rfl ?_
  refine de rfl (eo_and rfl rfl (fun hb => ev_if hb rfl)) rfl ?_
  refine de rfl (eo_as rfl rfl) rfl ?_
  refine ge_nil ?_
  refine ga_nil ?_
  refine gi_nil ?_
  refine gq_nq ?_
  refine gq_next ?_
  refine gc_seq ?_
  refine gc_draw [] [0, 1, 2, 3, 4, 5, 6, 7, 8, 9, 10, 11] [] [] (by kernel_rfl) (by kernel_rfl) ?_
  refine gp_nil ?_
  refine de rfl (eo_field rfl f32_2 rfl) rfl ?_
  refine de rfl (eo_load 0 rfl s3 rfl rfl rfl rfl) rfl ?_
  refine de rfl (eo_field rfl f32_3 rfl) rfl ?_
  refine de rfl (eo_load 0 rfl s3 rfl rfl rfl rfl) rfl ?_
  refine de rfl (eo_min rfl rfl rfl) rfl ?_
  refine de rfl (eo_field rfl f32_2 rfl) rfl ?_
  refine de rfl (eo_load 0 rfl s3 rfl rfl rfl rfl) rfl ?_
  refine de rfl (eo_field rfl f32_3 rfl) rfl ?_
  refine de rfl (eo_load 0 rfl s3 rfl rfl rfl rfl) rfl ?_
  refine de rfl (eo_max rfl rfl rfl) rfl ?_
  refine de rfl (eo_as rfl rfl) rfl ?_
  refine de rfl (eo_as rfl rfl) rfl ?_
  refine ge_nil ?_
  refine ga_nil ?_
  refine gi_nil ?_
  refine gq_nq ?_
  refine gq_next ?_
  refine gc_seq ?_
  refine gc_block ?_
  refine gc_seq ?_
  refine gc_region ?_
  refine ne (eo_mv rfl rfl) rfl ?_
  refine ne (eo_leq rfl rfl rfl) rfl ?_
  refine ne (eo_mv rfl rfl) rfl ?_
  refine ng rfl rfl (fun h => eo_mv rfl rfl) rfl ?_
  refine ng rfl rfl (fun h => eo_eql rfl (ev_if h rfl) rfl) rfl ?_
  refine ne (eo_or rfl rfl (fun hb => ev_if hb rfl)) rfl ?_
  refine ne (eo_as rfl rfl) rfl ?_
  refine go_nil ?_
  refine gq_next ?_
  refine gc_cond rfl (fun hc0 => ?_) (fun hc0 => ?_)
  ·
    have hd0 := (or_t hc0).imp (fun h => of_decide_eq_true h) (fun h => of_decide_eq_true h)
    refine gc_seq ?_
    refine gc_region ?_
    refine ne (eo_as rfl rfl) rfl ?_
    refine go_nil ?_
    refine gq_next ?_
    refine gc_ret ?_
    refine gq_block_ret ?_
    refine gq_then_ret ?_
    refine gq_results (res1 rfl rfl) ?_
    exact fun W1 hO => ⟨ret_int (by unfold clsI; simp only; first | rw [if_pos (by omega)] | rw [if_neg (by omega), if_pos (by omega)] | rw [if_neg (by omega), if_neg (by omega), if_pos (by omega)] | rw [if_neg (by omega), if_neg (by omega), if_neg (by omega), if_pos (by omega)] | rw [if_neg (by omega), if_neg (by omega), if_neg (by omega), if_neg (by omega)]), hO.toExt⟩
  ·
    have hd0 := (or_f hc0).imp (fun h => of_decide_eq_false h) (fun h => of_decide_eq_false h)
    refine gc_seq ?_
    refine gc_region ?_
    refine ne (eo_mv rfl rfl) rfl ?_
    refine ne (eo_mv rfl rfl) rfl ?_
    refine ne (eo_eql rfl rfl rfl) rfl ?_
    refine ne (eo_mv rfl rfl) rfl ?_
    refine ng rfl rfl (fun h => eo_mv rfl rfl) rfl ?_
    refine ng rfl rfl (fun h => eo_mv rfl rfl) rfl ?_
    refine ng rfl rfl (fun h => eo_mul rfl rfl (ev_if h rfl) (by have hg0 := of_decide_eq_true h; omega) (by have hg0 := of_decide_eq_true h; omega)) rfl ?_
    refine ng rfl rfl (fun h => eo_geq rfl (ev_if h rfl) (ev_if h rfl)) rfl ?_
    refine ne (eo_and rfl rfl (fun hb => ev_if hb rfl)) rfl ?_
    refine ne (eo_as rfl rfl) rfl ?_
    refine go_nil ?_
    refine gq_next ?_
    refine gc_cond rfl (fun hc1 => ?_) (fun hc1 => ?_)
    ·
      have hd1 := (and_t hc1).imp (fun h => of_decide_eq_true h) (fun h => of_decide_eq_true h)
      refine gc_seq ?_
      refine gc_region ?_
      refine ne (eo_as rfl rfl) rfl ?_
      refine go_nil ?_
      refine gq_next ?_
      refine gc_ret ?_
      refine gq_block_ret ?_
      refine gq_then_ret ?_
      refine gq_results (res1 rfl rfl) ?_
      exact fun W1 hO => ⟨ret_int (by unfold clsI; simp only; first | rw [if_pos (by omega)] | rw [if_neg (by omega), if_pos (by omega)] | rw [if_neg (by omega), if_neg (by omega), if_pos (by omega)] | rw [if_neg (by omega), if_neg (by omega), if_neg (by omega), if_pos (by omega)] | rw [if_neg (by omega), if_neg (by omega), if_neg (by omega), if_neg (by omega)]), hO.toExt⟩
    ·
      have hd1 := (and_f hc1).imp (fun h => of_decide_eq_false h) (fun h => of_decide_eq_false h)
      refine gc_seq ?_
      refine gc_region ?_
      refine ne (eo_mv rfl rfl) rfl ?_
      refine ne (eo_geq rfl rfl rfl) rfl ?_
      refine ne (eo_mv rfl rfl) rfl ?_
      refine ng rfl rfl (fun h => eo_mv rfl rfl) rfl ?_
      refine ne (eo_and rfl rfl (fun hb => ev_if hb rfl)) rfl ?_
      refine ne (eo_as rfl rfl) rfl ?_
      refine go_nil ?_
      refine gq_next ?_
      refine gc_cond rfl (fun hc2 => ?_) (fun hc2 => ?_)
      ·
        have hd2 := (and_t hc2).imp (fun h => of_decide_eq_true h) (fun h => (and_t h).imp (fun h => (and_t h).imp (fun h => (and_t h).imp (fun h => of_decide_eq_true h) (fun h => of_decide_eq_true h)) (fun h => of_decide_eq_true h)) (fun h => of_decide_eq_true h))
        refine gc_seq ?_
        refine gc_region ?_
        refine ne (eo_as rfl rfl) rfl ?_
        refine go_nil ?_
        refine gq_next ?_
        refine gc_ret ?_
        refine gq_block_ret ?_
        refine gq_then_ret ?_
        refine gq_results (res1 rfl rfl) ?_
        exact fun W1 hO => ⟨ret_int (by unfold clsI; simp only; first | rw [if_pos (by omega)] | rw [if_neg (by omega), if_pos (by omega)] | rw [if_neg (by omega), if_neg (by omega), if_pos (by omega)] | rw [if_neg (by omega), if_neg (by omega), if_neg (by omega), if_pos (by omega)] | rw [if_neg (by omega), if_neg (by omega), if_neg (by omega), if_neg (by omega)]), hO.toExt⟩
      ·
        have hd2 := (and_f hc2).imp (fun h => of_decide_eq_false h) (fun h => (and_f h).imp (fun h => (and_f h).imp (fun h => (and_f h).imp (fun h => of_decide_eq_false h) (fun h => of_decide_eq_false h)) (fun h => of_decide_eq_false h)) (fun h => of_decide_eq_false h))
        refine gc_seq ?_
        refine gc_region ?_
        refine ne (eo_mv rfl rfl) rfl ?_
        refine ne (eo_geq rfl rfl rfl) rfl ?_
        refine ne (eo_mv rfl rfl) rfl ?_
        refine ng rfl rfl (fun h => eo_mv rfl rfl) rfl ?_
        refine ng rfl rfl (fun h => eo_mul rfl rfl (ev_if h rfl) (by have hg0 := of_decide_eq_true h; omega) (by have hg0 := of_decide_eq_true h; omega)) rfl ?_
        refine ng rfl rfl (fun h => eo_mv rfl rfl) rfl ?_
        refine ng rfl rfl (fun h => eo_mul rfl rfl (ev_if h rfl) (by have hg0 := of_decide_eq_true h; omega) (by have hg0 := of_decide_eq_true h; omega)) rfl ?_
        refine ng rfl rfl (fun h => eo_geq rfl (ev_if h rfl) (ev_if h rfl)) rfl ?_
        refine ne (eo_and rfl rfl (fun hb => ev_if hb rfl)) rfl ?_
        refine ne (eo_mv rfl rfl) rfl ?_
        refine ng rfl rfl (fun h => eo_mv rfl rfl) rfl ?_
        refine ng rfl rfl (fun h => eo_mul rfl rfl (ev_if h rfl) (by have hg0 := (and_t h).imp (fun h => of_decide_eq_true h) (fun h => of_decide_eq_true h); omega) (by have hg0 := (and_t h).imp (fun h => of_decide_eq_true h) (fun h => of_decide_eq_true h); omega)) rfl ?_
        refine ng rfl rfl (fun h => eo_mv rfl rfl) rfl ?_
        refine ng rfl rfl (fun h => eo_mul rfl rfl (ev_if h rfl) (by have hg0 := (and_t h).imp (fun h => of_decide_eq_true h) (fun h => of_decide_eq_true h); omega) (by have hg0 := (and_t h).imp (fun h => of_decide_eq_true h) (fun h => of_decide_eq_true h); omega)) rfl ?_
        refine ng rfl rfl (fun h => eo_geq rfl (ev_if h rfl) (ev_if h rfl)) rfl ?_
        refine ne (eo_and rfl rfl (fun hb => ev_if hb rfl)) rfl ?_
        refine ne (eo_mv rfl rfl) rfl ?_
        refine ng rfl rfl (fun h => eo_mv rfl rfl) rfl ?_
        refine ng rfl rfl (fun h => eo_mul rfl rfl (ev_if h rfl) (by have hg0 := (and_t h).imp (fun h => (and_t h).imp (fun h => of_decide_eq_true h) (fun h => of_decide_eq_true h)) (fun h => of_decide_eq_true h); omega) (by have hg0 := (and_t h).imp (fun h => (and_t h).imp (fun h => of_decide_eq_true h) (fun h => of_decide_eq_true h)) (fun h => of_decide_eq_true h); omega)) rfl ?_
        refine ng rfl rfl (fun h => eo_mv rfl rfl) rfl ?_
        refine ng rfl rfl (fun h => eo_mul rfl rfl (ev_if h rfl) (by have hg0 := (and_t h).imp (fun h => (and_t h).imp (fun h => of_decide_eq_true h) (fun h => of_decide_eq_true h)) (fun h => of_decide_eq_true h); omega) (by have hg0 := (and_t h).imp (fun h => (and_t h).imp (fun h => of_decide_eq_true h) (fun h => of_decide_eq_true h)) (fun h => of_decide_eq_true h); omega)) rfl ?_
        refine ng rfl rfl (fun h => eo_leq rfl (ev_if h rfl) (ev_if h rfl)) rfl ?_
        refine ne (eo_and rfl rfl (fun hb => ev_if hb rfl)) rfl ?_
        refine ne (eo_as rfl rfl) rfl ?_
        refine go_nil ?_
        refine gq_next ?_
        refine gc_cond rfl (fun hc3 => ?_) (fun hc3 => ?_)
        ·
          have hd3 := (and_t hc3).imp (fun h => (and_t h).imp (fun h => (and_t h).imp (fun h => of_decide_eq_true h) (fun h => of_decide_eq_true h)) (fun h => of_decide_eq_true h)) (fun h => of_decide_eq_true h)
          refine gc_seq ?_
          refine gc_region ?_
          refine ne (eo_as rfl rfl) rfl ?_
          refine go_nil ?_
          refine gq_next ?_
          refine gc_ret ?_
          refine gq_block_ret ?_
          refine gq_then_ret ?_
          refine gq_results (res1 rfl rfl) ?_
          exact fun W1 hO => ⟨ret_int (by unfold clsI; simp only; first | rw [if_pos (by omega)] | rw [if_neg (by omega), if_pos (by omega)] | rw [if_neg (by omega), if_neg (by omega), if_pos (by omega)] | rw [if_neg (by omega), if_neg (by omega), if_neg (by omega), if_pos (by omega)] | rw [if_neg (by omega), if_neg (by omega), if_neg (by omega), if_neg (by omega)]), hO.toExt⟩
        ·
          have hd3 := (and_f hc3).imp (fun h => (and_f h).imp (fun h => (and_f h).imp (fun h => of_decide_eq_false h) (fun h => of_decide_eq_false h)) (fun h => of_decide_eq_false h)) (fun h => of_decide_eq_false h)
          refine gc_skip ?_
          refine gq_block_end ?_
          refine gq_next ?_
          refine gc_seq ?_
          refine gc_region ?_
          refine ne (eo_as rfl rfl) rfl ?_
          refine go_nil ?_
          refine gq_next ?_
          refine gc_ret ?_
          refine gq_results (res1 rfl rfl) ?_
          exact fun W1 hO => ⟨ret_int (by unfold clsI; simp only; first | rw [if_pos (by omega)] | rw [if_neg (by omega), if_pos (by omega)] | rw [if_neg (by omega), if_neg (by omega), if_pos (by omega)] | rw [if_neg (by omega), if_neg (by omega), if_neg (by omega), if_pos (by omega)] | rw [if_neg (by omega), if_neg (by omega), if_neg (by omega), if_neg (by omega)]), hO.toExt⟩

end Go.Proofs.Ytnmiljloifbjeaa
