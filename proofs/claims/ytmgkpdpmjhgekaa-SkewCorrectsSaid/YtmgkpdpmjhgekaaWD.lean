/-
  The walks of the functions of package skew and of the document's answer (part D): what each call returns, at every argument.
-/
import Derived.Test.YtmgkpdpmjhgekaaWC
namespace Go.Proofs.Ytmgkpdpmjhgekaa
open Go.RowKit Go.Eng

open Go.Bs
theorem e21 : TyE Try.prog 21 (.int .i32 0) 4 := ⟨rfl, by kernel_rfl⟩
theorem sl62 : TySl Try.prog 62 21 1 := ⟨Try.underlying62, by kernel_rfl⟩
theorem s21 : TyS Try.prog 21 := ⟨⟨_, Try.underlying21, rfl⟩, by kernel_rfl⟩
theorem en36 : Ent Try.prog 36 := ent_of Try.func36 (by kernel_rfl) rfl

/-- barscan/skew.energy -/
theorem en_c (W H : Int) (A : Option Addr) (n c : Nat) (f : Nat → Bool) (num : Int) (den : Int) (w : World) (hr : Rd w A (tab n (bv f))) (hv : vldB W H n = true) (hs : slopeB num den = true) (hnc : n ≤ c) :
    Calls Try.prog 36 #[.agg #[.int .i64 W, .int .i64 H, .slice A n c], .int .i64 num, .int .i64 den] w (fun e w' => e = .returned (.int .i64 (enI ⟨W, H, n, f⟩ num den)) ∧ Ext w w') := by
  obtain ⟨v1, v2, v3, v4, v5, v6⟩ := vldB_iff.1 hv
  have v7 := vld_pos hv
  obtain ⟨d1, d2, d3, d4⟩ := slopeB_iff.1 hs
  have hmx0 := shI_bd (W := W) (num := num) (den := den) (x := 0) d1 (by omega) (by omega) (by omega) d3 d4
  have hmx1 := shI_bd (W := W) (num := num) (den := den) (x := W - 1) d1 (by omega) (by omega) (by omega) d3 d4
  have hmx : 0 ≤ shMax W num den ∧ shMax W num den ≤ 33554432 := by unfold shMax; omega
  have hmax := sh_max (W := W) (num := num) (den := den) d1 v1
  refine calls_enter (N := ⟨78, []⟩) [] ([]) Try.func36 rfl rfl rfl (Ow.start _) ?_
  refine gc_seq ?_
  refine gc_region ?_
  refine nx (xo_boxA rfl rfl) rfl ?_
  rintro _ _ ⟨g3, rfl, rfl⟩
  refine ne (eo_as rfl rfl) rfl ?_
  refine go_nil ?_
  refine gq_next ?_
  refine gc_seq ?_
  refine gc_region ?_
  refine ne (eo_field rfl f24_0 rfl) rfl ?_
  refine ne (eo_load 0 rfl s3 rfl rfl rfl rfl) rfl ?_
  refine ne (eo_mv rfl rfl) rfl ?_
  refine ne (eo_mv rfl rfl) rfl ?_
  refine nx (xo_fresh rfl en32 rfl (fun W1 hO => shifts_c _ _ _ W1 (by omega) (by omega) (by assumption))) rfl ?_
  rintro _ _ ⟨_, ⟨gh19, ch19, sh19, rfl, rfl, hch19⟩, rfl⟩
  refine ne (eo_as rfl rfl) rfl ?_
  refine go_nil ?_
  refine gq_next ?_
  refine gc_seq ?_
  refine gc_draw [] [0, 1, 2, 3, 4] [5, 6] [] (by kernel_rfl) (by kernel_rfl) ?_
  refine gp_nil ?_
  refine de rfl (eo_field rfl f24_1 rfl) rfl ?_
  refine de rfl (eo_load 1 rfl s3 rfl rfl rfl rfl) rfl ?_
  refine de rfl (eo_mv rfl rfl) rfl ?_
  refine de rfl (eo_call rfl en33 rfl (fun W1 hO => smax_c _ _ _ _ W1 (tabs_rd hO 0 rfl) (by omega) (by omega))) rfl ?_
  refine de rfl (eo_add rfl rfl rfl (by omega) (by omega)) rfl ?_
  refine ge_nil ?_
  refine da rfl (xo_makei rfl Try.underlying62 e21 rfl rfl (by omega) (by omega) (by omega)) rfl ?_
  rintro _ _ ⟨g25, rfl, rfl⟩
  refine ⟨by first | exact (List.Sublist.cons _ (List.Sublist.refl _)) | exact (List.sublist_append_left _ _), ?_⟩
  refine da rfl (xo_of_eo (eo_as rfl rfl)) rfl ?_
  rintro _ _ ⟨rfl, rfl⟩
  refine ⟨by first | exact (List.Sublist.cons _ (List.Sublist.refl _)) | exact (List.sublist_append_left _ _), ?_⟩
  refine ga_nil ?_
  refine gi_nil ?_
  refine gq_nq ?_
  refine gq_next ?_
  refine gc_seq ?_
  refine gc_seq ?_
  rw [hmax]
  refine gc_region ?_
  refine ne (eo_field rfl f24_1 rfl) rfl ?_
  refine ne (eo_load 2 rfl s3 rfl rfl rfl rfl) rfl ?_
  refine ne (eo_mv rfl rfl) rfl ?_
  refine go_nil ?_
  refine gq_next ?_
  refine gc_block ?_
  refine loop3 (fun (y : Nat) (i : Nat) (f1 : Nat → Int) => (y : Int) ≤ H ∧ (i : Int) = y * W ∧ ∀ v : Nat, v < (H + shMax W num den).toNat → f1 v = histN f (keyI W num den) i (v : Int)) (fun (y : Nat) (i : Nat) (f1 : Nat → Int) => (H - y).toNat) (fun (y : Nat) (i : Nat) (f1 : Nat → Int) => [(3, .pointer (some ⟨g3, 0, none⟩)), (7, .slice (some ⟨gh19, 0, none⟩) W.toNat ch19), (8, .slice (some ⟨g25, 0, none⟩) (((H + (shMax W num den))).toNat) (((H + (shMax W num den))).toNat)), (27, .int .i64 H), (28, .int .i64 (y : Int))]) (fun (y : Nat) (i : Nat) (f1 : Nat → Int) => [⟨g25, 21, tab (((H + (shMax W num den))).toNat) (iv .i32 f1) ++ []⟩, ⟨gh19, 3, tab W.toNat (iv .i64 (fun x : Nat => shI W num den (x : Int))) ++ sh19⟩, ⟨g3, 24, [.int .i64 W, .int .i64 H, .slice A n c]⟩]) 0 0 (fun _ => 0) ⟨by omega, by simp, fun _ _ => rfl⟩ ⟨rfl, rfl, rfl, rfl, rfl, trivial⟩ (List.Sublist.refl _) ?_
  rintro y i f1 ⟨hy, hi, hI⟩
  refine gc_seq ?_
  refine gc_region ?_
  refine ne (eo_lss rfl rfl rfl) rfl ?_
  refine go_nil ?_
  refine gq_next ?_
  refine gc_seq ?_
  refine gc_cond rfl (fun hc0 => ?_) (fun hc0 => ?_)
  ·
    replace hc0 := of_decide_eq_true hc0
    have hyb := idx_bd (W := W) (H := H) (x := 0) (y := (y : Int)) (by omega) (by omega) (by omega) (by omega)
    have ha : ((y : Int) + 1) * W = y * W + W := add1_mul
    refine gc_skip ?_
    refine gq_next ?_
    refine gc_seq ?_
    refine gc_block ?_
    refine gc_seq ?_
    refine gc_region ?_
    refine ne (eo_mv rfl rfl) rfl ?_
    refine ne (eo_as rfl rfl) rfl ?_
    refine go_nil ?_
    refine gq_next ?_
    refine gc_seq ?_
    refine gc_region ?_
    refine ne (eo_field rfl f24_2 rfl) rfl ?_
    refine ne (eo_load 2 rfl s22 rfl rfl rfl rfl) rfl ?_
    refine ne (eo_mv rfl rfl) rfl ?_
    refine ne (eo_field rfl f24_0 rfl) rfl ?_
    refine ne (eo_load 2 rfl s3 rfl rfl rfl rfl) rfl ?_
    refine ne (eo_mul rfl rfl rfl (by omega) (by omega)) rfl ?_
    refine ne (eo_mv rfl rfl) rfl ?_
    refine ne (eo_add rfl rfl rfl (by omega) (by omega)) rfl ?_
    refine ne (eo_field rfl f24_0 rfl) rfl ?_
    refine ne (eo_load 2 rfl s3 rfl rfl rfl rfl) rfl ?_
    refine ne (eo_mul rfl rfl rfl (by omega) (by omega)) rfl ?_
    refine ne (eo_slR rfl sl22 rfl rfl rfl hr (by omega) (by omega) (by omega) (by omega) (by simp; omega)) rfl ?_
    refine ne (eo_len rfl Try.underlying22 rfl) rfl ?_
    refine ne (eo_mv rfl rfl) rfl ?_
    refine go_nil ?_
    refine gq_next ?_
    refine gc_block ?_
    refine loop3 (fun (x : Nat) (i : Nat) (f1 : Nat → Int) => (x : Int) ≤ W ∧ (i : Int) = y * W + x ∧ ∀ v : Nat, v < (H + shMax W num den).toNat → f1 v = histN f (keyI W num den) i (v : Int)) (fun (x : Nat) (i : Nat) (f1 : Nat → Int) => (W - x).toNat) (fun (x : Nat) (i : Nat) (f1 : Nat → Int) => [(3, .pointer (some ⟨g3, 0, none⟩)), (7, .slice (some ⟨gh19, 0, none⟩) W.toNat ch19), (8, .slice (some ⟨g25, 0, none⟩) (((H + (shMax W num den))).toNat) (((H + (shMax W num den))).toNat)), (9, .int .i64 (y : Int)), (27, .int .i64 H), (28, .int .i64 (y : Int)), (42, .slice (some ⟨bl A, of A + (((y : Int) * W)).toNat, none⟩) (((((y : Int) + 1) * W)).toNat - (((y : Int) * W)).toNat) (c - (((y : Int) * W)).toNat)), (43, .int .i64 (((((((y : Int) + 1) * W)).toNat - (((y : Int) * W)).toNat) : Nat) : Int)), (44, .int .i64 (x : Int))]) (fun (x : Nat) (i : Nat) (f1 : Nat → Int) => [⟨g25, 21, tab (((H + (shMax W num den))).toNat) (iv .i32 f1) ++ []⟩, ⟨gh19, 3, tab W.toNat (iv .i64 (fun x : Nat => shI W num den (x : Int))) ++ sh19⟩, ⟨g3, 24, [.int .i64 W, .int .i64 H, .slice A n c]⟩]) 0 i f1 ⟨by omega, by omega, hI⟩ ⟨rfl, rfl, rfl, rfl, rfl, rfl, rfl, rfl, rfl, trivial⟩ (List.Sublist.refl _) ?_
    rintro x i f1 ⟨hx, hi, hI⟩
    refine gc_seq ?_
    refine gc_region ?_
    refine ne (eo_lss rfl rfl rfl) rfl ?_
    refine go_nil ?_
    refine gq_next ?_
    refine gc_seq ?_
    refine gc_cond rfl (fun hc1 => ?_) (fun hc1 => ?_)
    ·
      replace hc1 := of_decide_eq_true hc1
      have hsb := shI_bd (W := W) (num := num) (den := den) (x := (x : Int)) d1 (by omega) (by omega) (by omega) d3 d4
      have hle := shI_le (W := W) (num := num) (den := den) (x := (x : Int)) d1 (by omega) (by omega)
      have hfx := hI ((y : Int) + shI W num den (((x : Int).toNat : Nat) : Int)).toNat (by show _ < _; simp only [Int.toNat_natCast]; omega)
      have hhb := hist_bd (p := f) (key := (keyI W num den)) (n := i) (y := ((((y : Int) + shI W num den (((x : Int).toNat : Nat) : Int)).toNat : Nat) : Int))
      have hxx : shI W num den (((x : Int).toNat : Nat) : Int) = shI W num den (x : Int) := rfl
      have hke : keyI W num den i = (y : Int) + shI W num den (x : Int) := by unfold keyI; rw [(dm hi (by omega) (by omega)).1, (dm hi (by omega) (by omega)).2]
      have hii : ((y : Int) * W).toNat + (x : Int).toNat = i := by omega
      refine gc_skip ?_
      refine gq_next ?_
      refine gc_seq ?_
      refine gc_block ?_
      refine gc_seq ?_
      refine gc_region ?_
      refine ne (eo_mv rfl rfl) rfl ?_
      refine ne (eo_indexC rfl sl22 rfl rfl (by omega) (by omega)) rfl ?_
      refine ne (eo_load_old rfl s4 rfl (Rd.tabb hr (by omega)) (by simp)) rfl ?_
      refine ne (eo_as rfl rfl) rfl ?_
      refine ne (eo_as rfl rfl) rfl ?_
      refine go_nil ?_
      refine gq_next ?_
      refine gc_seq ?_
      refine gc_region ?_
      refine ne (eo_mv rfl rfl) rfl ?_
      refine go_nil ?_
      refine gq_next ?_
      refine gc_cond rfl (fun hc2 => ?_) (fun hc2 => ?_)
      ·
        rw [hii] at hc2
        refine gc_region ?_
        refine ne (eo_mv rfl rfl) rfl ?_
        refine ne (eo_mv rfl rfl) rfl ?_
        refine ne (eo_mv rfl rfl) rfl ?_
        refine ne (eo_mv rfl rfl) rfl ?_
        refine ne (eo_index0 rfl sl44 rfl rfl (by omega) (by omega)) rfl ?_
        refine ne (eo_geti 1 rfl s3 rfl rfl (by omega)) rfl ?_
        refine ne (eo_add rfl rfl rfl (by omega) (by omega)) rfl ?_
        refine ne (eo_index0 rfl sl62 rfl rfl (by omega) (by omega)) rfl ?_
        refine ne (eo_geti 0 rfl s21 rfl rfl (by omega)) rfl ?_
        refine ne (eo_addk rfl rfl rfl (i32_in (by omega) (by omega))) rfl ?_
        refine ne (eo_index0 rfl sl62 rfl rfl (by omega) (by omega)) rfl ?_
        refine nu (xo_seti 0 rfl s21 rfl rfl rfl (by omega)) ?_
        rintro _ _ ⟨rfl, rfl⟩
        refine go_nil ?_
        refine gq_block_end ?_
        refine gq_next ?_
        refine gc_region ?_
        refine ne (eo_add rfl rfl rfl (by omega) (by omega)) rfl ?_
        refine ne (eo_mv rfl rfl) rfl ?_
        refine go_nil ?_
        exact round3 (x + 1) (i + 1) (upd f1 ((((y : Int) + ((fun x : Nat => shI W num den (x : Int)) (x)))).toNat) ((f1 ((((y : Int) + ((fun x : Nat => shI W num den (x : Int)) (x)))).toNat)) + 1)) ⟨by omega, by push_cast; omega, hist_step (i := i) hc2 (by rw [hke]; exact Int.toNat_of_nonneg (a := (y : Int) + shI W num den (x : Int)) (by omega)) hI⟩ (by omega) ⟨rfl, rfl, rfl, rfl, rfl, rfl, rfl, rfl, rfl, trivial⟩ (List.Sublist.refl _)
      ·
        rw [hii] at hc2
        refine gc_skip ?_
        refine gq_block_end ?_
        refine gq_next ?_
        refine gc_region ?_
        refine ne (eo_add rfl rfl rfl (by omega) (by omega)) rfl ?_
        refine ne (eo_mv rfl rfl) rfl ?_
        refine go_nil ?_
        exact round3 (x + 1) (i + 1) f1 ⟨by omega, by push_cast; omega, hist_keep (i := i) hc2 hI⟩ (by omega) ⟨rfl, rfl, rfl, rfl, rfl, rfl, rfl, rfl, rfl, trivial⟩ (List.Sublist.refl _)
    ·
      replace hc1 := of_decide_eq_false hc1
      refine gc_exit ?_
      refine gq_then_exit ?_
      refine gq_then_exit ?_
      refine gq_block_hit ?_
      refine gq_block_end ?_
      refine gq_next ?_
      refine gc_region ?_
      refine ne (eo_add rfl rfl rfl (by omega) (by omega)) rfl ?_
      refine ne (eo_mv rfl rfl) rfl ?_
      refine go_nil ?_
      exact round3 (y + 1) i f1 ⟨by omega, by push_cast; omega, hI⟩ (by omega) ⟨rfl, rfl, rfl, rfl, rfl, trivial⟩ (List.Sublist.refl _)
  ·
    replace hc0 := of_decide_eq_false hc0
    have hin : i = n := by
      have e1 : (y : Int) = H := by omega
      rw [e1, Int.mul_comm] at hi
      omega
    refine gc_exit ?_
    refine gq_then_exit ?_
    refine gq_then_exit ?_
    refine gq_block_hit ?_
    refine gq_next ?_
    refine gc_seq ?_
    refine gc_region ?_
    refine ne (eo_as rfl rfl) rfl ?_
    refine go_nil ?_
    refine gq_next ?_
    refine gc_seq ?_
    refine gc_seq ?_
    refine gc_region ?_
    refine ne (eo_mv rfl rfl) rfl ?_
    refine ne (eo_len rfl Try.underlying62 rfl) rfl ?_
    refine ne (eo_mv rfl rfl) rfl ?_
    refine go_nil ?_
    refine gq_next ?_
    refine gc_block ?_
    refine loop2 (fun (k : Nat) (s : Int) => k ≤ (H + shMax W num den).toNat ∧ s = sumN (fun v => histN f (keyI W num den) n v * histN f (keyI W num den) n v) k) (fun (k : Nat) (s : Int) => (H + shMax W num den).toNat - k) (fun (k : Nat) (s : Int) => [(12, .int .i64 s), (63, .slice (some ⟨g25, 0, none⟩) (((H + (shMax W num den))).toNat) (((H + (shMax W num den))).toNat)), (64, .int .i64 ((((H + (shMax W num den))).toNat : Nat) : Int)), (65, .int .i64 (k : Int))]) (fun (k : Nat) (s : Int) => [⟨g25, 21, tab (((H + (shMax W num den))).toNat) (iv .i32 f1) ++ []⟩, ⟨gh19, 3, tab W.toNat (iv .i64 (fun x : Nat => shI W num den (x : Int))) ++ sh19⟩, ⟨g3, 24, [.int .i64 W, .int .i64 H, .slice A n c]⟩]) 0 0 ⟨by omega, rfl⟩ ⟨rfl, rfl, rfl, rfl, trivial⟩ (List.Sublist.refl _) ?_
    rintro k s ⟨hk, hsum⟩
    refine gc_seq ?_
    refine gc_region ?_
    refine ne (eo_lss rfl rfl rfl) rfl ?_
    refine go_nil ?_
    refine gq_next ?_
    refine gc_seq ?_
    refine gc_cond rfl (fun hc3 => ?_) (fun hc3 => ?_)
    ·
      replace hc3 := of_decide_eq_true hc3
      have hb1 := en_bd (p := f) (key := (keyI W num den)) (n := n) (N := k) (by omega)
      have hb2 := en_bd (p := f) (key := (keyI W num den)) (n := n) (N := k + 1) (by omega)
      have hb3 : sumN (fun v => histN f (keyI W num den) n v * histN f (keyI W num den) n v) (k + 1) = sumN (fun v => histN f (keyI W num den) n v * histN f (keyI W num den) n v) k + histN f (keyI W num den) n k * histN f (keyI W num den) n k := rfl
      have hb4 := hist_bd (p := f) (key := (keyI W num den)) (n := n) (y := ((k : Nat) : Int))
      have hfk := hI k (by omega)
      rw [hin] at hfk
      have hfk2 : f1 (k : Int).toNat = histN f (keyI W num den) n k := hfk
      have hb5 : f1 k * f1 k = histN f (keyI W num den) n k * histN f (keyI W num den) n k := by rw [hfk]
      have hb6 : f1 (k : Int).toNat * f1 (k : Int).toNat = histN f (keyI W num den) n k * histN f (keyI W num den) n k := hb5
      refine gc_skip ?_
      refine gq_next ?_
      refine gc_seq ?_
      refine gc_block ?_
      refine gc_seq ?_
      refine gc_region ?_
      refine ne (eo_index0 rfl sl62 rfl rfl (by omega) (by omega)) rfl ?_
      refine ne (eo_geti 0 rfl s21 rfl rfl (by omega)) rfl ?_
      refine ne (eo_as rfl rfl) rfl ?_
      refine go_nil ?_
      refine gq_next ?_
      refine gc_region ?_
      refine ne (eo_mv rfl rfl) rfl ?_
      refine ne (eo_mv rfl rfl) rfl ?_
      refine ne (eo_convi rfl rfl ⟨_, Try.underlying21⟩ Try.underlying3 (by omega) (by omega)) rfl ?_
      refine ne (eo_mv rfl rfl) rfl ?_
      refine ne (eo_convi rfl rfl ⟨_, Try.underlying21⟩ Try.underlying3 (by omega) (by omega)) rfl ?_
      refine ne (eo_mul rfl rfl rfl (by omega) (by omega)) rfl ?_
      refine ne (eo_add rfl rfl rfl (by omega) (by omega)) rfl ?_
      refine ne (eo_as rfl rfl) rfl ?_
      refine go_nil ?_
      refine gq_block_end ?_
      refine gq_next ?_
      refine gc_region ?_
      refine ne (eo_add rfl rfl rfl (by omega) (by omega)) rfl ?_
      refine ne (eo_mv rfl rfl) rfl ?_
      refine go_nil ?_
      exact round2 (k + 1) (s + ((f1 (k)) * (f1 (k)))) ⟨by omega, by rw [hb3, ← hsum, hb5]⟩ (by omega) ⟨rfl, rfl, rfl, rfl, trivial⟩ (List.Sublist.refl _)
    ·
      replace hc3 := of_decide_eq_false hc3
      refine gc_exit ?_
      refine gq_then_exit ?_
      refine gq_then_exit ?_
      refine gq_block_hit ?_
      refine gq_next ?_
      refine gc_seq ?_
      refine gc_region ?_
      refine ne (eo_mv rfl rfl) rfl ?_
      refine ne (eo_as rfl rfl) rfl ?_
      refine go_nil ?_
      refine gq_next ?_
      refine gc_ret ?_
      refine gq_results (res1 rfl rfl) ?_
      exact fun W1 hO => ⟨ret_int (by rw [hsum, show k = (H + shMax W num den).toNat by omega]; rfl), hO.toExt⟩

/-- barscan/skew.Energy -/
theorem energy_c (W H : Int) (A : Option Addr) (n c : Nat) (f : Nat → Bool) (num : Int) (den : Int) (w : World) (hr : Rd w A (tab n (bv f))) (hnc : n ≤ c) :
    Calls Try.prog 17 #[.agg #[.int .i64 W, .int .i64 H, .slice A n c], .int .i64 num, .int .i64 den] w (fun e w' => e = .returned (.tuple #[.int .i64 (energyR ⟨W, H, n, f⟩ num den).1, .int .i64 (energyR ⟨W, H, n, f⟩ num den).2]) ∧ Ext w w') := by
  refine calls_enter (N := ⟨19, []⟩) [] ([]) Try.func17 rfl rfl rfl (Ow.start _) ?_
  refine gc_seq ?_
  refine gc_region ?_
  refine nx (xo_boxA rfl rfl) rfl ?_
  rintro _ _ ⟨g3, rfl, rfl⟩
  refine ne (eo_as rfl rfl) rfl ?_
  refine ne (eo_as rfl rfl) rfl ?_
  refine go_nil ?_
  refine gq_next ?_
  refine gc_seq ?_
  refine gc_seq ?_
  refine gc_region ?_
  refine ne (eo_loadA 0 rfl a24 rfl rfl rfl rfl) rfl ?_
  refine ne (eo_call rfl en30 rfl (fun W1 hO => check_c _ _ _ _ _ W1  )) rfl ?_
  refine ne (eo_neq rfl rfl rfl) rfl ?_
  refine go_nil ?_
  refine gq_next ?_
  refine gc_cond rfl (fun hc0 => ?_) (fun hc0 => ?_)
  ·
    replace hc0 := of_decide_eq_true hc0
    have hv := chk_f hc0
    refine gc_seq ?_
    refine gc_region ?_
    refine ne (eo_as rfl rfl) rfl ?_
    refine ne (eo_as rfl rfl) rfl ?_
    refine go_nil ?_
    refine gq_next ?_
    refine gc_ret ?_
    refine gq_then_ret ?_
    refine gq_results (res2 rfl rfl rfl) ?_
    exact fun W1 hO => ⟨ret_ints (energyR_no hv).symm, hO.toExt⟩
  ·
    replace hc0 := of_decide_eq_false hc0
    have hv := chk_t hc0
    obtain ⟨v1, v2, v3, v4, v5, v6⟩ := vldB_iff.1 hv
    have v7 := vld_pos hv
    refine gc_skip ?_
    refine gq_next ?_
    refine gc_seq ?_
    refine gc_seq ?_
    refine gc_region ?_
    refine ne (eo_mv rfl rfl) rfl ?_
    refine ne (eo_mv rfl rfl) rfl ?_
    refine ne (eo_call rfl en31 rfl (fun W1 hO => slope_c _ _ W1  )) rfl ?_
    refine ne (eo_not rfl rfl) rfl ?_
    refine go_nil ?_
    refine gq_next ?_
    refine gc_cond rfl (fun hc1 => ?_) (fun hc1 => ?_)
    ·
      have hd1 := (not_t hc1)
      refine gc_seq ?_
      refine gc_region ?_
      refine ne (eo_as rfl rfl) rfl ?_
      refine ne (eo_as rfl rfl) rfl ?_
      refine go_nil ?_
      refine gq_next ?_
      refine gc_ret ?_
      refine gq_then_ret ?_
      refine gq_results (res2 rfl rfl rfl) ?_
      exact fun W1 hO => ⟨ret_ints (energyR_range hv (not_t hc1)).symm, hO.toExt⟩
    ·
      have hd1 := (not_f hc1)
      have hs9 := not_f hc1
      obtain ⟨d1, d2, d3, d4⟩ := slopeB_iff.1 hs9
      have hmx0 := shI_bd (W := W) (num := num) (den := den) (x := 0) d1 (by omega) (by omega) (by omega) d3 d4
      have hmx1 := shI_bd (W := W) (num := num) (den := den) (x := W - 1) d1 (by omega) (by omega) (by omega) d3 d4
      have hmx : 0 ≤ shMax W num den ∧ shMax W num den ≤ 33554432 := by unfold shMax; omega
      refine gc_skip ?_
      refine gq_next ?_
      refine gc_seq ?_
      refine gc_region ?_
      refine ne (eo_loadA 0 rfl a24 rfl rfl rfl rfl) rfl ?_
      refine ne (eo_mv rfl rfl) rfl ?_
      refine ne (eo_mv rfl rfl) rfl ?_
      refine ne (eo_call rfl en36 rfl (fun W1 hO => en_c _ _ _ _ _ _ _ _ W1 (hr.old0 hO) (by assumption) (by assumption) (by omega))) rfl ?_
      refine ne (eo_as rfl rfl) rfl ?_
      refine ne (eo_as rfl rfl) rfl ?_
      refine go_nil ?_
      refine gq_next ?_
      refine gc_ret ?_
      refine gq_results (res2 rfl rfl rfl) ?_
      exact fun W1 hO => ⟨ret_ints (energyR_ok hv hs9).symm, hO.toExt⟩

/-- barscan/barscanref45.Energy -/
theorem renergy_c (W H : Int) (A : Option Addr) (n c : Nat) (f : Nat → Bool) (num : Int) (den : Int) (w : World) (hr : Rd w A (tab n (bv f)))  :
    Calls Try.prog 18 #[.agg #[.int .i64 W, .int .i64 H, .slice A n c], .int .i64 num, .int .i64 den] w (fun e w' => e = .returned (.tuple #[.int .i64 (energyR ⟨W, H, n, f⟩ num den).1, .int .i64 (energyR ⟨W, H, n, f⟩ num den).2]) ∧ Ext w w') := by
  refine calls_enter (N := ⟨78, []⟩) [] ([]) Try.func18 rfl rfl rfl (Ow.start _) ?_
  refine gc_seq ?_
  refine gc_region ?_
  refine nx (xo_boxA rfl rfl) rfl ?_
  rintro _ _ ⟨g3, rfl, rfl⟩
  refine ne (eo_as rfl rfl) rfl ?_
  refine ne (eo_as rfl rfl) rfl ?_
  refine go_nil ?_
  refine gq_next ?_
  refine gc_seq ?_
  refine gc_seq ?_
  refine gc_region ?_
  refine ne (eo_loadA 0 rfl a24 rfl rfl rfl rfl) rfl ?_
  refine ne (eo_call rfl en25 rfl (fun W1 hO => rcheck_c _ _ _ _ _ W1  )) rfl ?_
  refine ne (eo_neq rfl rfl rfl) rfl ?_
  refine go_nil ?_
  refine gq_next ?_
  refine gc_cond rfl (fun hc0 => ?_) (fun hc0 => ?_)
  ·
    replace hc0 := of_decide_eq_true hc0
    have hv := chk_f hc0
    refine gc_seq ?_
    refine gc_region ?_
    refine ne (eo_as rfl rfl) rfl ?_
    refine ne (eo_as rfl rfl) rfl ?_
    refine go_nil ?_
    refine gq_next ?_
    refine gc_ret ?_
    refine gq_then_ret ?_
    refine gq_results (res2 rfl rfl rfl) ?_
    exact fun W1 hO => ⟨ret_ints (energyR_no hv).symm, hO.toExt⟩
  ·
    replace hc0 := of_decide_eq_false hc0
    have hv := chk_t hc0
    obtain ⟨v1, v2, v3, v4, v5, v6⟩ := vldB_iff.1 hv
    have v7 := vld_pos hv
    refine gc_skip ?_
    refine gq_next ?_
    refine gc_seq ?_
    refine gc_seq ?_
    refine gc_region ?_
    refine ne (eo_mv rfl rfl) rfl ?_
    refine ne (eo_mv rfl rfl) rfl ?_
    refine ne (eo_call rfl en34 rfl (fun W1 hO => rslope_c _ _ W1  )) rfl ?_
    refine ne (eo_not rfl rfl) rfl ?_
    refine go_nil ?_
    refine gq_next ?_
    refine gc_cond rfl (fun hc1 => ?_) (fun hc1 => ?_)
    ·
      have hd1 := (not_t hc1)
      refine gc_seq ?_
      refine gc_region ?_
      refine ne (eo_as rfl rfl) rfl ?_
      refine ne (eo_as rfl rfl) rfl ?_
      refine go_nil ?_
      refine gq_next ?_
      refine gc_ret ?_
      refine gq_then_ret ?_
      refine gq_results (res2 rfl rfl rfl) ?_
      exact fun W1 hO => ⟨ret_ints (energyR_range hv (not_t hc1)).symm, hO.toExt⟩
    ·
      have hd1 := (not_f hc1)
      have hs9 := not_f hc1
      obtain ⟨d1, d2, d3, d4⟩ := slopeB_iff.1 hs9
      have hmx0 := shI_bd (W := W) (num := num) (den := den) (x := 0) d1 (by omega) (by omega) (by omega) d3 d4
      have hmx1 := shI_bd (W := W) (num := num) (den := den) (x := W - 1) d1 (by omega) (by omega) (by omega) d3 d4
      have hmx : 0 ≤ shMax W num den ∧ shMax W num den ≤ 33554432 := by unfold shMax; omega
      refine gc_skip ?_
      refine gq_next ?_
      refine gc_seq ?_
      refine gc_region ?_
      refine ne (eo_as rfl rfl) rfl ?_
      refine go_nil ?_
      refine gq_next ?_
      refine gc_seq ?_
      refine gc_seq ?_
      refine gc_region ?_
      refine ne (eo_as rfl rfl) rfl ?_
      refine go_nil ?_
      refine gq_next ?_
      refine gc_block ?_
      refine loop4 (fun (i : Nat) (k : Nat) (f1 : Nat → Int) (s : AS) => i ≤ n ∧ k ≤ (H + shMax W num den).toNat ∧ s.Ok 1 k (tab k (iv .i64 f1)) ∧ (∀ y : Nat, f1 y = histN f (keyI W num den) i y) ∧ (∀ y : Nat, k ≤ y → f1 y = 0)) (fun (i : Nat) (k : Nat) (f1 : Nat → Int) (s : AS) => n - i) (fun (i : Nat) (k : Nat) (f1 : Nat → Int) (s : AS) => [(1, .int .i64 num), (2, .int .i64 den), (3, .pointer (some ⟨g3, 0, none⟩)), (8, s.val k), (9, .int .i64 (i : Int))]) (fun (i : Nat) (k : Nat) (f1 : Nat → Int) (s : AS) => ⟨g3, 24, [.int .i64 W, .int .i64 H, .slice A n c]⟩ :: s.blks 3 (tab k (iv .i64 f1))) 0 0 (fun _ => 0) .nil ⟨by omega, by omega, AS.Ok0, fun _ => rfl, fun _ _ => rfl⟩ ⟨rfl, rfl, rfl, rfl, rfl, trivial⟩ (List.Sublist.refl _) ?_
      rintro i k f1 s ⟨hi, hk, hs, hI, hz⟩
      refine gc_seq ?_
      refine gc_seq ?_
      refine gc_region ?_
      refine ne (eo_mv rfl rfl) rfl ?_
      refine ne (eo_field rfl f24_2 rfl) rfl ?_
      refine ne (eo_load 0 rfl s22 rfl rfl rfl rfl) rfl ?_
      refine ne (eo_len rfl Try.underlying22 rfl) rfl ?_
      refine ne (eo_lss rfl rfl rfl) rfl ?_
      refine go_nil ?_
      refine gq_next ?_
      refine gc_cond rfl (fun hc2 => ?_) (fun hc2 => ?_)
      ·
        replace hc2 := of_decide_eq_true hc2
        have hcb := cell_bd hv (show i < n by omega)
        have hsb := shI_bd (W := W) (num := num) (den := den) (x := (i : Int) % W) d1 (by omega) (by omega) (by omega) d3 d4
        have hle := shI_le (W := W) (num := num) (den := den) (x := (i : Int) % W) d1 (by omega) (by omega)
        have hke : keyI W num den i = ((i : Int) / W + shI W num den ((i : Int) % W)) := rfl
        have hfy := hI ((i : Int) / W + shI W num den ((i : Int) % W)).toNat
        have hhb := hist_bd (p := f) (key := (keyI W num den)) (n := i) (y := ((((i : Int) / W + shI W num den ((i : Int) % W)).toNat : Nat) : Int))
        refine gc_skip ?_
        refine gq_next ?_
        refine gc_seq ?_
        refine gc_block ?_
        refine gc_seq ?_
        refine gc_seq ?_
        refine gc_region ?_
        refine ne (eo_field rfl f24_2 rfl) rfl ?_
        refine ne (eo_load 0 rfl s22 rfl rfl rfl rfl) rfl ?_
        refine ne (eo_mv rfl rfl) rfl ?_
        refine ne (eo_indexR rfl sl22 rfl rfl hr (by simp) (by omega) (by omega)) rfl ?_
        refine ne (eo_load_old rfl s4 rfl (Rd.tabb hr (by omega)) (by simp)) rfl ?_
        refine ne (eo_not rfl rfl) rfl ?_
        refine go_nil ?_
        refine gq_next ?_
        refine gc_cond rfl (fun hc3 => ?_) (fun hc3 => ?_)
        ·
          have hd3 := (not_t hc3)
          refine gc_exit ?_
          refine gq_then_exit ?_
          refine gq_block_hit ?_
          refine gq_next ?_
          refine gc_region ?_
          refine ne (eo_mv rfl rfl) rfl ?_
          refine ne (eo_add rfl rfl rfl (by omega) (by omega)) rfl ?_
          refine ne (eo_as rfl rfl) rfl ?_
          refine go_nil ?_
          exact round4 (i + 1) k f1 s ⟨by omega, by omega, hs, hist_all0 (not_t hc3) hI, hz⟩ (by omega) ⟨rfl, rfl, rfl, rfl, rfl, trivial⟩ (List.Sublist.refl _)
        ·
          have hd3 := (not_f hc3)
          refine gc_skip ?_
          refine gq_next ?_
          refine gc_seq ?_
          refine gc_draw [] [0, 1, 2, 3, 4, 5, 6, 7, 8, 9, 10, 11, 12, 13, 14] [] [] (by kernel_rfl) (by kernel_rfl) ?_
          refine gp_nil ?_
          refine de rfl (eo_mv rfl rfl) rfl ?_
          refine de rfl (eo_field rfl f24_0 rfl) rfl ?_
          refine de rfl (eo_load 0 rfl s3 rfl rfl rfl rfl) rfl ?_
          refine de rfl (eo_quo rfl rfl rfl (by omega) (by omega) (by omega)) rfl ?_
          refine de rfl (eo_mv rfl rfl) rfl ?_
          refine de rfl (eo_field rfl f24_0 rfl) rfl ?_
          refine de rfl (eo_load 0 rfl s3 rfl rfl rfl rfl) rfl ?_
          refine de rfl (eo_rem rfl rfl rfl (by omega) (by omega)) rfl ?_
          refine de rfl (eo_field rfl f24_0 rfl) rfl ?_
          refine de rfl (eo_load 0 rfl s3 rfl rfl rfl rfl) rfl ?_
          refine de rfl (eo_mv rfl rfl) rfl ?_
          refine de rfl (eo_mv rfl rfl) rfl ?_
          refine de rfl (eo_call rfl en24 rfl (fun W1 hO => shift_c _ _ _ _ W1  (by omega) (by omega) (by omega) (by omega) (by omega) (by omega) (by omega))) rfl ?_
          refine de rfl (eo_add rfl rfl rfl (by omega) (by omega)) rfl ?_
          refine de rfl (eo_as rfl rfl) rfl ?_
          refine ge_nil ?_
          refine ga_nil ?_
          refine gi_nil ?_
          refine gq_nq ?_
          refine gq_next ?_
          refine gc_seq ?_
          refine gc_block ?_
          refine loop2 (fun (k1 : Nat) (s1 : AS) => k ≤ k1 ∧ k1 ≤ (H + shMax W num den).toNat ∧ s1.Ok 1 k1 (tab k1 (iv .i64 f1))) (fun (k1 : Nat) (s1 : AS) => (((i : Int) / W + shI W num den ((i : Int) % W)) + 1 - k1).toNat) (fun (k1 : Nat) (s1 : AS) => [(1, .int .i64 num), (2, .int .i64 den), (3, .pointer (some ⟨g3, 0, none⟩)), (8, s1.val k1), (9, .int .i64 (i : Int)), (10, .int .i64 (((i : Int) / W) + (shI W num den ((i : Int) % W))))]) (fun (k1 : Nat) (s1 : AS) => ⟨g3, 24, [.int .i64 W, .int .i64 H, .slice A n c]⟩ :: s1.blks 3 (tab k1 (iv .i64 f1))) k s ⟨by omega, by omega, hs⟩ ⟨rfl, rfl, rfl, rfl, rfl, rfl, trivial⟩ (List.Sublist.refl _) ?_
          rintro k1 s1 ⟨hk1, hk2, hs1⟩
          refine gc_seq ?_
          refine gc_seq ?_
          refine gc_region ?_
          refine ne (eo_mv rfl rfl) rfl ?_
          refine ne (eo_lenAS rfl Try.underlying44 rfl hs1) rfl ?_
          refine ne (eo_mv rfl rfl) rfl ?_
          refine ne (eo_leq rfl rfl rfl) rfl ?_
          refine go_nil ?_
          refine gq_next ?_
          refine gc_cond rfl (fun hc4 => ?_) (fun hc4 => ?_)
          ·
            replace hc4 := of_decide_eq_true hc4
            refine gc_skip ?_
            refine gq_next ?_
            refine gc_block ?_
            refine gc_region ?_
            refine ne (eo_mv rfl rfl) rfl ?_
            refine nx (xo_lit1 rfl Try.underlying44 e3 rfl (by first | rfl | exact AS.one)) rfl ?_
            rintro _ _ ⟨g52, rfl, rfl⟩
            refine nx (xo_app1i 2 rfl rfl Try.underlying44 e3 rfl hs1 rfl rfl (hz k1 (by omega)).symm (by omega) (by decide)) rfl ?_
            rintro _ _ ⟨s53, hs53, rfl, rfl⟩
            refine ne (eo_as rfl rfl) rfl ?_
            refine go_nil ?_
            refine gq_block_end ?_
            exact round2 (k1 + 1) s53 ⟨by omega, by omega, hs53⟩ (by omega) ⟨rfl, rfl, rfl, rfl, rfl, rfl, trivial⟩ (List.Sublist.cons _ (List.Sublist.refl _))
          ·
            replace hc4 := of_decide_eq_false hc4
            obtain ⟨gq, spq, cq, rfl, hcq⟩ := as_at hs1 (by omega)
            refine gc_exit ?_
            refine gq_then_exit ?_
            refine gq_then_exit ?_
            refine gq_block_hit ?_
            refine gq_next ?_
            refine gc_region ?_
            refine ne (eo_mv rfl rfl) rfl ?_
            refine ne (eo_mv rfl rfl) rfl ?_
            refine ne (eo_index0 rfl sl44 rfl rfl (by omega) (by omega)) rfl ?_
            refine ne (eo_geti 1 rfl s3 rfl rfl (by omega)) rfl ?_
            refine ne (eo_add rfl rfl rfl (by omega) (by omega)) rfl ?_
            refine ne (eo_index0 rfl sl44 rfl rfl (by omega) (by omega)) rfl ?_
            refine nu (xo_seti 1 rfl s3 rfl rfl rfl (by omega)) ?_
            rintro _ _ ⟨rfl, rfl⟩
            refine go_nil ?_
            refine gq_block_end ?_
            refine gq_next ?_
            refine gc_region ?_
            refine ne (eo_mv rfl rfl) rfl ?_
            refine ne (eo_add rfl rfl rfl (by omega) (by omega)) rfl ?_
            refine ne (eo_as rfl rfl) rfl ?_
            refine go_nil ?_
            exact round4 (i + 1) k1 (upd f1 (((((i : Int) / W) + (shI W num den ((i : Int) % W)))).toNat) ((f1 (((((i : Int) / W) + (shI W num den ((i : Int) % W)))).toNat)) + 1)) (.at_ gq spq cq) ⟨by omega, by omega, as_upd hs1, hist_all (not_f hc3) (by rw [hke]; exact Int.toNat_of_nonneg (by omega)) hI, upd_zero (by omega) (fun y hy => hz y (by omega))⟩ (by omega) ⟨rfl, rfl, rfl, rfl, rfl, trivial⟩ (List.Sublist.refl _)
      ·
        replace hc2 := of_decide_eq_false hc2
        rw [AS.val_eq hs]
        refine gc_exit ?_
        refine gq_then_exit ?_
        refine gq_then_exit ?_
        refine gq_block_hit ?_
        refine gq_next ?_
        refine gc_seq ?_
        refine gc_region ?_
        refine ne (eo_as rfl rfl) rfl ?_
        refine go_nil ?_
        refine gq_next ?_
        refine gc_seq ?_
        refine gc_seq ?_
        refine gc_region ?_
        refine ne (eo_as rfl rfl) rfl ?_
        refine go_nil ?_
        refine gq_next ?_
        refine gc_block ?_
        refine loop2 (fun (r : Nat) (sm : Int) => r ≤ k ∧ sm = sumN (fun v => histN f (keyI W num den) n v * histN f (keyI W num den) n v) r) (fun (r : Nat) (sm : Int) => k - r) (fun (r : Nat) (sm : Int) => [(8, .slice s.adr k s.cap), (11, .int .i64 sm), (12, .int .i64 (r : Int))]) (fun (r : Nat) (sm : Int) => ⟨g3, 24, [.int .i64 W, .int .i64 H, .slice A n c]⟩ :: s.blks 3 (tab k (iv .i64 f1))) 0 0 ⟨by omega, rfl⟩ ⟨rfl, rfl, rfl, trivial⟩ (List.Sublist.refl _) ?_
        rintro r sm ⟨hr1, hsum⟩
        refine gc_seq ?_
        refine gc_seq ?_
        refine gc_region ?_
        refine ne (eo_mv rfl rfl) rfl ?_
        refine ne (eo_mv rfl rfl) rfl ?_
        refine ne (eo_len rfl Try.underlying44 rfl) rfl ?_
        refine ne (eo_lss rfl rfl rfl) rfl ?_
        refine go_nil ?_
        refine gq_next ?_
        refine gc_cond rfl (fun hc5 => ?_) (fun hc5 => ?_)
        ·
          replace hc5 := of_decide_eq_true hc5
          have hb1 := en_bd (p := f) (key := (keyI W num den)) (n := n) (N := r) (by omega)
          have hb2 := en_bd (p := f) (key := (keyI W num den)) (n := n) (N := r + 1) (by omega)
          have hb3 : sumN (fun v => histN f (keyI W num den) n v * histN f (keyI W num den) n v) (r + 1) = sumN (fun v => histN f (keyI W num den) n v * histN f (keyI W num den) n v) r + histN f (keyI W num den) n r * histN f (keyI W num den) n r := rfl
          have hb4 := hist_bd (p := f) (key := (keyI W num den)) (n := n) (y := ((r : Nat) : Int))
          have hfk := hI r
          rw [show i = n by omega] at hfk
          have hfk2 : f1 (r : Int).toNat = histN f (keyI W num den) n r := hfk
          have hb5 : f1 r * f1 r = histN f (keyI W num den) n r * histN f (keyI W num den) n r := by rw [hfk]
          have hb6 : f1 (r : Int).toNat * f1 (r : Int).toNat = histN f (keyI W num den) n r * histN f (keyI W num den) n r := hb5
          refine gc_skip ?_
          refine gq_next ?_
          refine gc_seq ?_
          refine gc_block ?_
          refine gc_draw [] [0, 1, 2, 3, 4, 5, 6, 7, 8, 9, 10, 11] [] [] (by kernel_rfl) (by kernel_rfl) ?_
          refine gp_nil ?_
          refine de rfl (eo_mv rfl rfl) rfl ?_
          refine de rfl (eo_mv rfl rfl) rfl ?_
          refine de rfl (eo_mv rfl rfl) rfl ?_
          refine de rfl (eo_indexS rfl sl44 rfl rfl (fun W1 hO => ((rds_as hs).rd (hO.tl 1 rfl (List.Sublist.refl _)))) (by simp) (by omega) (by omega)) rfl ?_
          refine de rfl (eo_loadS rfl s3 rfl (fun W1 hO => Rd.tabi ((rds_as hs).rd (hO.tl 1 rfl (List.Sublist.refl _))) (by omega))) rfl ?_
          refine de rfl (eo_mv rfl rfl) rfl ?_
          refine de rfl (eo_mv rfl rfl) rfl ?_
          refine de rfl (eo_indexS rfl sl44 rfl rfl (fun W1 hO => ((rds_as hs).rd (hO.tl 1 rfl (List.Sublist.refl _)))) (by simp) (by omega) (by omega)) rfl ?_
          refine de rfl (eo_loadS rfl s3 rfl (fun W1 hO => Rd.tabi ((rds_as hs).rd (hO.tl 1 rfl (List.Sublist.refl _))) (by omega))) rfl ?_
          refine de rfl (eo_mul rfl rfl rfl (by omega) (by omega)) rfl ?_
          refine de rfl (eo_add rfl rfl rfl (by omega) (by omega)) rfl ?_
          refine de rfl (eo_as rfl rfl) rfl ?_
          refine ge_nil ?_
          refine ga_nil ?_
          refine gi_nil ?_
          refine gq_nq ?_
          refine gq_block_end ?_
          refine gq_next ?_
          refine gc_region ?_
          refine ne (eo_mv rfl rfl) rfl ?_
          refine ne (eo_add rfl rfl rfl (by omega) (by omega)) rfl ?_
          refine ne (eo_as rfl rfl) rfl ?_
          refine go_nil ?_
          exact round2 (r + 1) (sm + ((f1 (r)) * (f1 (r)))) ⟨by omega, by rw [hb3, ← hsum, hb5]⟩ (by omega) ⟨rfl, rfl, rfl, trivial⟩ (List.Sublist.refl _)
        ·
          replace hc5 := of_decide_eq_false hc5
          refine gc_exit ?_
          refine gq_then_exit ?_
          refine gq_then_exit ?_
          refine gq_block_hit ?_
          refine gq_next ?_
          refine gc_seq ?_
          refine gc_region ?_
          refine ne (eo_mv rfl rfl) rfl ?_
          refine ne (eo_as rfl rfl) rfl ?_
          refine ne (eo_as rfl rfl) rfl ?_
          refine go_nil ?_
          refine gq_next ?_
          refine gc_ret ?_
          refine gq_results (res2 rfl rfl rfl) ?_
          have hfin : sm = enI ⟨W, H, n, f⟩ num den := by
            rw [hsum, show r = k by omega]
            exact (sum_more (by omega) (fun y h1 h2 => by have e := hz y h1; rw [hI y, show i = n by omega] at e; rw [e]; rfl)).symm
          exact fun W1 hO => ⟨ret_ints (by rw [energyR_ok hv hs9, hfin]), hO.toExt⟩

end Go.Proofs.Ytmgkpdpmjhgekaa
