/-
  The walks of the functions of package skew and of the document's answer (part B): what each call returns, at every argument.
-/
import Derived.Test.YtmgkpdpmjhgekaaWA
namespace Go.Proofs.Ytmgkpdpmjhgekaa
open Go.RowKit Go.Eng

open Go.Bs
theorem sl44 : TySl Try.prog 44 3 1 := ⟨Try.underlying44, by kernel_rfl⟩
theorem e3 : TyE Try.prog 3 (.int .i64 0) 8 := ⟨rfl, by kernel_rfl⟩
theorem en43 : Ent Try.prog 43 := ent_of Try.func43 (by kernel_rfl) rfl
theorem en44 : Ent Try.prog 44 := ent_of Try.func44 (by kernel_rfl) rfl
theorem en39 : Ent Try.prog 39 := ent_of Try.func39 (by kernel_rfl) rfl
theorem en30 : Ent Try.prog 30 := ent_of Try.func30 (by kernel_rfl) rfl
theorem en25 : Ent Try.prog 25 := ent_of Try.func25 (by kernel_rfl) rfl

/-- barscan/skew.floor -/
theorem floor_c (a : Int) (b : Int) (w : World)  (hb : 1 ≤ b) (h1 : -1152921504606846976 ≤ a) (h2 : a ≤ 1152921504606846976) :
    Calls Try.prog 43 #[.int .i64 a, .int .i64 b] w (fun e w' => e = .returned (.int .i64 (a / b)) ∧ Ext w w') := by
  have hq0 := tdiv_bd (A := 1152921504606846976) hb h1 h2
  have hq : -9223372036854775808 ≤ a.tdiv b ∧ a.tdiv b ≤ 9223372036854775807 := by omega
  refine calls_enter (N := ⟨16, []⟩) [] ([]) Try.func43 rfl rfl rfl (Ow.start _) ?_
  refine gc_seq ?_
  refine gc_region ?_
  refine ne (eo_as rfl rfl) rfl ?_
  refine go_nil ?_
  refine gq_next ?_
  refine gc_seq ?_
  refine gc_region ?_
  refine ne (eo_mv rfl rfl) rfl ?_
  refine ne (eo_mv rfl rfl) rfl ?_
  refine ne (eo_tquo rfl rfl rfl hb hq.1 hq.2) rfl ?_
  refine ne (eo_as rfl rfl) rfl ?_
  refine go_nil ?_
  refine gq_next ?_
  refine gc_seq ?_
  refine gc_seq ?_
  refine gc_region ?_
  refine ne (eo_mv rfl rfl) rfl ?_
  refine ne (eo_mv rfl rfl) rfl ?_
  refine ne (eo_trem rfl rfl rfl hb) rfl ?_
  refine ne (eo_lss rfl rfl rfl) rfl ?_
  refine go_nil ?_
  refine gq_next ?_
  refine gc_cond rfl (fun hc0 => ?_) (fun hc0 => ?_)
  ·
    replace hc0 := of_decide_eq_true hc0
    refine gc_region ?_
    refine ne (eo_mv rfl rfl) rfl ?_
    refine ne (eo_sub rfl rfl rfl (by omega) (by omega)) rfl ?_
    refine ne (eo_as rfl rfl) rfl ?_
    refine go_nil ?_
    refine gq_next ?_
    refine gc_seq ?_
    refine gc_region ?_
    refine ne (eo_mv rfl rfl) rfl ?_
    refine ne (eo_as rfl rfl) rfl ?_
    refine go_nil ?_
    refine gq_next ?_
    refine gc_ret ?_
    refine gq_results (res1 rfl rfl) ?_
    exact fun W1 hO => ⟨ret_int (floor_neg hb hc0), hO.toExt⟩
  ·
    replace hc0 := of_decide_eq_false hc0
    refine gc_skip ?_
    refine gq_next ?_
    refine gc_seq ?_
    refine gc_region ?_
    refine ne (eo_mv rfl rfl) rfl ?_
    refine ne (eo_as rfl rfl) rfl ?_
    refine go_nil ?_
    refine gq_next ?_
    refine gc_ret ?_
    refine gq_results (res1 rfl rfl) ?_
    exact fun W1 hO => ⟨ret_int (floor_pos hb hc0), hO.toExt⟩

/-- barscan/barscanref45.floor -/
theorem rfloor_c (a : Int) (b : Int) (w : World)  (hb : 1 ≤ b) (h1 : -1152921504606846976 ≤ a) (h2 : a ≤ 1152921504606846976) :
    Calls Try.prog 39 #[.int .i64 a, .int .i64 b] w (fun e w' => e = .returned (.int .i64 (a / b)) ∧ Ext w w') := by
  have hq0 := tdiv_bd (A := 1152921504606846976) hb h1 h2
  have hq : -9223372036854775808 ≤ a.tdiv b ∧ a.tdiv b ≤ 9223372036854775807 := by omega
  refine calls_enter (N := ⟨16, []⟩) [] ([]) Try.func39 rfl rfl rfl (Ow.start _) ?_
  refine gc_seq ?_
  refine gc_region ?_
  refine ne (eo_as rfl rfl) rfl ?_
  refine go_nil ?_
  refine gq_next ?_
  refine gc_seq ?_
  refine gc_region ?_
  refine ne (eo_mv rfl rfl) rfl ?_
  refine ne (eo_mv rfl rfl) rfl ?_
  refine ne (eo_tquo rfl rfl rfl hb hq.1 hq.2) rfl ?_
  refine ne (eo_as rfl rfl) rfl ?_
  refine go_nil ?_
  refine gq_next ?_
  refine gc_seq ?_
  refine gc_seq ?_
  refine gc_region ?_
  refine ne (eo_mv rfl rfl) rfl ?_
  refine ne (eo_mv rfl rfl) rfl ?_
  refine ne (eo_trem rfl rfl rfl hb) rfl ?_
  refine ne (eo_lss rfl rfl rfl) rfl ?_
  refine go_nil ?_
  refine gq_next ?_
  refine gc_cond rfl (fun hc0 => ?_) (fun hc0 => ?_)
  ·
    replace hc0 := of_decide_eq_true hc0
    refine gc_region ?_
    refine ne (eo_mv rfl rfl) rfl ?_
    refine ne (eo_sub rfl rfl rfl (by omega) (by omega)) rfl ?_
    refine ne (eo_as rfl rfl) rfl ?_
    refine go_nil ?_
    refine gq_next ?_
    refine gc_seq ?_
    refine gc_region ?_
    refine ne (eo_mv rfl rfl) rfl ?_
    refine ne (eo_as rfl rfl) rfl ?_
    refine go_nil ?_
    refine gq_next ?_
    refine gc_ret ?_
    refine gq_results (res1 rfl rfl) ?_
    exact fun W1 hO => ⟨ret_int (floor_neg hb hc0), hO.toExt⟩
  ·
    replace hc0 := of_decide_eq_false hc0
    refine gc_skip ?_
    refine gq_next ?_
    refine gc_seq ?_
    refine gc_region ?_
    refine ne (eo_mv rfl rfl) rfl ?_
    refine ne (eo_as rfl rfl) rfl ?_
    refine go_nil ?_
    refine gq_next ?_
    refine gc_ret ?_
    refine gq_results (res1 rfl rfl) ?_
    exact fun W1 hO => ⟨ret_int (floor_pos hb hc0), hO.toExt⟩

/-- barscan/skew.possible -/
theorem slope_c (num : Int) (den : Int) (w : World)   :
    Calls Try.prog 31 #[.int .i64 num, .int .i64 den] w (fun e w' => e = .returned (.bool (slopeB num den)) ∧ Ext w w') := by
  refine calls_enter (N := ⟨19, []⟩) [] ([]) Try.func31 rfl rfl rfl (Ow.start _) ?_
  refine gc_seq ?_
  refine gc_region ?_
  refine ne (eo_as rfl rfl) rfl ?_
  refine go_nil ?_
  refine gq_next ?_
  refine gc_seq ?_
  refine gc_region ?_
  refine ne (eo_mv rfl rfl) rfl ?_
  refine ne (eo_geq rfl rfl rfl) rfl ?_
  refine ne (eo_mv rfl rfl) rfl ?_
  refine ng rfl rfl (fun h => eo_mv rfl rfl) rfl ?_
  refine ng rfl rfl (fun h => eo_leq rfl (ev_if h rfl) rfl) rfl ?_
  refine ne (eo_and rfl rfl (fun hb => ev_if hb rfl)) rfl ?_
  refine ne (eo_mv rfl rfl) rfl ?_
  refine ng rfl rfl (fun h => eo_mv rfl rfl) rfl ?_
  refine ng rfl rfl (fun h => eo_geq rfl (ev_if h rfl) rfl) rfl ?_
  refine ne (eo_and rfl rfl (fun hb => ev_if hb rfl)) rfl ?_
  refine ne (eo_mv rfl rfl) rfl ?_
  refine ng rfl rfl (fun h => eo_mv rfl rfl) rfl ?_
  refine ng rfl rfl (fun h => eo_leq rfl (ev_if h rfl) rfl) rfl ?_
  refine ne (eo_and rfl rfl (fun hb => ev_if hb rfl)) rfl ?_
  refine ne (eo_as rfl rfl) rfl ?_
  refine go_nil ?_
  refine gq_next ?_
  refine gc_ret ?_
  refine gq_results (res1 rfl rfl) ?_
  exact fun W1 hO => ⟨ret_bool (by simp [slopeB, Bool.and_assoc]), hO.toExt⟩

/-- barscan/barscanref45.possible -/
theorem rslope_c (num : Int) (den : Int) (w : World)   :
    Calls Try.prog 34 #[.int .i64 num, .int .i64 den] w (fun e w' => e = .returned (.bool (slopeB num den)) ∧ Ext w w') := by
  refine calls_enter (N := ⟨19, []⟩) [] ([]) Try.func34 rfl rfl rfl (Ow.start _) ?_
  refine gc_seq ?_
  refine gc_region ?_
  refine ne (eo_as rfl rfl) rfl ?_
  refine go_nil ?_
  refine gq_next ?_
  refine gc_seq ?_
  refine gc_region ?_
  refine ne (eo_mv rfl rfl) rfl ?_
  refine ne (eo_geq rfl rfl rfl) rfl ?_
  refine ne (eo_mv rfl rfl) rfl ?_
  refine ng rfl rfl (fun h => eo_mv rfl rfl) rfl ?_
  refine ng rfl rfl (fun h => eo_leq rfl (ev_if h rfl) rfl) rfl ?_
  refine ne (eo_and rfl rfl (fun hb => ev_if hb rfl)) rfl ?_
  refine ne (eo_mv rfl rfl) rfl ?_
  refine ng rfl rfl (fun h => eo_mv rfl rfl) rfl ?_
  refine ng rfl rfl (fun h => eo_geq rfl (ev_if h rfl) rfl) rfl ?_
  refine ne (eo_and rfl rfl (fun hb => ev_if hb rfl)) rfl ?_
  refine ne (eo_mv rfl rfl) rfl ?_
  refine ng rfl rfl (fun h => eo_mv rfl rfl) rfl ?_
  refine ng rfl rfl (fun h => eo_leq rfl (ev_if h rfl) rfl) rfl ?_
  refine ne (eo_and rfl rfl (fun hb => ev_if hb rfl)) rfl ?_
  refine ne (eo_as rfl rfl) rfl ?_
  refine go_nil ?_
  refine gq_next ?_
  refine gc_ret ?_
  refine gq_results (res1 rfl rfl) ?_
  exact fun W1 hO => ⟨ret_bool (by simp [slopeB, Bool.and_assoc]), hO.toExt⟩

/-- slices.Min[[]int,int] -/
theorem smin_c (A : Option Addr) (n c : Nat) (f : Nat → Int) (w : World) (hr : Rd w A (tab n (iv .i64 f))) (hn : 1 ≤ n) (hn1 : n ≤ 1073741824) :
    Calls Try.prog 44 #[.slice A n c] w (fun e w' => e = .returned (.int .i64 (minF f (n - 1))) ∧ Ext w w') := by
  refine calls_enter (N := ⟨25, []⟩) [] ([]) Try.func44 rfl rfl rfl (Ow.start _) ?_
  refine gc_seq ?_
  refine gc_region ?_
  refine ne (eo_as rfl rfl) rfl ?_
  refine go_nil ?_
  refine gq_next ?_
  refine gc_seq ?_
  refine gc_seq ?_
  refine gc_region ?_
  refine ne (eo_mv rfl rfl) rfl ?_
  refine ne (eo_len rfl Try.underlying44 rfl) rfl ?_
  refine ne (eo_lss rfl rfl rfl) rfl ?_
  refine go_nil ?_
  refine gq_next ?_
  refine gc_cond rfl (fun hc0 => ?_) (fun hc0 => ?_)
  ·
    replace hc0 := of_decide_eq_true hc0
    exfalso; omega
  ·
    replace hc0 := of_decide_eq_false hc0
    refine gc_skip ?_
    refine gq_next ?_
    refine gc_seq ?_
    refine gc_region ?_
    refine ne (eo_mv rfl rfl) rfl ?_
    refine ne (eo_indexR rfl sl44 rfl rfl hr (by simp) (by omega) (by omega)) rfl ?_
    refine ne (eo_load_old rfl s3 rfl (Rd.tabi hr (by omega)) (by simp)) rfl ?_
    refine ne (eo_as rfl rfl) rfl ?_
    refine go_nil ?_
    refine gq_next ?_
    refine gc_seq ?_
    refine gc_seq ?_
    refine gc_region ?_
    refine ne (eo_as rfl rfl) rfl ?_
    refine go_nil ?_
    refine gq_next ?_
    refine gc_block ?_
    refine loop2 (fun (i : Nat) (m : Int) => 1 ≤ i ∧ i ≤ n ∧ m = minF f (i - 1)) (fun (i : Nat) (m : Int) => n - i) (fun (i : Nat) (m : Int) => [(0, .slice A n c), (3, .int .i64 m), (4, .int .i64 (i : Int))]) (fun (i : Nat) (m : Int) => []) 1 (f (0)) ⟨by omega, by omega, rfl⟩ ⟨rfl, rfl, rfl, trivial⟩ (List.Sublist.refl _) ?_
    rintro i m ⟨hi, hi1, hm⟩
    refine gc_seq ?_
    refine gc_seq ?_
    refine gc_region ?_
    refine ne (eo_mv rfl rfl) rfl ?_
    refine ne (eo_mv rfl rfl) rfl ?_
    refine ne (eo_len rfl Try.underlying44 rfl) rfl ?_
    refine ne (eo_lss rfl rfl rfl) rfl ?_
    refine go_nil ?_
    refine gq_next ?_
    refine gc_cond rfl (fun hc1 => ?_) (fun hc1 => ?_)
    ·
      replace hc1 := of_decide_eq_true hc1
      refine gc_skip ?_
      refine gq_next ?_
      refine gc_seq ?_
      refine gc_block ?_
      refine gc_region ?_
      refine ne (eo_mv rfl rfl) rfl ?_
      refine ne (eo_mv rfl rfl) rfl ?_
      refine ne (eo_mv rfl rfl) rfl ?_
      refine ne (eo_indexR rfl sl44 rfl rfl hr (by simp) (by omega) (by omega)) rfl ?_
      refine ne (eo_load_old rfl s3 rfl (Rd.tabi hr (by omega)) (by simp)) rfl ?_
      refine ne (eo_min rfl rfl rfl) rfl ?_
      refine ne (eo_as rfl rfl) rfl ?_
      refine go_nil ?_
      refine gq_block_end ?_
      refine gq_next ?_
      refine gc_region ?_
      refine ne (eo_mv rfl rfl) rfl ?_
      refine ne (eo_add rfl rfl rfl (by omega) (by omega)) rfl ?_
      refine ne (eo_as rfl rfl) rfl ?_
      refine go_nil ?_
      exact round2 (i + 1) (min m (f (i))) ⟨by omega, by omega, by rw [hm]; exact minF_up hi⟩ (by omega) ⟨rfl, rfl, rfl, trivial⟩ (List.Sublist.refl _)
    ·
      replace hc1 := of_decide_eq_false hc1
      refine gc_exit ?_
      refine gq_then_exit ?_
      refine gq_then_exit ?_
      refine gq_block_hit ?_
      refine gq_next ?_
      refine gc_seq ?_
      refine gc_region ?_
      refine ne (eo_mv rfl rfl) rfl ?_
      refine ne (eo_as rfl rfl) rfl ?_
      refine go_nil ?_
      refine gq_next ?_
      refine gc_ret ?_
      refine gq_results (res1 rfl rfl) ?_
      exact fun W1 hO => ⟨ret_int (by rw [hm, show i = n by omega]), hO.toExt⟩

/-- slices.Max[[]int,int] -/
theorem smax_c (A : Option Addr) (n c : Nat) (f : Nat → Int) (w : World) (hr : Rd w A (tab n (iv .i64 f))) (hn : 1 ≤ n) (hn1 : n ≤ 1073741824) :
    Calls Try.prog 33 #[.slice A n c] w (fun e w' => e = .returned (.int .i64 (maxF f (n - 1))) ∧ Ext w w') := by
  refine calls_enter (N := ⟨25, []⟩) [] ([]) Try.func33 rfl rfl rfl (Ow.start _) ?_
  refine gc_seq ?_
  refine gc_region ?_
  refine ne (eo_as rfl rfl) rfl ?_
  refine go_nil ?_
  refine gq_next ?_
  refine gc_seq ?_
  refine gc_seq ?_
  refine gc_region ?_
  refine ne (eo_mv rfl rfl) rfl ?_
  refine ne (eo_len rfl Try.underlying44 rfl) rfl ?_
  refine ne (eo_lss rfl rfl rfl) rfl ?_
  refine go_nil ?_
  refine gq_next ?_
  refine gc_cond rfl (fun hc0 => ?_) (fun hc0 => ?_)
  ·
    replace hc0 := of_decide_eq_true hc0
    exfalso; omega
  ·
    replace hc0 := of_decide_eq_false hc0
    refine gc_skip ?_
    refine gq_next ?_
    refine gc_seq ?_
    refine gc_region ?_
    refine ne (eo_mv rfl rfl) rfl ?_
    refine ne (eo_indexR rfl sl44 rfl rfl hr (by simp) (by omega) (by omega)) rfl ?_
    refine ne (eo_load_old rfl s3 rfl (Rd.tabi hr (by omega)) (by simp)) rfl ?_
    refine ne (eo_as rfl rfl) rfl ?_
    refine go_nil ?_
    refine gq_next ?_
    refine gc_seq ?_
    refine gc_seq ?_
    refine gc_region ?_
    refine ne (eo_as rfl rfl) rfl ?_
    refine go_nil ?_
    refine gq_next ?_
    refine gc_block ?_
    refine loop2 (fun (i : Nat) (m : Int) => 1 ≤ i ∧ i ≤ n ∧ m = maxF f (i - 1)) (fun (i : Nat) (m : Int) => n - i) (fun (i : Nat) (m : Int) => [(0, .slice A n c), (3, .int .i64 m), (4, .int .i64 (i : Int))]) (fun (i : Nat) (m : Int) => []) 1 (f (0)) ⟨by omega, by omega, rfl⟩ ⟨rfl, rfl, rfl, trivial⟩ (List.Sublist.refl _) ?_
    rintro i m ⟨hi, hi1, hm⟩
    refine gc_seq ?_
    refine gc_seq ?_
    refine gc_region ?_
    refine ne (eo_mv rfl rfl) rfl ?_
    refine ne (eo_mv rfl rfl) rfl ?_
    refine ne (eo_len rfl Try.underlying44 rfl) rfl ?_
    refine ne (eo_lss rfl rfl rfl) rfl ?_
    refine go_nil ?_
    refine gq_next ?_
    refine gc_cond rfl (fun hc1 => ?_) (fun hc1 => ?_)
    ·
      replace hc1 := of_decide_eq_true hc1
      refine gc_skip ?_
      refine gq_next ?_
      refine gc_seq ?_
      refine gc_block ?_
      refine gc_region ?_
      refine ne (eo_mv rfl rfl) rfl ?_
      refine ne (eo_mv rfl rfl) rfl ?_
      refine ne (eo_mv rfl rfl) rfl ?_
      refine ne (eo_indexR rfl sl44 rfl rfl hr (by simp) (by omega) (by omega)) rfl ?_
      refine ne (eo_load_old rfl s3 rfl (Rd.tabi hr (by omega)) (by simp)) rfl ?_
      refine ne (eo_max rfl rfl rfl) rfl ?_
      refine ne (eo_as rfl rfl) rfl ?_
      refine go_nil ?_
      refine gq_block_end ?_
      refine gq_next ?_
      refine gc_region ?_
      refine ne (eo_mv rfl rfl) rfl ?_
      refine ne (eo_add rfl rfl rfl (by omega) (by omega)) rfl ?_
      refine ne (eo_as rfl rfl) rfl ?_
      refine go_nil ?_
      exact round2 (i + 1) (max m (f (i))) ⟨by omega, by omega, by rw [hm]; exact maxF_up hi⟩ (by omega) ⟨rfl, rfl, rfl, trivial⟩ (List.Sublist.refl _)
    ·
      replace hc1 := of_decide_eq_false hc1
      refine gc_exit ?_
      refine gq_then_exit ?_
      refine gq_then_exit ?_
      refine gq_block_hit ?_
      refine gq_next ?_
      refine gc_seq ?_
      refine gc_region ?_
      refine ne (eo_mv rfl rfl) rfl ?_
      refine ne (eo_as rfl rfl) rfl ?_
      refine go_nil ?_
      refine gq_next ?_
      refine gc_ret ?_
      refine gq_results (res1 rfl rfl) ?_
      exact fun W1 hO => ⟨ret_int (by rw [hm, show i = n by omega]), hO.toExt⟩

/-- barscan/skew.shifts -/
theorem shifts_c (W : Int) (num : Int) (den : Int) (w : World)  (w1 : 1 ≤ W) (w2 : W ≤ 4096) (hs : slopeB num den = true) :
    Calls Try.prog 32 #[.int .i64 W, .int .i64 num, .int .i64 den] w (fun e w' => ∃ v Hn, e = .returned v ∧ RS 3 W.toNat (iv .i64 (fun x => shI W num den x)) v Hn ∧ Ow [] w w' Hn) := by
  obtain ⟨d1, d2, d3, d4⟩ := slopeB_iff.1 hs
  have hmb := sl_bd (x := W - 1) (num := num) (den := den) d1 (by omega) (by omega) d3 d4
  refine calls_enter (N := ⟨42, []⟩) [] ([]) Try.func32 rfl rfl rfl (Ow.start _) ?_
  refine gc_seq ?_
  refine gc_region ?_
  refine ne (eo_as rfl rfl) rfl ?_
  refine go_nil ?_
  refine gq_next ?_
  refine gc_seq ?_
  refine gc_region ?_
  refine ne (eo_mv rfl rfl) rfl ?_
  refine nx (xo_makei rfl Try.underlying44 e3 rfl rfl (by omega) (by omega) (by omega)) rfl ?_
  rintro _ _ ⟨g12, rfl, rfl⟩
  refine ne (eo_as rfl rfl) rfl ?_
  refine go_nil ?_
  refine gq_next ?_
  refine gc_seq ?_
  refine gc_seq ?_
  refine gc_region ?_
  refine ne (eo_mv rfl rfl) rfl ?_
  refine ne (eo_mv rfl rfl) rfl ?_
  refine go_nil ?_
  refine gq_next ?_
  refine gc_block ?_
  refine loop2 (fun (x : Nat) (f1 : Nat → Int) => (x : Int) ≤ W ∧ ∀ j, j < W.toNat → f1 j = if (j : Int) < x then slF num den j else 0) (fun (x : Nat) (f1 : Nat → Int) => (W - x).toNat) (fun (x : Nat) (f1 : Nat → Int) => [(1, .int .i64 num), (2, .int .i64 den), (7, .slice (some ⟨g12, 0, none⟩) ((W).toNat) ((W).toNat)), (13, .int .i64 W), (14, .int .i64 (x : Int))]) (fun (x : Nat) (f1 : Nat → Int) => [⟨g12, 3, tab ((W).toNat) (iv .i64 f1) ++ []⟩]) 0 (fun _ => 0) ⟨by omega, fill_new (by simp)⟩ ⟨rfl, rfl, rfl, rfl, rfl, trivial⟩ (List.Sublist.refl _) ?_
  rintro x f1 ⟨hx, hI⟩
  refine gc_seq ?_
  refine gc_region ?_
  refine ne (eo_lss rfl rfl rfl) rfl ?_
  refine go_nil ?_
  refine gq_next ?_
  refine gc_seq ?_
  refine gc_cond rfl (fun hc0 => ?_) (fun hc0 => ?_)
  ·
    replace hc0 := of_decide_eq_true hc0
    have hpb := prod_bd (x := (x : Int)) (num := num) (by omega) (by omega) d3 d4
    refine gc_skip ?_
    refine gq_next ?_
    refine gc_seq ?_
    refine gc_block ?_
    refine gc_seq ?_
    refine gc_region ?_
    refine ne (eo_mv rfl rfl) rfl ?_
    refine ne (eo_as rfl rfl) rfl ?_
    refine go_nil ?_
    refine gq_next ?_
    refine gc_region ?_
    refine ne (eo_mv rfl rfl) rfl ?_
    refine ne (eo_mv rfl rfl) rfl ?_
    refine ne (eo_mv rfl rfl) rfl ?_
    refine ne (eo_mv rfl rfl) rfl ?_
    refine ne (eo_mul rfl rfl rfl (by omega) (by omega)) rfl ?_
    refine ne (eo_mv rfl rfl) rfl ?_
    refine ne (eo_call rfl en43 rfl (fun W1 hO => floor_c _ _ W1  (by omega) (by omega) (by omega))) rfl ?_
    refine ne (eo_index0 rfl sl44 rfl rfl (by omega) (by omega)) rfl ?_
    refine nu (xo_seti 0 rfl s3 rfl rfl rfl (by omega)) ?_
    rintro _ _ ⟨rfl, rfl⟩
    refine go_nil ?_
    refine gq_block_end ?_
    refine gq_next ?_
    refine gc_region ?_
    refine ne (eo_add rfl rfl rfl (by omega) (by omega)) rfl ?_
    refine ne (eo_mv rfl rfl) rfl ?_
    refine go_nil ?_
    exact round2 (x + 1) (upd f1 (x) (((x : Int) * num) / den)) ⟨by omega, fill_to (fill_up hI (by omega) rfl) (by push_cast; omega)⟩ (by omega) ⟨rfl, rfl, rfl, rfl, rfl, trivial⟩ (List.Sublist.refl _)
  ·
    replace hc0 := of_decide_eq_false hc0
    rw [show tab W.toNat (iv .i64 f1) = tab W.toNat (iv .i64 (slF num den)) from tabi_ext (fill_end hI (by omega))]
    have hmin := sl_min (W := W) (num := num) (den := den) d1 w1
    refine gc_exit ?_
    refine gq_then_exit ?_
    refine gq_then_exit ?_
    refine gq_block_hit ?_
    refine gq_next ?_
    refine gc_seq ?_
    refine gc_region ?_
    refine ne (eo_mv rfl rfl) rfl ?_
    refine ne (eo_call rfl en44 rfl (fun W1 hO => smin_c _ _ _ _ W1 (tabs_rd hO 0 rfl) (by omega) (by omega))) rfl ?_
    refine ne (eo_as rfl rfl) rfl ?_
    refine go_nil ?_
    refine gq_next ?_
    refine gc_seq ?_
    refine gc_seq ?_
    refine gc_region ?_
    refine ne (eo_mv rfl rfl) rfl ?_
    refine ne (eo_len rfl Try.underlying44 rfl) rfl ?_
    refine ne (eo_mv rfl rfl) rfl ?_
    refine go_nil ?_
    refine gq_next ?_
    refine gc_block ?_
    refine loop2 (fun (x : Nat) (f1 : Nat → Int) => (x : Int) ≤ W ∧ ∀ j, j < W.toNat → f1 j = if (j : Int) < x then shI W num den j else slF num den j) (fun (x : Nat) (f1 : Nat → Int) => (W - x).toNat) (fun (x : Nat) (f1 : Nat → Int) => [(7, .slice (some ⟨g12, 0, none⟩) ((W).toNat) ((W).toNat)), (9, .int .i64 (minF (slF num den) ((W).toNat - 1))), (29, .int .i64 (((W).toNat : Nat) : Int)), (30, .int .i64 (x : Int))]) (fun (x : Nat) (f1 : Nat → Int) => [⟨g12, 3, tab ((W).toNat) (iv .i64 f1) ++ []⟩]) 0 (slF num den) ⟨by omega, fun j _ => by rw [if_neg (by simp)]⟩ ⟨rfl, rfl, rfl, rfl, trivial⟩ (List.Sublist.refl _) ?_
    rintro x f1 ⟨hx, hI⟩
    refine gc_seq ?_
    refine gc_region ?_
    refine ne (eo_lss rfl rfl rfl) rfl ?_
    refine go_nil ?_
    refine gq_next ?_
    refine gc_seq ?_
    refine gc_cond rfl (fun hc1 => ?_) (fun hc1 => ?_)
    ·
      replace hc1 := of_decide_eq_true hc1
      have hxb := sl_bd (x := (x : Int)) (num := num) (den := den) d1 (by omega) (by omega) d3 d4
      have hfx := hI (x : Int).toNat (by omega)
      rw [if_neg (by omega)] at hfx
      have hfx2 : slF num den (x : Int).toNat = (x : Int) * num / den := rfl
      refine gc_skip ?_
      refine gq_next ?_
      refine gc_seq ?_
      refine gc_block ?_
      refine gc_seq ?_
      refine gc_region ?_
      refine ne (eo_mv rfl rfl) rfl ?_
      refine ne (eo_as rfl rfl) rfl ?_
      refine go_nil ?_
      refine gq_next ?_
      refine gc_region ?_
      refine ne (eo_mv rfl rfl) rfl ?_
      refine ne (eo_mv rfl rfl) rfl ?_
      refine ne (eo_index0 rfl sl44 rfl rfl (by omega) (by omega)) rfl ?_
      refine ne (eo_geti 0 rfl s3 rfl rfl (by omega)) rfl ?_
      refine ne (eo_mv rfl rfl) rfl ?_
      refine ne (eo_sub rfl rfl rfl (by omega) (by omega)) rfl ?_
      refine ne (eo_index0 rfl sl44 rfl rfl (by omega) (by omega)) rfl ?_
      refine nu (xo_seti 0 rfl s3 rfl rfl rfl (by omega)) ?_
      rintro _ _ ⟨rfl, rfl⟩
      refine go_nil ?_
      refine gq_block_end ?_
      refine gq_next ?_
      refine gc_region ?_
      refine ne (eo_add rfl rfl rfl (by omega) (by omega)) rfl ?_
      refine ne (eo_mv rfl rfl) rfl ?_
      refine go_nil ?_
      exact round2 (x + 1) (upd f1 (x) ((f1 (x)) - (minF (slF num den) ((W).toNat - 1)))) ⟨by omega, shift_step (by omega) hmin hI⟩ (by omega) ⟨rfl, rfl, rfl, rfl, trivial⟩ (List.Sublist.refl _)
    ·
      replace hc1 := of_decide_eq_false hc1
      refine gc_exit ?_
      refine gq_then_exit ?_
      refine gq_then_exit ?_
      refine gq_block_hit ?_
      refine gq_next ?_
      refine gc_seq ?_
      refine gc_region ?_
      refine ne (eo_mv rfl rfl) rfl ?_
      refine ne (eo_as rfl rfl) rfl ?_
      refine go_nil ?_
      refine gq_next ?_
      refine gc_ret ?_
      refine gq_results (res1 rfl rfl) ?_
      rw [show tab W.toNat (iv .i64 f1) = tab W.toNat (iv .i64 (fun x => shI W num den x)) from tabi_ext (fun j hj => by rw [hI j hj, if_pos (by omega)])]
      exact fun W1 hO => ⟨_, _, rfl, ⟨_, _, _, rfl, rfl, by omega⟩, hO.pick 0 rfl⟩

/-- barscan/barscanref45.Shift -/
theorem shift_c (x : Int) (W : Int) (num : Int) (den : Int) (w : World)  (w1 : 1 ≤ W) (w2 : W ≤ 4096) (x0 : 0 ≤ x) (x1 : x < W) (d1 : 1 ≤ den) (d3 : -4096 ≤ num) (d4 : num ≤ 4096) :
    Calls Try.prog 24 #[.int .i64 x, .int .i64 W, .int .i64 num, .int .i64 den] w (fun e w' => e = .returned (.int .i64 (shI W num den x)) ∧ Ext w w') := by
  have p1 := prod_bd (x := x) (num := num) (by omega) (by omega) d3 d4
  have p2 := prod_bd (x := W - 1) (num := num) (by omega) (by omega) d3 d4
  have q1 := sl_bd (x := x) (num := num) (den := den) d1 (by omega) (by omega) d3 d4
  have q2 := sl_bd (x := W - 1) (num := num) (den := den) d1 (by omega) (by omega) d3 d4
  refine calls_enter (N := ⟨22, []⟩) [] ([]) Try.func24 rfl rfl rfl (Ow.start _) ?_
  refine gc_seq ?_
  refine gc_region ?_
  refine ne (eo_as rfl rfl) rfl ?_
  refine go_nil ?_
  refine gq_next ?_
  refine gc_seq ?_
  refine gc_region ?_
  refine ne (eo_mv rfl rfl) rfl ?_
  refine ne (eo_mv rfl rfl) rfl ?_
  refine ne (eo_mul rfl rfl rfl (by omega) (by omega)) rfl ?_
  refine ne (eo_mv rfl rfl) rfl ?_
  refine ne (eo_call rfl en39 rfl (fun W1 hO => rfloor_c _ _ W1  (by omega) (by omega) (by omega))) rfl ?_
  refine ne (eo_mv rfl rfl) rfl ?_
  refine ne (eo_sub rfl rfl rfl (by omega) (by omega)) rfl ?_
  refine ne (eo_mv rfl rfl) rfl ?_
  refine ne (eo_mul rfl rfl rfl (by omega) (by omega)) rfl ?_
  refine ne (eo_mv rfl rfl) rfl ?_
  refine ne (eo_call rfl en39 rfl (fun W1 hO => rfloor_c _ _ W1  (by omega) (by omega) (by omega))) rfl ?_
  refine ne (eo_min rfl rfl rfl) rfl ?_
  refine ne (eo_sub rfl rfl rfl (by omega) (by omega)) rfl ?_
  refine ne (eo_as rfl rfl) rfl ?_
  refine go_nil ?_
  refine gq_next ?_
  refine gc_ret ?_
  refine gq_results (res1 rfl rfl) ?_
  exact fun W1 hO => ⟨rfl, hO.toExt⟩

/-- barscan/skew.Profile -/
theorem prof_x (W H : Int) (A : Option Addr) (n c : Nat) (f : Nat → Bool) (w : World) (hr : Rd w A (tab n (bv f)))  :
    Calls Try.prog 26 #[.agg #[.int .i64 W, .int .i64 H, .slice A n c]] w (fun e w' => ∃ v Hn, e = .returned v ∧ RXs (profR ⟨W, H, n, f⟩) v Hn ∧ Ow [] w w' Hn) := by
  refine calls_enter (N := ⟨33, []⟩) [] ([]) Try.func26 rfl rfl rfl (Ow.start _) ?_
  refine gc_seq ?_
  refine gc_region ?_
  refine nx (xo_boxA rfl rfl) rfl ?_
  rintro _ _ ⟨g1, rfl, rfl⟩
  refine ne (eo_as rfl rfl) rfl ?_
  refine ne (eo_as rfl rfl) rfl ?_
  refine go_nil ?_
  refine gq_next ?_
  refine gc_seq ?_
  refine gc_seq ?_
  refine gc_region ?_
  refine ne (eo_loadA 0 rfl a24 rfl rfl rfl rfl) rfl ?_
  refine ne (eo_call rfl en30 rfl (fun W1 hO => check_c _ _ _ _ _ W1  )) rfl ?_
  refine ne (eo_neq rfl rfl rfl) rfl ?_
  refine go_nil ?_
  refine gq_next ?_
  refine gc_cond rfl (fun hc0 => ?_) (fun hc0 => ?_)
  ·
    replace hc0 := of_decide_eq_true hc0
    have hv := chk_f hc0
    refine gc_seq ?_
    refine gc_region ?_
    refine ne (eo_as rfl rfl) rfl ?_
    refine ne (eo_as rfl rfl) rfl ?_
    refine go_nil ?_
    refine gq_next ?_
    refine gc_ret ?_
    refine gq_then_ret ?_
    refine gq_results (res2 rfl rfl rfl) ?_
    exact fun W1 hO => rxs_nil hO (profR_no hv)
  ·
    replace hc0 := of_decide_eq_false hc0
    have hv := chk_t hc0
    obtain ⟨v1, v2, v3, v4, v5, v6⟩ := vldB_iff.1 hv
    have v7 := vld_pos hv
    refine gc_skip ?_
    refine gq_next ?_
    refine gc_seq ?_
    refine gc_region ?_
    refine ne (eo_field rfl f24_1 rfl) rfl ?_
    refine ne (eo_load 0 rfl s3 rfl rfl rfl rfl) rfl ?_
    refine nx (xo_makei rfl Try.underlying44 e3 rfl rfl (by omega) (by omega) (by omega)) rfl ?_
    rintro _ _ ⟨g12, rfl, rfl⟩
    refine ne (eo_as rfl rfl) rfl ?_
    refine go_nil ?_
    refine gq_next ?_
    refine gc_seq ?_
    refine gc_seq ?_
    refine gc_region ?_
    refine ne (eo_field rfl f24_2 rfl) rfl ?_
    refine ne (eo_load 1 rfl s22 rfl rfl rfl rfl) rfl ?_
    refine ne (eo_len rfl Try.underlying22 rfl) rfl ?_
    refine ne (eo_mv rfl rfl) rfl ?_
    refine go_nil ?_
    refine gq_next ?_
    refine gc_block ?_
    refine loop2 (fun (i : Nat) (f1 : Nat → Int) => i ≤ n ∧ ∀ y : Nat, y < H.toNat → f1 y = histN f (fun j => (j : Int) / W) i (y : Int)) (fun (i : Nat) (f1 : Nat → Int) => n - i) (fun (i : Nat) (f1 : Nat → Int) => [(1, .pointer (some ⟨g1, 0, none⟩)), (4, .slice (some ⟨g12, 0, none⟩) ((H).toNat) ((H).toNat)), (14, .slice A n c), (15, .int .i64 ((n : Nat) : Int)), (16, .int .i64 (i : Int))]) (fun (i : Nat) (f1 : Nat → Int) => [⟨g12, 3, tab ((H).toNat) (iv .i64 f1) ++ []⟩, ⟨g1, 24, [.int .i64 W, .int .i64 H, .slice A n c]⟩]) 0 (fun _ => 0) ⟨by omega, fun _ _ => rfl⟩ ⟨rfl, rfl, rfl, rfl, rfl, trivial⟩ (List.Sublist.refl _) ?_
    rintro i f1 ⟨hi, hI⟩
    refine gc_seq ?_
    refine gc_region ?_
    refine ne (eo_lss rfl rfl rfl) rfl ?_
    refine go_nil ?_
    refine gq_next ?_
    refine gc_seq ?_
    refine gc_cond rfl (fun hc1 => ?_) (fun hc1 => ?_)
    ·
      replace hc1 := of_decide_eq_true hc1
      have hcb := cell_bd hv (show i < n by omega)
      have hfx := hI ((i : Int) / W).toNat (by omega)
      have hhb := hist_bd (p := f) (key := fun j => (j : Int) / W) (n := i) (y := ((((i : Int) / W).toNat : Nat) : Int))
      refine gc_skip ?_
      refine gq_next ?_
      refine gc_seq ?_
      refine gc_block ?_
      refine gc_seq ?_
      refine gc_region ?_
      refine ne (eo_mv rfl rfl) rfl ?_
      refine ne (eo_indexR rfl sl22 rfl rfl hr (by simp) (by omega) (by omega)) rfl ?_
      refine ne (eo_load_old rfl s4 rfl (Rd.tabb hr (by omega)) (by simp)) rfl ?_
      refine ne (eo_as rfl rfl) rfl ?_
      refine ne (eo_as rfl rfl) rfl ?_
      refine go_nil ?_
      refine gq_next ?_
      refine gc_seq ?_
      refine gc_region ?_
      refine ne (eo_mv rfl rfl) rfl ?_
      refine go_nil ?_
      refine gq_next ?_
      refine gc_cond rfl (fun hc2 => ?_) (fun hc2 => ?_)
      ·
        refine gc_region ?_
        refine ne (eo_mv rfl rfl) rfl ?_
        refine ne (eo_mv rfl rfl) rfl ?_
        refine ne (eo_field rfl f24_0 rfl) rfl ?_
        refine ne (eo_load 1 rfl s3 rfl rfl rfl rfl) rfl ?_
        refine ne (eo_quo rfl rfl rfl (by omega) (by omega) (by omega)) rfl ?_
        refine ne (eo_index0 rfl sl44 rfl rfl (by omega) (by omega)) rfl ?_
        refine ne (eo_geti 0 rfl s3 rfl rfl (by omega)) rfl ?_
        refine ne (eo_add rfl rfl rfl (by omega) (by omega)) rfl ?_
        refine ne (eo_index0 rfl sl44 rfl rfl (by omega) (by omega)) rfl ?_
        refine nu (xo_seti 0 rfl s3 rfl rfl rfl (by omega)) ?_
        rintro _ _ ⟨rfl, rfl⟩
        refine go_nil ?_
        refine gq_block_end ?_
        refine gq_next ?_
        refine gc_region ?_
        refine ne (eo_add rfl rfl rfl (by omega) (by omega)) rfl ?_
        refine ne (eo_mv rfl rfl) rfl ?_
        refine go_nil ?_
        exact round2 (i + 1) (upd f1 ((((i : Int) / W)).toNat) ((f1 ((((i : Int) / W)).toNat)) + 1)) ⟨by omega, hist_step (i := i) hc2 (by omega) hI⟩ (by omega) ⟨rfl, rfl, rfl, rfl, rfl, trivial⟩ (List.Sublist.refl _)
      ·
        refine gc_skip ?_
        refine gq_block_end ?_
        refine gq_next ?_
        refine gc_region ?_
        refine ne (eo_add rfl rfl rfl (by omega) (by omega)) rfl ?_
        refine ne (eo_mv rfl rfl) rfl ?_
        refine go_nil ?_
        exact round2 (i + 1) f1 ⟨by omega, hist_keep (i := i) hc2 hI⟩ (by omega) ⟨rfl, rfl, rfl, rfl, rfl, trivial⟩ (List.Sublist.refl _)
    ·
      replace hc1 := of_decide_eq_false hc1
      refine gc_exit ?_
      refine gq_then_exit ?_
      refine gq_then_exit ?_
      refine gq_block_hit ?_
      refine gq_next ?_
      refine gc_seq ?_
      refine gc_region ?_
      refine ne (eo_mv rfl rfl) rfl ?_
      refine ne (eo_as rfl rfl) rfl ?_
      refine ne (eo_as rfl rfl) rfl ?_
      refine go_nil ?_
      refine gq_next ?_
      refine gc_ret ?_
      refine gq_results (res2 rfl rfl rfl) ?_
      exact fun W1 hO => rxs_own 0 hO rfl (profR_ok hv) (fun y hy => by rw [hI y hy, show i = n by omega]) (by omega)

/-- barscan/barscanref45.Profile -/
theorem rprof_x (W H : Int) (A : Option Addr) (n c : Nat) (f : Nat → Bool) (w : World) (hr : Rd w A (tab n (bv f)))  :
    Calls Try.prog 27 #[.agg #[.int .i64 W, .int .i64 H, .slice A n c]] w (fun e w' => ∃ v Hn, e = .returned v ∧ RXs (profR ⟨W, H, n, f⟩) v Hn ∧ Ow [] w w' Hn) := by
  refine calls_enter (N := ⟨40, []⟩) [] ([]) Try.func27 rfl rfl rfl (Ow.start _) ?_
  refine gc_seq ?_
  refine gc_region ?_
  refine nx (xo_boxA rfl rfl) rfl ?_
  rintro _ _ ⟨g1, rfl, rfl⟩
  refine ne (eo_as rfl rfl) rfl ?_
  refine ne (eo_as rfl rfl) rfl ?_
  refine go_nil ?_
  refine gq_next ?_
  refine gc_seq ?_
  refine gc_seq ?_
  refine gc_region ?_
  refine ne (eo_loadA 0 rfl a24 rfl rfl rfl rfl) rfl ?_
  refine ne (eo_call rfl en25 rfl (fun W1 hO => rcheck_c _ _ _ _ _ W1  )) rfl ?_
  refine ne (eo_neq rfl rfl rfl) rfl ?_
  refine go_nil ?_
  refine gq_next ?_
  refine gc_cond rfl (fun hc0 => ?_) (fun hc0 => ?_)
  ·
    replace hc0 := of_decide_eq_true hc0
    have hv := chk_f hc0
    refine gc_seq ?_
    refine gc_region ?_
    refine ne (eo_as rfl rfl) rfl ?_
    refine ne (eo_as rfl rfl) rfl ?_
    refine go_nil ?_
    refine gq_next ?_
    refine gc_ret ?_
    refine gq_then_ret ?_
    refine gq_results (res2 rfl rfl rfl) ?_
    exact fun W1 hO => rxs_nil hO (profR_no hv)
  ·
    replace hc0 := of_decide_eq_false hc0
    have hv := chk_t hc0
    obtain ⟨v1, v2, v3, v4, v5, v6⟩ := vldB_iff.1 hv
    have v7 := vld_pos hv
    refine gc_skip ?_
    refine gq_next ?_
    refine gc_seq ?_
    refine gc_region ?_
    refine ne (eo_as rfl rfl) rfl ?_
    refine go_nil ?_
    refine gq_next ?_
    refine gc_seq ?_
    refine gc_seq ?_
    refine gc_region ?_
    refine ne (eo_as rfl rfl) rfl ?_
    refine go_nil ?_
    refine gq_next ?_
    refine gc_block ?_
    refine loop2 (fun (y : Nat) (s : AS) => (y : Int) ≤ H ∧ s.Ok 1 y (tab y (iv .i64 (fun y : Nat => histN f (fun j => (j : Int) / W) n (y : Int))))) (fun (y : Nat) (s : AS) => (H - y).toNat) (fun (y : Nat) (s : AS) => [(1, .pointer (some ⟨g1, 0, none⟩)), (4, s.val y), (5, .int .i64 (y : Int))]) (fun (y : Nat) (s : AS) => ⟨g1, 24, [.int .i64 W, .int .i64 H, .slice A n c]⟩ :: s.blks 3 (tab y (iv .i64 (fun y : Nat => histN f (fun j => (j : Int) / W) n (y : Int))))) 0 .nil ⟨by omega, AS.Ok0⟩ ⟨rfl, rfl, rfl, trivial⟩ (List.Sublist.refl _) ?_
    rintro y s ⟨hy, hs⟩
    refine gc_seq ?_
    refine gc_seq ?_
    refine gc_region ?_
    refine ne (eo_mv rfl rfl) rfl ?_
    refine ne (eo_field rfl f24_1 rfl) rfl ?_
    refine ne (eo_load 0 rfl s3 rfl rfl rfl rfl) rfl ?_
    refine ne (eo_lss rfl rfl rfl) rfl ?_
    refine go_nil ?_
    refine gq_next ?_
    refine gc_cond rfl (fun hc1 => ?_) (fun hc1 => ?_)
    ·
      replace hc1 := of_decide_eq_true hc1
      have hyb := idx_bd (W := W) (H := H) (x := 0) (y := (y : Int)) (by omega) (by omega) (by omega) (by omega)
      refine gc_skip ?_
      refine gq_next ?_
      refine gc_seq ?_
      refine gc_block ?_
      refine gc_seq ?_
      refine gc_region ?_
      refine ne (eo_as rfl rfl) rfl ?_
      refine go_nil ?_
      refine gq_next ?_
      refine gc_seq ?_
      refine gc_seq ?_
      refine gc_region ?_
      refine ne (eo_as rfl rfl) rfl ?_
      refine go_nil ?_
      refine gq_next ?_
      refine gc_block ?_
      refine loop2 (fun (x : Nat) (q : Int) => (x : Int) ≤ W ∧ q = rowS (bw f) W y x) (fun (x : Nat) (q : Int) => (W - x).toNat) (fun (x : Nat) (q : Int) => [(1, .pointer (some ⟨g1, 0, none⟩)), (4, s.val y), (5, .int .i64 (y : Int)), (6, .int .i64 q), (7, .int .i64 (x : Int))]) (fun (x : Nat) (q : Int) => ⟨g1, 24, [.int .i64 W, .int .i64 H, .slice A n c]⟩ :: s.blks 3 (tab y (iv .i64 (fun y : Nat => histN f (fun j => (j : Int) / W) n (y : Int))))) 0 0 ⟨by omega, rfl⟩ ⟨rfl, rfl, rfl, rfl, rfl, trivial⟩ (List.Sublist.refl _) ?_
      rintro x q ⟨hx, hq⟩
      have hrb := rowS_z (g := bw f) (W := W) (hi := 1) (y := y) (x := x) (fun _ => bw_bd)
      refine gc_seq ?_
      refine gc_seq ?_
      refine gc_region ?_
      refine ne (eo_mv rfl rfl) rfl ?_
      refine ne (eo_field rfl f24_0 rfl) rfl ?_
      refine ne (eo_load 0 rfl s3 rfl rfl rfl rfl) rfl ?_
      refine ne (eo_lss rfl rfl rfl) rfl ?_
      refine go_nil ?_
      refine gq_next ?_
      refine gc_cond rfl (fun hc2 => ?_) (fun hc2 => ?_)
      ·
        replace hc2 := of_decide_eq_true hc2
        refine gc_skip ?_
        refine gq_next ?_
        refine gc_seq ?_
        refine gc_block ?_
        refine gc_seq ?_
        refine gc_region ?_
        refine ne (eo_field rfl f24_2 rfl) rfl ?_
        refine ne (eo_load 0 rfl s22 rfl rfl rfl rfl) rfl ?_
        refine ne (eo_mv rfl rfl) rfl ?_
        refine ne (eo_field rfl f24_0 rfl) rfl ?_
        refine ne (eo_load 0 rfl s3 rfl rfl rfl rfl) rfl ?_
        refine ne (eo_mul rfl rfl rfl (by omega) (by omega)) rfl ?_
        refine ne (eo_mv rfl rfl) rfl ?_
        refine ne (eo_add rfl rfl rfl (by omega) (by omega)) rfl ?_
        refine ne (eo_indexR rfl sl22 rfl rfl hr (by simp) (by omega) (by omega)) rfl ?_
        refine ne (eo_load_old rfl s4 rfl (Rd.tabb hr (by omega)) (by simp)) rfl ?_
        refine go_nil ?_
        refine gq_next ?_
        refine gc_cond rfl (fun hc3 => ?_) (fun hc3 => ?_)
        ·
          refine gc_region ?_
          refine ne (eo_mv rfl rfl) rfl ?_
          refine ne (eo_add rfl rfl rfl (by omega) (by omega)) rfl ?_
          refine ne (eo_as rfl rfl) rfl ?_
          refine go_nil ?_
          refine gq_block_end ?_
          refine gq_next ?_
          refine gc_region ?_
          refine ne (eo_mv rfl rfl) rfl ?_
          refine ne (eo_add rfl rfl rfl (by omega) (by omega)) rfl ?_
          refine ne (eo_as rfl rfl) rfl ?_
          refine go_nil ?_
          exact round2 (x + 1) (q + 1) ⟨by omega, by rw [rowS_succ, ← hq, bw_t hc3]⟩ (by omega) ⟨rfl, rfl, rfl, rfl, rfl, trivial⟩ (List.Sublist.refl _)
        ·
          refine gc_skip ?_
          refine gq_block_end ?_
          refine gq_next ?_
          refine gc_region ?_
          refine ne (eo_mv rfl rfl) rfl ?_
          refine ne (eo_add rfl rfl rfl (by omega) (by omega)) rfl ?_
          refine ne (eo_as rfl rfl) rfl ?_
          refine go_nil ?_
          exact round2 (x + 1) q ⟨by omega, by rw [rowS_succ, ← hq, bw_f hc3]; omega⟩ (by omega) ⟨rfl, rfl, rfl, rfl, rfl, trivial⟩ (List.Sublist.refl _)
      ·
        replace hc2 := of_decide_eq_false hc2
        refine gc_exit ?_
        refine gq_then_exit ?_
        refine gq_then_exit ?_
        refine gq_block_hit ?_
        refine gq_next ?_
        refine gc_region ?_
        refine ne (eo_mv rfl rfl) rfl ?_
        refine ne (eo_mv rfl rfl) rfl ?_
        refine nx (xo_lit1 rfl Try.underlying44 e3 rfl (by first | rfl | exact AS.one)) rfl ?_
        rintro _ _ ⟨g37, rfl, rfl⟩
        refine nx (xo_app1i 2 rfl rfl Try.underlying44 e3 rfl hs rfl rfl (by rw [hq, show x = W.toNat by omega]; exact (prof_row hv (by omega)).symm) (by omega) (by decide)) rfl ?_
        rintro _ _ ⟨s38, hs38, rfl, rfl⟩
        refine ne (eo_as rfl rfl) rfl ?_
        refine go_nil ?_
        refine gq_block_end ?_
        refine gq_next ?_
        refine gc_region ?_
        refine ne (eo_mv rfl rfl) rfl ?_
        refine ne (eo_add rfl rfl rfl (by omega) (by omega)) rfl ?_
        refine ne (eo_as rfl rfl) rfl ?_
        refine go_nil ?_
        exact round2 (y + 1) s38 ⟨by omega, hs38⟩ (by omega) ⟨rfl, rfl, rfl, trivial⟩ (List.Sublist.cons _ (List.Sublist.refl _))
    ·
      replace hc1 := of_decide_eq_false hc1
      refine gc_exit ?_
      refine gq_then_exit ?_
      refine gq_then_exit ?_
      refine gq_block_hit ?_
      refine gq_next ?_
      refine gc_seq ?_
      refine gc_region ?_
      refine ne (eo_mv rfl rfl) rfl ?_
      refine ne (eo_as rfl rfl) rfl ?_
      refine ne (eo_as rfl rfl) rfl ?_
      refine go_nil ?_
      refine gq_next ?_
      refine gc_ret ?_
      refine gq_results (res2 rfl rfl rfl) ?_
      have hyn : H.toNat = y := by omega
      subst hyn
      exact fun W1 hO => rxs_as 1 hO rfl hs (profR_ok hv)

end Go.Proofs.Ytmgkpdpmjhgekaa
