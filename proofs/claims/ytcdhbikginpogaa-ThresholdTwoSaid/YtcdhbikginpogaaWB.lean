/-
  The walks of the functions of packages bigint and threshold and of the document's answers (part B): what each call returns, at every argument.
-/
import Derived.Test.YtcdhbikginpogaaWA
namespace Go.Proofs.Ytcdhbikginpogaa
open Go.RowKit Go.Eng

open Go.Bs
theorem z73 : TyZ Try.prog 73 [.int .u32 0, .int .u32 0] := .inl (by kernel_rfl)
theorem ba73 {x0 x1 : Int} (W : World) : (Instr.build 73 #[(0, .int .u32 x0), (1, .int .u32 x1)]).run Try.prog W = .ok (.agg #[.int .u32 x0, .int .u32 x1]) W := by kernel_rfl
theorem a73 : TyA Try.prog 73 2 := ⟨⟨_, Try.underlying73, rfl⟩, by kernel_rfl⟩
theorem sl52 : TySl Try.prog 52 72 1 := ⟨Try.underlying52, by kernel_rfl⟩
theorem s72 : TyS Try.prog 72 := ⟨⟨_, Try.underlying72, rfl⟩, by kernel_rfl⟩
theorem en50 : Ent Try.prog 50 := ent_of Try.func50 (by kernel_rfl) rfl
theorem sz72 : (Try.prog.info? 72).map (·.size) = some 1 := by kernel_rfl
theorem en51 : Ent Try.prog 51 := ent_of Try.func51 (by kernel_rfl) rfl

/-- barscan/bigint.split -/
theorem split_c (u : Int) (w : World)  (h0 : 0 ≤ u) (h1 : u ≤ 18446744073709551615) :
    Calls Try.prog 50 #[.int .u64 u] w (fun e w' => e = .returned (.agg #[.int .u32 (u % 4294967296), .int .u32 (u / 4294967296)]) ∧ Ext w w') := by
  refine calls_enter (N := ⟨9, []⟩) [] ([]) Try.func50 rfl rfl rfl (Ow.start _) ?_
  refine gc_seq ?_
  refine gc_region ?_
  refine nx (xo_alloc rfl z73) rfl ?_
  rintro _ _ ⟨g2, rfl, rfl⟩
  refine go_nil ?_
  refine gq_next ?_
  refine gc_seq ?_
  refine gc_region ?_
  refine ne (eo_mv rfl rfl) rfl ?_
  refine ne (eo_low rfl rfl ⟨_, Try.underlying67⟩ Try.underlying72) rfl ?_
  refine ne (eo_mv rfl rfl) rfl ?_
  refine ne (eo_high rfl rfl rfl) rfl ?_
  refine ne (eo_convk rfl rfl ⟨_, Try.underlying67⟩ Try.underlying72 (u32_in (by omega) (by omega))) rfl ?_
  refine ne (eo_build rfl rfl ba73) rfl ?_
  refine nu (xo_storeA 0 rfl a73 rfl rfl (ones_cons (by first | rfl | exact AS.one) (ones_cons (by first | rfl | exact AS.one) ones_nil)) rfl rfl rfl rfl) ?_
  rintro _ _ ⟨rfl, rfl⟩
  refine go_nil ?_
  refine gq_next ?_
  refine gc_ret ?_
  refine gq_results (resC 0 rfl a73 rfl rfl rfl rfl) ?_
  exact fun W1 hO => ⟨rfl, hO.toExt⟩

/-- barscan/bigint.trim -/
theorem trim_c (A : Option Addr) (n c : Nat) (f : Nat → Int) (w : World) (hr : Rd w A (tab n (iv .u32 f))) (hc : n ≤ c) (hnn : n ≤ 1073741824) :
    Calls Try.prog 51 #[.slice A n c] w (fun e w' => e = .returned (.slice A (tl f n) c) ∧ Ext w w') := by
  refine calls_enter (N := ⟨21, []⟩) [] ([]) Try.func51 rfl rfl rfl (Ow.start _) ?_
  refine gc_seq ?_
  refine gc_region ?_
  refine ne (eo_as rfl rfl) rfl ?_
  refine go_nil ?_
  refine gq_next ?_
  refine gc_seq ?_
  refine gc_region ?_
  refine ne (eo_mv rfl rfl) rfl ?_
  refine ne (eo_len rfl Try.underlying52 rfl) rfl ?_
  refine ne (eo_as rfl rfl) rfl ?_
  refine go_nil ?_
  refine gq_next ?_
  refine gc_seq ?_
  refine gc_block ?_
  refine loop1 (fun (k : Nat) => k ≤ n ∧ tl f n = tl f k) (fun (k : Nat) => k) (fun (k : Nat) => [(0, .slice A n c), (3, .int .i64 (k : Int))]) (fun (k : Nat) => []) n ⟨by omega, rfl⟩ ⟨rfl, rfl, trivial⟩ (List.Sublist.refl _) ?_
  rintro k ⟨hk, hI⟩
  refine gc_seq ?_
  refine gc_seq ?_
  refine gc_region ?_
  refine ne (eo_mv rfl rfl) rfl ?_
  refine ne (eo_gtr rfl rfl rfl) rfl ?_
  refine ne (eo_mv rfl rfl) rfl ?_
  refine ng rfl rfl (fun h => eo_mv rfl rfl) rfl ?_
  refine ng rfl rfl (fun h => eo_mv rfl rfl) rfl ?_
  refine ng rfl rfl (fun h => eo_sub rfl (ev_if h rfl) rfl (by have hg0 := of_decide_eq_true h; omega) (by have hg0 := of_decide_eq_true h; omega)) rfl ?_
  refine ng rfl rfl (fun h => eo_indexR rfl sl52 (ev_if h rfl) (ev_if h rfl) hr (by simp) (by have hg0 := of_decide_eq_true h; omega) (by have hg0 := of_decide_eq_true h; omega)) rfl ?_
  refine ng rfl rfl (fun h => eo_load_old rfl s72 (ev_if h rfl) (Rd.tabi hr (by have hg0 := of_decide_eq_true h; omega)) (by simp)) rfl ?_
  refine ng rfl rfl (fun h => eo_eql rfl (ev_if h rfl) rfl) rfl ?_
  refine ne (eo_and rfl rfl (fun hb => ev_if hb rfl)) rfl ?_
  refine go_nil ?_
  refine gq_next ?_
  refine gc_cond rfl (fun hc0 => ?_) (fun hc0 => ?_)
  ·
    have hd0 := (and_t hc0).imp (fun h => of_decide_eq_true h) (fun h => of_decide_eq_true h)
    refine gc_skip ?_
    refine gq_next ?_
    refine gc_block ?_
    refine gc_region ?_
    refine ne (eo_mv rfl rfl) rfl ?_
    refine ne (eo_sub rfl rfl rfl (by omega) (by omega)) rfl ?_
    refine ne (eo_as rfl rfl) rfl ?_
    refine go_nil ?_
    refine gq_block_end ?_
    exact round1 (k - 1) ⟨by omega, by rw [hI]; exact tl_drop (by have e := hd0.2; rwa [show ((k : Int) - 1).toNat = k - 1 by omega] at e) (by omega)⟩ (by omega) ⟨rfl, (look_int rfl (by omega)), trivial⟩ (List.Sublist.refl _)
  ·
    have hd0 := (and_f hc0).imp (fun h => of_decide_eq_false h) (fun h => of_decide_eq_false h)
    have hkt : k = tl f n := by
      rw [hI]
      refine (tl_stop ?_).symm
      by_cases e : k = 0
      · exact .inl e
      · refine .inr fun e2 => (hd0.elim (fun h => h (by omega)) fun h => h ?_)
        rwa [show ((k : Int) - 1).toNat = k - 1 by omega]
    refine gc_exit ?_
    refine gq_then_exit ?_
    refine gq_then_exit ?_
    refine gq_block_hit ?_
    refine gq_next ?_
    refine gc_seq ?_
    refine gc_region ?_
    refine ne (eo_mv rfl rfl) rfl ?_
    refine ne (eo_mv rfl rfl) rfl ?_
    refine ne (eo_slH rfl sl52 rfl rfl (by omega) (by omega)) rfl ?_
    refine ne (eo_as rfl rfl) rfl ?_
    refine go_nil ?_
    refine gq_next ?_
    refine gc_ret ?_
    refine gq_results (res1 rfl rfl) ?_
    exact fun W1 hO => ⟨by rw [← hkt]; rfl, hO.toExt⟩

/-- barscan/bigint.fromWord -/
theorem word_x (u : Int) (w : World)  (h0 : 0 ≤ u) (h1 : u ≤ 18446744073709551615) :
    Calls Try.prog 40 #[.int .u64 u] w (fun e w' => ∃ v Hn, e = .returned v ∧ RN u v Hn ∧ Ow [] w w' Hn) := by
  refine calls_enter (N := ⟨8, []⟩) [] ([]) Try.func40 rfl rfl rfl (Ow.start _) ?_
  refine gc_seq ?_
  refine gc_region ?_
  refine ne (eo_as rfl rfl) rfl ?_
  refine go_nil ?_
  refine gq_next ?_
  refine gc_seq ?_
  refine gc_region ?_
  refine ne (eo_mv rfl rfl) rfl ?_
  refine ne (eo_call rfl en50 rfl (fun W1 hO => split_c _ W1  (by omega) (by omega))) rfl ?_
  refine nx (xo_alloc rfl z73) rfl ?_
  rintro _ _ ⟨g3, rfl, rfl⟩
  refine nu (xo_storeA 0 rfl a73 rfl rfl (ones_cons (by first | rfl | exact AS.one) (ones_cons (by first | rfl | exact AS.one) ones_nil)) rfl rfl rfl rfl) ?_
  rintro _ _ ⟨rfl, rfl⟩
  refine go_nil ?_
  refine gq_next ?_
  refine gc_seq ?_
  refine gc_region ?_
  refine ne (eo_slArr rfl Try.underlying73 sz72 rfl) rfl ?_
  refine ne (eo_call rfl en51 rfl (fun W1 hO => trim_c _ _ _ _ W1 (show Rd _ _ (tab 2 (iv .u32 (litF 0 [(u % 4294967296), (u / 4294967296)]))) from Rd.own_all hO (i := 0) rfl) (by omega) (by omega))) rfl ?_
  refine ne (eo_as rfl rfl) rfl ?_
  refine go_nil ?_
  refine gq_next ?_
  refine gc_ret ?_
  refine gq_results (res1 rfl rfl) ?_
  have hm := word_nm h0 h1
  exact fun W1 hO => rn_own (n := 2) (f := (litF 0 [u % 4294967296, u / 4294967296])) (sp := []) 0 hO rfl tl_le tl_le hm

/-- barscan/bigint.compare -/
theorem cmp_c (x y : Int) (p : NS) (q : NS) (w : World) (hrp : Rd w p.A (tab p.m (iv .u32 p.f))) (hrq : Rd w q.A (tab q.m (iv .u32 q.f))) (hx : Nm x p.m p.f) (hy : Nm y q.m q.f) (h1 : p.m ≤ 512) (_h2 : q.m ≤ 512) :
    Calls Try.prog 44 #[.slice p.A p.m p.c, .slice q.A q.m q.c] w (fun e w' => e = .returned (.int .i64 (cmpZ x y)) ∧ Ext w w') := by
  refine calls_enter (N := ⟨41, []⟩) [] ([]) Try.func44 rfl rfl rfl (Ow.start _) ?_
  refine gc_seq ?_
  refine gc_region ?_
  refine ne (eo_as rfl rfl) rfl ?_
  refine go_nil ?_
  refine gq_next ?_
  refine gc_seq ?_
  refine gc_seq ?_
  refine gc_region ?_
  refine ne (eo_mv rfl rfl) rfl ?_
  refine ne (eo_len rfl Try.underlying52 rfl) rfl ?_
  refine ne (eo_mv rfl rfl) rfl ?_
  refine ne (eo_len rfl Try.underlying52 rfl) rfl ?_
  refine ne (eo_neq rfl rfl rfl) rfl ?_
  refine go_nil ?_
  refine gq_next ?_
  refine gc_cond rfl (fun hc0 => ?_) (fun hc0 => ?_)
  ·
    replace hc0 := of_decide_eq_true hc0
    refine gc_seq ?_
    refine gc_seq ?_
    refine gc_region ?_
    refine ne (eo_mv rfl rfl) rfl ?_
    refine ne (eo_len rfl Try.underlying52 rfl) rfl ?_
    refine ne (eo_mv rfl rfl) rfl ?_
    refine ne (eo_len rfl Try.underlying52 rfl) rfl ?_
    refine ne (eo_lss rfl rfl rfl) rfl ?_
    refine go_nil ?_
    refine gq_next ?_
    refine gc_cond rfl (fun hc1 => ?_) (fun hc1 => ?_)
    ·
      replace hc1 := of_decide_eq_true hc1
      refine gc_seq ?_
      refine gc_region ?_
      refine ne (eo_as rfl rfl) rfl ?_
      refine go_nil ?_
      refine gq_next ?_
      refine gc_ret ?_
      refine gq_then_ret ?_
      refine gq_then_ret ?_
      refine gq_results (res1 rfl rfl) ?_
      exact fun W1 hO => ⟨ret_int ((cmpZ_lt (hx.lt hy (by omega))).symm), hO.toExt⟩
    ·
      replace hc1 := of_decide_eq_false hc1
      refine gc_skip ?_
      refine gq_next ?_
      refine gc_seq ?_
      refine gc_region ?_
      refine ne (eo_as rfl rfl) rfl ?_
      refine go_nil ?_
      refine gq_next ?_
      refine gc_ret ?_
      refine gq_then_ret ?_
      refine gq_results (res1 rfl rfl) ?_
      exact fun W1 hO => ⟨ret_int ((cmpZ_gt (hy.lt hx (by omega))).symm), hO.toExt⟩
  ·
    replace hc0 := of_decide_eq_false hc0
    refine gc_skip ?_
    refine gq_next ?_
    refine gc_seq ?_
    refine gc_seq ?_
    refine gc_region ?_
    refine ne (eo_mv rfl rfl) rfl ?_
    refine ne (eo_len rfl Try.underlying52 rfl) rfl ?_
    refine ne (eo_sub rfl rfl rfl (by omega) (by omega)) rfl ?_
    refine ne (eo_as rfl rfl) rfl ?_
    refine go_nil ?_
    refine gq_next ?_
    refine gc_block ?_
    refine loop1 (fun (k : Nat) => k ≤ p.m ∧ val p.f p.m - val p.f k = val q.f q.m - val q.f k) (fun (k : Nat) => k) (fun (k : Nat) => [(0, .slice p.A p.m p.c), (1, .slice q.A q.m q.c), (5, .int .i64 ((k : Int) - 1))]) (fun (k : Nat) => []) p.m ⟨by omega, by rw [show q.m = p.m by omega]; omega⟩ ⟨rfl, rfl, (look_int rfl (by omega)), trivial⟩ (List.Sublist.refl _) ?_
    rintro k ⟨hk, hI⟩
    refine gc_seq ?_
    refine gc_seq ?_
    refine gc_region ?_
    refine ne (eo_mv rfl rfl) rfl ?_
    refine ne (eo_geq rfl rfl rfl) rfl ?_
    refine go_nil ?_
    refine gq_next ?_
    refine gc_cond rfl (fun hc2 => ?_) (fun hc2 => ?_)
    ·
      replace hc2 := of_decide_eq_true hc2
      have hk1 : ((k : Int) - 1).toNat = k - 1 := by omega
      have hI2 : val p.f p.m - val p.f (k - 1 + 1) = val q.f p.m - val q.f (k - 1 + 1) := by rw [show k - 1 + 1 = k by omega, hI, show q.m = p.m by omega]
      have hqm : Lm p.m q.f := by rw [show p.m = q.m by omega]; exact hy.lm
      have hqe : val q.f p.m = y := by rw [show p.m = q.m by omega]; exact hy.eq
      refine gc_skip ?_
      refine gq_next ?_
      refine gc_seq ?_
      refine gc_block ?_
      refine gc_seq ?_
      refine gc_seq ?_
      refine gc_draw [] [0, 1, 2, 3, 4, 5, 6, 7, 8] [] [] (by kernel_rfl) (by kernel_rfl) ?_
      refine gp_nil ?_
      refine de rfl (eo_mv rfl rfl) rfl ?_
      refine de rfl (eo_mv rfl rfl) rfl ?_
      refine de rfl (eo_indexR rfl sl52 rfl rfl hrp (by simp) (by omega) (by omega)) rfl ?_
      refine de rfl (eo_load_old rfl s72 rfl (Rd.tabi hrp (by omega)) (by simp)) rfl ?_
      refine de rfl (eo_mv rfl rfl) rfl ?_
      refine de rfl (eo_mv rfl rfl) rfl ?_
      refine de rfl (eo_indexR rfl sl52 rfl rfl hrq (by simp) (by omega) (by omega)) rfl ?_
      refine de rfl (eo_load_old rfl s72 rfl (Rd.tabi hrq (by omega)) (by simp)) rfl ?_
      refine de rfl (eo_lss rfl rfl rfl) rfl ?_
      refine ge_nil ?_
      refine ga_nil ?_
      refine gi_nil ?_
      refine gq_nq ?_
      refine gq_next ?_
      refine gc_cond rfl (fun hc3 => ?_) (fun hc3 => ?_)
      ·
        replace hc3 := of_decide_eq_true hc3
        refine gc_seq ?_
        refine gc_region ?_
        refine ne (eo_as rfl rfl) rfl ?_
        refine go_nil ?_
        refine gq_next ?_
        refine gc_ret ?_
        refine gq_then_ret ?_
        refine gq_block_ret ?_
        refine gq_then_ret ?_
        refine gq_then_ret ?_
        refine gq_block_ret ?_
        refine gq_then_ret ?_
        refine gq_results (res1 rfl rfl) ?_
        exact fun W1 hO => ⟨ret_int ((cmpZ_lt (by rw [← hx.eq, ← hqe]; exact top_lt hx.lm hqm (show k - 1 < p.m by omega) hI2 (by rw [hk1] at hc3; exact hc3))).symm), hO.toExt⟩
      ·
        replace hc3 := of_decide_eq_false hc3
        refine gc_skip ?_
        refine gq_next ?_
        refine gc_seq ?_
        refine gc_draw [] [0, 1, 2, 3, 4, 5, 6, 7, 8] [] [] (by kernel_rfl) (by kernel_rfl) ?_
        refine gp_nil ?_
        refine de rfl (eo_mv rfl rfl) rfl ?_
        refine de rfl (eo_mv rfl rfl) rfl ?_
        refine de rfl (eo_indexR rfl sl52 rfl rfl hrp (by simp) (by omega) (by omega)) rfl ?_
        refine de rfl (eo_load_old rfl s72 rfl (Rd.tabi hrp (by omega)) (by simp)) rfl ?_
        refine de rfl (eo_mv rfl rfl) rfl ?_
        refine de rfl (eo_mv rfl rfl) rfl ?_
        refine de rfl (eo_indexR rfl sl52 rfl rfl hrq (by simp) (by omega) (by omega)) rfl ?_
        refine de rfl (eo_load_old rfl s72 rfl (Rd.tabi hrq (by omega)) (by simp)) rfl ?_
        refine de rfl (eo_gtr rfl rfl rfl) rfl ?_
        refine ge_nil ?_
        refine ga_nil ?_
        refine gi_nil ?_
        refine gq_nq ?_
        refine gq_next ?_
        refine gc_cond rfl (fun hc4 => ?_) (fun hc4 => ?_)
        ·
          replace hc4 := of_decide_eq_true hc4
          refine gc_seq ?_
          refine gc_region ?_
          refine ne (eo_as rfl rfl) rfl ?_
          refine go_nil ?_
          refine gq_next ?_
          refine gc_ret ?_
          refine gq_block_ret ?_
          refine gq_then_ret ?_
          refine gq_then_ret ?_
          refine gq_block_ret ?_
          refine gq_then_ret ?_
          refine gq_results (res1 rfl rfl) ?_
          exact fun W1 hO => ⟨ret_int ((cmpZ_gt (by rw [← hx.eq, ← hqe]; exact top_lt hqm hx.lm (show k - 1 < p.m by omega) hI2.symm (by rw [hk1] at hc4; exact hc4))).symm), hO.toExt⟩
        ·
          replace hc4 := of_decide_eq_false hc4
          refine gc_skip ?_
          refine gq_block_end ?_
          refine gq_next ?_
          refine gc_region ?_
          refine ne (eo_mv rfl rfl) rfl ?_
          refine ne (eo_sub rfl rfl rfl (by omega) (by omega)) rfl ?_
          refine ne (eo_as rfl rfl) rfl ?_
          refine go_nil ?_
          exact round1 (k - 1) ⟨by omega, by rw [show q.m = p.m by omega]; exact top_eq hI2 (by rw [hk1] at hc3; exact hc3) (by rw [hk1] at hc4; exact hc4)⟩ (by omega) ⟨rfl, rfl, (look_int rfl (by omega)), trivial⟩ (List.Sublist.refl _)
    ·
      replace hc2 := of_decide_eq_false hc2
      refine gc_exit ?_
      refine gq_then_exit ?_
      refine gq_then_exit ?_
      refine gq_block_hit ?_
      refine gq_next ?_
      refine gc_seq ?_
      refine gc_region ?_
      refine ne (eo_as rfl rfl) rfl ?_
      refine go_nil ?_
      refine gq_next ?_
      refine gc_ret ?_
      refine gq_results (res1 rfl rfl) ?_
      exact fun W1 hO => ⟨ret_int ((cmpZ_eq (by rw [show k = 0 by omega] at hI; have e := hx.eq; have e2 := hy.eq; simp only [val] at hI; omega)).symm), hO.toExt⟩

end Go.Proofs.Ytcdhbikginpogaa
