/-
  The walks of the functions of packages bigint and threshold and of the document's answers (part D): what each call returns, at every argument.
-/
import Derived.Test.YtcdhbikginpogaaWC
namespace Go.Proofs.Ytcdhbikginpogaa
open Go.RowKit Go.Eng

open Go.Bs
theorem lit52_0 (W : World) : (Instr.buildSlice 52 0 #[]).run Try.prog W = .ok (.slice (some ⟨W.heap.size, 0, none⟩) 0 0) (W.alloc (.cells #[] 72)) := by kernel_rfl
theorem en52 : Ent Try.prog 52 := ent_of Try.func52 (by kernel_rfl) rfl
theorem en45 : Ent Try.prog 45 := ent_of Try.func45 (by kernel_rfl) rfl
theorem en53 : Ent Try.prog 53 := ent_of Try.func53 (by kernel_rfl) rfl

/-- barscan/barscanref02.Trim -/
theorem rtrim_x (z : Int) (A : Option Addr) (n c : Nat) (f : Nat → Int) (w : World) (hr : Rd w A (tab n (iv .u32 f))) (hl : Lm n f) (hz : val f n = z) (hc : n ≤ c) (hnn : n ≤ 1073741824) :
    Calls Try.prog 52 #[.slice A n c] w (fun e w' => ∃ v Hn, e = .returned v ∧ RN z v Hn ∧ Ow [] w w' Hn) := by
  refine calls_enter (N := ⟨23, []⟩) [] ([]) Try.func52 rfl rfl rfl (Ow.start _) ?_
  refine gc_seq ?_
  refine gc_region ?_
  refine ne (eo_as rfl rfl) rfl ?_
  refine go_nil ?_
  refine gq_next ?_
  refine gc_seq ?_
  refine gc_region ?_
  refine ne (eo_mv rfl rfl) rfl ?_
  refine ne (eo_len rfl Try.underlying52 rfl) rfl ?_
  refine ne (eo_as rfl rfl) rfl ?_
  refine go_nil ?_
  refine gq_next ?_
  refine gc_seq ?_
  refine gc_block ?_
  refine loop1 (fun (k : Nat) => k ≤ n ∧ tl f n = tl f k) (fun (k : Nat) => k) (fun (k : Nat) => [(0, .slice A n c), (3, .int .i64 (k : Int))]) (fun (k : Nat) => []) n ⟨by omega, rfl⟩ ⟨rfl, rfl, trivial⟩ (List.Sublist.refl _) ?_
  rintro k ⟨hk, hI⟩
  refine gc_seq ?_
  refine gc_seq ?_
  refine gc_region ?_
  refine ne (eo_mv rfl rfl) rfl ?_
  refine ne (eo_gtr rfl rfl rfl) rfl ?_
  refine ne (eo_mv rfl rfl) rfl ?_
  refine ng rfl rfl (fun h => eo_mv rfl rfl) rfl ?_
  refine ng rfl rfl (fun h => eo_mv rfl rfl) rfl ?_
  refine ng rfl rfl (fun h => eo_sub rfl (ev_if h rfl) rfl (by have hg0 := of_decide_eq_true h; omega) (by have hg0 := of_decide_eq_true h; omega)) rfl ?_
  refine ng rfl rfl (fun h => eo_indexR rfl sl52 (ev_if h rfl) (ev_if h rfl) hr (by simp) (by have hg0 := of_decide_eq_true h; omega) (by have hg0 := of_decide_eq_true h; omega)) rfl ?_
  refine ng rfl rfl (fun h => eo_load_old rfl s72 (ev_if h rfl) (Rd.tabi hr (by have hg0 := of_decide_eq_true h; omega)) (by simp)) rfl ?_
  refine ng rfl rfl (fun h => eo_eql rfl (ev_if h rfl) rfl) rfl ?_
  refine ne (eo_and rfl rfl (fun hb => ev_if hb rfl)) rfl ?_
  refine go_nil ?_
  refine gq_next ?_
  refine gc_cond rfl (fun hc0 => ?_) (fun hc0 => ?_)
  ·
    have hd0 := (and_t hc0).imp (fun h => of_decide_eq_true h) (fun h => of_decide_eq_true h)
    refine gc_skip ?_
    refine gq_next ?_
    refine gc_block ?_
    refine gc_region ?_
    refine ne (eo_mv rfl rfl) rfl ?_
    refine ne (eo_sub rfl rfl rfl (by omega) (by omega)) rfl ?_
    refine ne (eo_as rfl rfl) rfl ?_
    refine go_nil ?_
    refine gq_block_end ?_
    exact round1 (k - 1) ⟨by omega, by rw [hI]; exact tl_drop (by have e := hd0.2; rwa [show ((k : Int) - 1).toNat = k - 1 by omega] at e) (by omega)⟩ (by omega) ⟨rfl, (look_int rfl (by omega)), trivial⟩ (List.Sublist.refl _)
  ·
    have hd0 := (and_f hc0).imp (fun h => of_decide_eq_false h) (fun h => of_decide_eq_false h)
    have hkt : k = tl f n := by
      rw [hI]
      refine (tl_stop ?_).symm
      by_cases e : k = 0
      · exact .inl e
      · refine .inr fun e2 => (hd0.elim (fun h => h (by omega)) fun h => h ?_)
        rwa [show ((k : Int) - 1).toNat = k - 1 by omega]
    refine gc_exit ?_
    refine gq_then_exit ?_
    refine gq_then_exit ?_
    refine gq_block_hit ?_
    refine gq_next ?_
    refine gc_seq ?_
    refine gc_region ?_
    refine nx (xo_lit rfl rfl lit52_0) rfl ?_
    rintro _ _ ⟨g18, rfl, rfl⟩
    refine ne (eo_mv rfl rfl) rfl ?_
    refine ne (eo_mv rfl rfl) rfl ?_
    refine ne (eo_slH rfl sl52 rfl rfl (by omega) (by omega)) rfl ?_
    refine nx (xo_grabS (F := (iv .u32 f)) rfl Try.underlying52 e72.toN rfl rfl (fun W1 hO => (Rd.pre (hr.old0 hO) (by omega))) tab_onei (by omega) (by decide)) rfl ?_
    rintro _ _ ⟨s22, hs22, rfl, rfl⟩
    refine ne (eo_as rfl rfl) rfl ?_
    refine go_nil ?_
    refine gq_next ?_
    refine gc_ret ?_
    refine gq_results (res1 rfl rfl) ?_
    exact fun W1 hO => rn_as 0 hO rfl hs22 hkt hl hz

/-- barscan/barscanref02.signed -/
theorem signed_x (z : Int) (b : Bool) (A : Option Addr) (n c : Nat) (f : Nat → Int) (w : World) (hr : Rd w A (tab n (iv .u32 f))) (hl : Lm n f) (hz : val f n = nab z) (hb : z ≠ 0 → b = decide (z < 0)) (hc : n ≤ c) (hnn : n ≤ 512) :
    Calls Try.prog 45 #[.bool b, .slice A n c] w (fun e w' => ∃ v Hn, e = .returned v ∧ RI z v Hn ∧ Ow [] w w' Hn) := by
  refine calls_enter (N := ⟨16, []⟩) [] ([]) Try.func45 rfl rfl rfl (Ow.start _) ?_
  refine gc_seq ?_
  refine gc_region ?_
  refine nx (xo_alloc rfl z54) rfl ?_
  rintro _ _ ⟨g4, rfl, rfl⟩
  refine go_nil ?_
  refine gq_next ?_
  refine gc_seq ?_
  refine gc_region ?_
  refine ne (eo_mv rfl rfl) rfl ?_
  refine nx (xo_freshT rfl en52 rfl (fun W1 hO => rtrim_x _ _ _ _ _ W1 (hr.old0 hO) hl hz (by omega) (by omega))) rfl ?_
  rintro _ _ ⟨S7, ⟨p7, rfl, hp7⟩, rfl⟩
  refine ne (eo_as rfl rfl) rfl ?_
  refine go_nil ?_
  refine gq_next ?_
  refine gc_seq ?_
  refine gc_region ?_
  refine ne (eo_mv rfl rfl) rfl ?_
  refine ne (eo_mv rfl rfl) rfl ?_
  refine ng rfl rfl (fun h => eo_mv rfl rfl) rfl ?_
  refine ng rfl rfl (fun h => eo_len rfl Try.underlying52 (ev_if h rfl)) rfl ?_
  refine ng rfl rfl (fun h => eo_gtr rfl (ev_if h rfl) rfl) rfl ?_
  refine ne (eo_and rfl rfl (fun hb => ev_if hb rfl)) rfl ?_
  refine ne (eo_mv rfl rfl) rfl ?_
  refine ne (eo_build rfl rfl (b54_01 _ _ _ _)) rfl ?_
  refine nu (xo_storeA 0 rfl a54 rfl rfl (ones_cons (by first | rfl | exact AS.one) (ones_cons (by first | rfl | exact AS.one) ones_nil)) rfl rfl rfl rfl) ?_
  rintro _ _ ⟨rfl, rfl⟩
  refine go_nil ?_
  refine gq_next ?_
  refine gc_ret ?_
  refine gq_results (resC 0 rfl a54 rfl rfl rfl rfl) ?_
  exact fun W1 hO => ri_pass (hO.tl 1 rfl (List.Sublist.refl _)) hp7 (sign_lt hp7 hb)

/-- barscan/barscanref02.limit -/
theorem limit_x (z : Int) (b : Bool) (A : Option Addr) (n c : Nat) (f : Nat → Int) (w : World) (hr : Rd w A (tab n (iv .u32 f))) (hl : Lm n f) (hz : val f n = nab z) (hb : z ≠ 0 → b = decide (z < 0)) (hc : n ≤ c) (hnn : n ≤ 512) (h5 : nab z ≤ 10000000000000000000000000000000000000000) :
    Calls Try.prog 47 #[.bool b, .slice A n c] w (fun e w' => ∃ v Hn, e = .returned v ∧ RIE z v Hn ∧ Ow [] w w' Hn) := by
  refine calls_enter (N := ⟨16, []⟩) [] ([]) Try.func47 rfl rfl rfl (Ow.start _) ?_
  refine gc_seq ?_
  refine gc_region ?_
  refine nx (xo_alloc rfl z54) rfl ?_
  rintro _ _ ⟨g4, rfl, rfl⟩
  refine ne (eo_as rfl rfl) rfl ?_
  refine go_nil ?_
  refine gq_next ?_
  refine gc_seq ?_
  refine gc_region ?_
  refine ne (eo_mv rfl rfl) rfl ?_
  refine ne (eo_mv rfl rfl) rfl ?_
  refine nx (xo_freshT rfl en45 rfl (fun W1 hO => signed_x z _ _ _ _ _ W1 (hr.old0 hO) hl hz hb (by omega) (by omega))) rfl ?_
  rintro _ _ ⟨S9, ⟨p9, rfl, hp9⟩, rfl⟩
  refine nx (xo_alloc rfl z54) rfl ?_
  rintro _ _ ⟨g6, rfl, rfl⟩
  refine nu (xo_storeA 0 rfl a54 rfl rfl (ones_cons (by first | rfl | exact AS.one) (ones_cons (by first | rfl | exact AS.one) ones_nil)) rfl rfl rfl rfl) ?_
  rintro _ _ ⟨rfl, rfl⟩
  refine go_nil ?_
  refine gq_next ?_
  refine gc_seq ?_
  refine gc_seq ?_
  refine gc_region ?_
  refine ne (eo_field rfl f54_1 rfl) rfl ?_
  refine ne (eo_load 0 rfl s52 rfl rfl rfl rfl) rfl ?_
  refine ne (eo_len rfl Try.underlying52 rfl) rfl ?_
  refine ne (eo_gtr rfl rfl rfl) rfl ?_
  refine go_nil ?_
  refine gq_next ?_
  refine gc_cond rfl (fun hc0 => ?_) (fun hc0 => ?_)
  ·
    replace hc0 := of_decide_eq_true hc0
    exfalso; have := hp9.nm.few h5; omega
  ·
    replace hc0 := of_decide_eq_false hc0
    refine gc_skip ?_
    refine gq_next ?_
    refine gc_seq ?_
    refine gc_region ?_
    refine ne (eo_loadA 0 rfl a54 rfl rfl rfl rfl) rfl ?_
    refine nu (xo_storeA 1 rfl a54 rfl rfl (ones_cons (by first | rfl | exact AS.one) (ones_cons (by first | rfl | exact AS.one) ones_nil)) rfl rfl rfl rfl) ?_
    rintro _ _ ⟨rfl, rfl⟩
    refine ne (eo_as rfl rfl) rfl ?_
    refine go_nil ?_
    refine gq_next ?_
    refine gc_ret ?_
    refine gq_results (resCT 1 rfl a54 rfl rfl rfl rfl rfl) ?_
    exact fun W1 hO => rie_pass (hO.tl 2 rfl (List.Sublist.refl _)) hp9 rfl

/-- barscan/barscanref02.limb -/
theorem limb_c (A : Option Addr) (n c : Nat) (f : Nat → Int) (i : Int) (w : World) (hr : Rd w A (tab n (iv .u32 f))) (i0 : 0 ≤ i) (hl : Lm n f) :
    Calls Try.prog 53 #[.slice A n c, .int .i64 i] w (fun e w' => e = .returned (.int .u64 (exF n f i.toNat)) ∧ Ext w w') := by
  have hli : i < n → 0 ≤ f i.toNat ∧ f i.toNat ≤ 4294967295 := fun h => hl i.toNat (by omega)
  refine calls_enter (N := ⟨14, []⟩) [] ([]) Try.func53 rfl rfl rfl (Ow.start _) ?_
  refine gc_seq ?_
  refine gc_region ?_
  refine ne (eo_as rfl rfl) rfl ?_
  refine go_nil ?_
  refine gq_next ?_
  refine gc_seq ?_
  refine gc_seq ?_
  refine gc_region ?_
  refine ne (eo_mv rfl rfl) rfl ?_
  refine ne (eo_mv rfl rfl) rfl ?_
  refine ne (eo_len rfl Try.underlying52 rfl) rfl ?_
  refine ne (eo_lss rfl rfl rfl) rfl ?_
  refine go_nil ?_
  refine gq_next ?_
  refine gc_cond rfl (fun hc0 => ?_) (fun hc0 => ?_)
  ·
    replace hc0 := of_decide_eq_true hc0
    refine gc_seq ?_
    refine gc_region ?_
    refine ne (eo_mv rfl rfl) rfl ?_
    refine ne (eo_mv rfl rfl) rfl ?_
    refine ne (eo_indexR rfl sl52 rfl rfl hr (by simp) (by omega) (by omega)) rfl ?_
    refine ne (eo_load_old rfl s72 rfl (Rd.tabi hr (by omega)) (by simp)) rfl ?_
    refine ne (eo_convk rfl rfl ⟨_, Try.underlying72⟩ Try.underlying67 (u64_in (by omega) (by omega))) rfl ?_
    refine ne (eo_as rfl rfl) rfl ?_
    refine go_nil ?_
    refine gq_next ?_
    refine gc_ret ?_
    refine gq_then_ret ?_
    refine gq_results (res1 rfl rfl) ?_
    exact fun W1 hO => ⟨congrArg (fun z => Ending.returned (Value.int .u64 z)) (by unfold exF; rw [if_pos (by omega)]), hO.toExt⟩
  ·
    replace hc0 := of_decide_eq_false hc0
    refine gc_skip ?_
    refine gq_next ?_
    refine gc_seq ?_
    refine gc_region ?_
    refine ne (eo_as rfl rfl) rfl ?_
    refine go_nil ?_
    refine gq_next ?_
    refine gc_ret ?_
    refine gq_results (res1 rfl rfl) ?_
    exact fun W1 hO => ⟨congrArg (fun z => Ending.returned (Value.int .u64 z)) (by unfold exF; rw [if_neg (by omega)]), hO.toExt⟩

/-- barscan/barscanref02.order -/
theorem order_c (x y : Int) (p : NS) (q : NS) (w : World) (hrp : Rd w p.A (tab p.m (iv .u32 p.f))) (hrq : Rd w q.A (tab q.m (iv .u32 q.f))) (hx : Nm x p.m p.f) (hy : Nm y q.m q.f) (h1 : p.m ≤ 512) (h2 : q.m ≤ 512) :
    Calls Try.prog 49 #[.slice p.A p.m p.c, .slice q.A q.m q.c] w (fun e w' => e = .returned (.int .i64 (cmpZ x y)) ∧ Ext w w') := by
  have hmx : p.m ≤ (max ((p.m : Nat) : Int) ((q.m : Nat) : Int)).toNat ∧ q.m ≤ (max ((p.m : Nat) : Int) ((q.m : Nat) : Int)).toNat ∧ (max ((p.m : Nat) : Int) ((q.m : Nat) : Int)).toNat ≤ 512 := by omega
  refine calls_enter (N := ⟨32, []⟩) [] ([]) Try.func49 rfl rfl rfl (Ow.start _) ?_
  refine gc_seq ?_
  refine gc_region ?_
  refine ne (eo_as rfl rfl) rfl ?_
  refine go_nil ?_
  refine gq_next ?_
  refine gc_seq ?_
  refine gc_region ?_
  refine ne (eo_mv rfl rfl) rfl ?_
  refine ne (eo_len rfl Try.underlying52 rfl) rfl ?_
  refine ne (eo_mv rfl rfl) rfl ?_
  refine ne (eo_len rfl Try.underlying52 rfl) rfl ?_
  refine ne (eo_max rfl rfl rfl) rfl ?_
  refine ne (eo_as rfl rfl) rfl ?_
  refine go_nil ?_
  refine gq_next ?_
  refine gc_seq ?_
  refine gc_seq ?_
  refine gc_region ?_
  refine ne (eo_mv rfl rfl) rfl ?_
  refine ne (eo_sub rfl rfl rfl (by omega) (by omega)) rfl ?_
  refine ne (eo_as rfl rfl) rfl ?_
  refine go_nil ?_
  refine gq_next ?_
  refine gc_block ?_
  refine loop1 (fun (k : Nat) => k ≤ (max ((p.m : Nat) : Int) ((q.m : Nat) : Int)).toNat ∧ val (exF p.m p.f) ((max ((p.m : Nat) : Int) ((q.m : Nat) : Int)).toNat) - val (exF p.m p.f) k = val (exF q.m q.f) ((max ((p.m : Nat) : Int) ((q.m : Nat) : Int)).toNat) - val (exF q.m q.f) k) (fun (k : Nat) => k) (fun (k : Nat) => [(0, .slice p.A p.m p.c), (1, .slice q.A q.m q.c), (6, .int .i64 ((k : Int) - 1))]) (fun (k : Nat) => []) ((max ((p.m : Nat) : Int) ((q.m : Nat) : Int)).toNat) ⟨Nat.le_refl _, by omega⟩ ⟨rfl, rfl, (look_int rfl (by omega)), trivial⟩ (List.Sublist.refl _) ?_
  rintro k ⟨hk, hI⟩
  refine gc_seq ?_
  refine gc_seq ?_
  refine gc_region ?_
  refine ne (eo_mv rfl rfl) rfl ?_
  refine ne (eo_geq rfl rfl rfl) rfl ?_
  refine go_nil ?_
  refine gq_next ?_
  refine gc_cond rfl (fun hc0 => ?_) (fun hc0 => ?_)
  ·
    replace hc0 := of_decide_eq_true hc0
    have hk1 : ((k : Int) - 1).toNat = k - 1 := by omega
    have hI2 : val (exF p.m p.f) ((max ((p.m : Nat) : Int) ((q.m : Nat) : Int)).toNat) - val (exF p.m p.f) (k - 1 + 1) = val (exF q.m q.f) ((max ((p.m : Nat) : Int) ((q.m : Nat) : Int)).toNat) - val (exF q.m q.f) (k - 1 + 1) := by rw [show k - 1 + 1 = k by omega]; exact hI
    refine gc_skip ?_
    refine gq_next ?_
    refine gc_seq ?_
    refine gc_block ?_
    refine gc_seq ?_
    refine gc_seq ?_
    refine gc_region ?_
    refine ne (eo_mv rfl rfl) rfl ?_
    refine ne (eo_mv rfl rfl) rfl ?_
    refine ne (eo_call rfl en53 rfl (fun W1 hO => limb_c _ _ _ _ _ W1 (hrp.old0 hO) (by omega) hx.lm)) rfl ?_
    refine ne (eo_mv rfl rfl) rfl ?_
    refine ne (eo_mv rfl rfl) rfl ?_
    refine ne (eo_call rfl en53 rfl (fun W1 hO => limb_c _ _ _ _ _ W1 (hrq.old0 hO) (by omega) hy.lm)) rfl ?_
    refine ne (eo_lss rfl rfl rfl) rfl ?_
    refine go_nil ?_
    refine gq_next ?_
    refine gc_cond rfl (fun hc1 => ?_) (fun hc1 => ?_)
    ·
      replace hc1 := of_decide_eq_true hc1
      refine gc_seq ?_
      refine gc_region ?_
      refine ne (eo_as rfl rfl) rfl ?_
      refine go_nil ?_
      refine gq_next ?_
      refine gc_ret ?_
      refine gq_then_ret ?_
      refine gq_block_ret ?_
      refine gq_then_ret ?_
      refine gq_then_ret ?_
      refine gq_block_ret ?_
      refine gq_then_ret ?_
      refine gq_results (res1 rfl rfl) ?_
      exact fun W1 hO => ⟨ret_int ((cmpZ_lt (cmpx_lt hx hy hmx.1 hmx.2.1 (show k - 1 < _ by omega) hI2 (by rw [hk1] at hc1; exact hc1))).symm), hO.toExt⟩
    ·
      replace hc1 := of_decide_eq_false hc1
      refine gc_skip ?_
      refine gq_next ?_
      refine gc_seq ?_
      refine gc_region ?_
      refine ne (eo_mv rfl rfl) rfl ?_
      refine ne (eo_mv rfl rfl) rfl ?_
      refine ne (eo_call rfl en53 rfl (fun W1 hO => limb_c _ _ _ _ _ W1 (hrp.old0 hO) (by omega) hx.lm)) rfl ?_
      refine ne (eo_mv rfl rfl) rfl ?_
      refine ne (eo_mv rfl rfl) rfl ?_
      refine ne (eo_call rfl en53 rfl (fun W1 hO => limb_c _ _ _ _ _ W1 (hrq.old0 hO) (by omega) hy.lm)) rfl ?_
      refine ne (eo_gtr rfl rfl rfl) rfl ?_
      refine go_nil ?_
      refine gq_next ?_
      refine gc_cond rfl (fun hc2 => ?_) (fun hc2 => ?_)
      ·
        replace hc2 := of_decide_eq_true hc2
        refine gc_seq ?_
        refine gc_region ?_
        refine ne (eo_as rfl rfl) rfl ?_
        refine go_nil ?_
        refine gq_next ?_
        refine gc_ret ?_
        refine gq_block_ret ?_
        refine gq_then_ret ?_
        refine gq_then_ret ?_
        refine gq_block_ret ?_
        refine gq_then_ret ?_
        refine gq_results (res1 rfl rfl) ?_
        exact fun W1 hO => ⟨ret_int ((cmpZ_gt (cmpx_lt hy hx hmx.2.1 hmx.1 (show k - 1 < _ by omega) hI2.symm (by rw [hk1] at hc2; exact hc2))).symm), hO.toExt⟩
      ·
        replace hc2 := of_decide_eq_false hc2
        refine gc_skip ?_
        refine gq_block_end ?_
        refine gq_next ?_
        refine gc_region ?_
        refine ne (eo_mv rfl rfl) rfl ?_
        refine ne (eo_sub rfl rfl rfl (by omega) (by omega)) rfl ?_
        refine ne (eo_as rfl rfl) rfl ?_
        refine go_nil ?_
        exact round1 (k - 1) ⟨by omega, top_eq hI2 (by rw [hk1] at hc1; exact hc1) (by rw [hk1] at hc2; exact hc2)⟩ (by omega) ⟨rfl, rfl, (look_int rfl (by omega)), trivial⟩ (List.Sublist.refl _)
  ·
    replace hc0 := of_decide_eq_false hc0
    refine gc_exit ?_
    refine gq_then_exit ?_
    refine gq_then_exit ?_
    refine gq_block_hit ?_
    refine gq_next ?_
    refine gc_seq ?_
    refine gc_region ?_
    refine ne (eo_as rfl rfl) rfl ?_
    refine go_nil ?_
    refine gq_next ?_
    refine gc_ret ?_
    refine gq_results (res1 rfl rfl) ?_
    exact fun W1 hO => ⟨ret_int ((cmpZ_eq (cmpx_eq hx hy hmx.1 hmx.2.1 (by rw [show k = 0 by omega] at hI; exact hI))).symm), hO.toExt⟩

/-- barscan/barscanref02.times -/
theorem times_x (x y : Int) (p : NS) (q : NS) (w : World) (hrp : Rd w p.A (tab p.m (iv .u32 p.f))) (hrq : Rd w q.A (tab q.m (iv .u32 q.f))) (hx : Nm x p.m p.f) (hy : Nm y q.m q.f) (h1 : p.m ≤ 512) (h2 : q.m ≤ 512) :
    Calls Try.prog 48 #[.slice p.A p.m p.c, .slice q.A q.m q.c] w (fun e w' => ∃ v Hn, e = .returned v ∧ RN (x * y) v Hn ∧ Ow [] w w' Hn) := by
  refine calls_enter (N := ⟨69, []⟩) [] ([]) Try.func48 rfl rfl rfl (Ow.start _) ?_
  refine gc_seq ?_
  refine gc_region ?_
  refine ne (eo_as rfl rfl) rfl ?_
  refine go_nil ?_
  refine gq_next ?_
  refine gc_seq ?_
  refine gc_region ?_
  refine ne (eo_mv rfl rfl) rfl ?_
  refine ne (eo_len rfl Try.underlying52 rfl) rfl ?_
  refine ne (eo_mv rfl rfl) rfl ?_
  refine ne (eo_len rfl Try.underlying52 rfl) rfl ?_
  refine ne (eo_add rfl rfl rfl (by omega) (by omega)) rfl ?_
  refine nx (xo_makei rfl Try.underlying52 e72 rfl rfl (by omega) (by omega) (by omega)) rfl ?_
  rintro _ _ ⟨g15, rfl, rfl⟩
  refine ne (eo_as rfl rfl) rfl ?_
  refine go_nil ?_
  refine gq_next ?_
  refine gc_seq ?_
  refine gc_seq ?_
  refine gc_region ?_
  refine ne (eo_as rfl rfl) rfl ?_
  refine go_nil ?_
  refine gq_next ?_
  refine gc_block ?_
  refine loop2 (fun (i : Nat) (f1 : Nat → Int) => i ≤ p.m ∧ Mo p.f p.m q.f q.m i f1) (fun (i : Nat) (f1 : Nat → Int) => p.m - i) (fun (i : Nat) (f1 : Nat → Int) => [(0, .slice p.A p.m p.c), (1, .slice q.A q.m q.c), (5, .slice (some ⟨g15, 0, none⟩) (((((p.m : Nat) : Int) + ((q.m : Nat) : Int))).toNat) (((((p.m : Nat) : Int) + ((q.m : Nat) : Int))).toNat)), (6, .int .i64 (i : Int))]) (fun (i : Nat) (f1 : Nat → Int) => [⟨g15, 72, tab (((((p.m : Nat) : Int) + ((q.m : Nat) : Int))).toNat) (iv .u32 f1) ++ []⟩]) 0 (fun _ => 0) ⟨by omega, mo_new⟩ ⟨rfl, rfl, rfl, rfl, trivial⟩ (List.Sublist.refl _) ?_
  rintro i f1 ⟨hi, hI⟩
  refine gc_seq ?_
  refine gc_seq ?_
  refine gc_region ?_
  refine ne (eo_mv rfl rfl) rfl ?_
  refine ne (eo_mv rfl rfl) rfl ?_
  refine ne (eo_len rfl Try.underlying52 rfl) rfl ?_
  refine ne (eo_lss rfl rfl rfl) rfl ?_
  refine go_nil ?_
  refine gq_next ?_
  refine gc_cond rfl (fun hc0 => ?_) (fun hc0 => ?_)
  ·
    replace hc0 := of_decide_eq_true hc0
    refine gc_skip ?_
    refine gq_next ?_
    refine gc_seq ?_
    refine gc_block ?_
    refine gc_seq ?_
    refine gc_region ?_
    refine ne (eo_as rfl rfl) rfl ?_
    refine go_nil ?_
    refine gq_next ?_
    refine gc_seq ?_
    refine gc_seq ?_
    refine gc_region ?_
    refine ne (eo_as rfl rfl) rfl ?_
    refine go_nil ?_
    refine gq_next ?_
    refine gc_block ?_
    refine loop3 (fun (j : Nat) (cy : Int) (f1 : Nat → Int) => j ≤ q.m ∧ Mi p.f p.m q.f q.m i j cy f1) (fun (j : Nat) (cy : Int) (f1 : Nat → Int) => q.m - j) (fun (j : Nat) (cy : Int) (f1 : Nat → Int) => [(0, .slice p.A p.m p.c), (1, .slice q.A q.m q.c), (5, .slice (some ⟨g15, 0, none⟩) (((((p.m : Nat) : Int) + ((q.m : Nat) : Int))).toNat) (((((p.m : Nat) : Int) + ((q.m : Nat) : Int))).toNat)), (6, .int .i64 (i : Int)), (7, .int .u64 cy), (8, .int .i64 (j : Int))]) (fun (j : Nat) (cy : Int) (f1 : Nat → Int) => [⟨g15, 72, tab (((((p.m : Nat) : Int) + ((q.m : Nat) : Int))).toNat) (iv .u32 f1) ++ []⟩]) 0 0 f1 ⟨by omega, mi_new hI⟩ ⟨rfl, rfl, rfl, rfl, rfl, rfl, trivial⟩ (List.Sublist.refl _) ?_
    rintro j cy f1 ⟨hj, hI⟩
    have hcb := hI.cb
    refine gc_seq ?_
    refine gc_seq ?_
    refine gc_region ?_
    refine ne (eo_mv rfl rfl) rfl ?_
    refine ne (eo_mv rfl rfl) rfl ?_
    refine ne (eo_len rfl Try.underlying52 rfl) rfl ?_
    refine ne (eo_lss rfl rfl rfl) rfl ?_
    refine go_nil ?_
    refine gq_next ?_
    refine gc_cond rfl (fun hc1 => ?_) (fun hc1 => ?_)
    ·
      replace hc1 := of_decide_eq_true hc1
      have hxb := hx.lm (i : Int).toNat (by omega)
      have hyb := hy.lm (j : Int).toNat (by omega)
      have hmb := mul_lm hxb hyb
      have hpb := hI.lm ((i : Int) + (j : Int)).toNat (by omega)
      have eij : ((i : Int) + (j : Int)).toNat = i + j := by omega
      refine gc_skip ?_
      refine gq_next ?_
      refine gc_seq ?_
      refine gc_block ?_
      refine gc_seq ?_
      refine gc_draw [] [0, 1, 2, 3, 4, 5, 6, 7, 8, 9, 10, 11, 12, 13, 14, 15, 16, 17, 18, 19, 20, 21] [] [] (by kernel_rfl) (by kernel_rfl) ?_
      refine gp_nil ?_
      refine de rfl (eo_mv rfl rfl) rfl ?_
      refine de rfl (eo_mv rfl rfl) rfl ?_
      refine de rfl (eo_indexR rfl sl52 rfl rfl hrp (by simp) (by omega) (by omega)) rfl ?_
      refine de rfl (eo_load_old rfl s72 rfl (Rd.tabi hrp (by omega)) (by simp)) rfl ?_
      refine de rfl (eo_convk rfl rfl ⟨_, Try.underlying72⟩ Try.underlying67 (u64_in (by omega) (by omega))) rfl ?_
      refine de rfl (eo_mv rfl rfl) rfl ?_
      refine de rfl (eo_mv rfl rfl) rfl ?_
      refine de rfl (eo_indexR rfl sl52 rfl rfl hrq (by simp) (by omega) (by omega)) rfl ?_
      refine de rfl (eo_load_old rfl s72 rfl (Rd.tabi hrq (by omega)) (by simp)) rfl ?_
      refine de rfl (eo_convk rfl rfl ⟨_, Try.underlying72⟩ Try.underlying67 (u64_in (by omega) (by omega))) rfl ?_
      refine de rfl (eo_mulk rfl rfl rfl (u64_in (by omega) (by omega))) rfl ?_
      refine de rfl (eo_mv rfl rfl) rfl ?_
      refine de rfl (eo_mv rfl rfl) rfl ?_
      refine de rfl (eo_mv rfl rfl) rfl ?_
      refine de rfl (eo_add rfl rfl rfl (by omega) (by omega)) rfl ?_
      refine de rfl (eo_index0 rfl sl52 rfl rfl (by omega) (by omega)) rfl ?_
      refine de rfl (eo_geti 0 rfl s72 rfl rfl (by omega)) rfl ?_
      refine de rfl (eo_convk rfl rfl ⟨_, Try.underlying72⟩ Try.underlying67 (u64_in (by omega) (by omega))) rfl ?_
      refine de rfl (eo_addk rfl rfl rfl (u64_in (by omega) (by omega))) rfl ?_
      refine de rfl (eo_mv rfl rfl) rfl ?_
      refine de rfl (eo_addk rfl rfl rfl (u64_in (by omega) (by omega))) rfl ?_
      refine de rfl (eo_as rfl rfl) rfl ?_
      refine ge_nil ?_
      refine ga_nil ?_
      refine gi_nil ?_
      refine gq_nq ?_
      refine gq_next ?_
      refine gc_seq ?_
      refine gc_region ?_
      refine ne (eo_mv rfl rfl) rfl ?_
      refine ne (eo_mv rfl rfl) rfl ?_
      refine ne (eo_mv rfl rfl) rfl ?_
      refine ne (eo_add rfl rfl rfl (by omega) (by omega)) rfl ?_
      refine ne (eo_mv rfl rfl) rfl ?_
      refine ne (eo_remk rfl rfl rfl (by omega) (by omega)) rfl ?_
      refine ne (eo_convk rfl rfl ⟨_, Try.underlying67⟩ Try.underlying72 (u32_in (by omega) (by omega))) rfl ?_
      refine ne (eo_index0 rfl sl52 rfl rfl (by omega) (by omega)) rfl ?_
      refine nu (xo_seti 0 rfl s72 rfl rfl rfl (by omega)) ?_
      rintro _ _ ⟨rfl, rfl⟩
      refine go_nil ?_
      refine gq_next ?_
      refine gc_region ?_
      refine ne (eo_mv rfl rfl) rfl ?_
      refine ne (eo_quow rfl rfl rfl (by omega) (by decide) (by omega)) rfl ?_
      refine ne (eo_as rfl rfl) rfl ?_
      refine go_nil ?_
      refine gq_block_end ?_
      refine gq_next ?_
      refine gc_region ?_
      refine ne (eo_mv rfl rfl) rfl ?_
      refine ne (eo_add rfl rfl rfl (by omega) (by omega)) rfl ?_
      refine ne (eo_as rfl rfl) rfl ?_
      refine go_nil ?_
      exact round3 (j + 1) (((((p.f (i)) * (q.f (j))) + (f1 ((((i : Int) + (j : Int))).toNat))) + cy) / 4294967296) (upd f1 ((((i : Int) + (j : Int))).toNat) (((((p.f (i)) * (q.f (j))) + (f1 ((((i : Int) + (j : Int))).toNat))) + cy) % 4294967296)) ⟨by omega, by rw [eij]; exact mi_step hI hx.lm hy.lm (by omega) (by omega) rfl rfl⟩ (by omega) ⟨rfl, rfl, rfl, rfl, rfl, rfl, trivial⟩ (List.Sublist.refl _)
    ·
      replace hc1 := of_decide_eq_false hc1
      refine gc_exit ?_
      refine gq_then_exit ?_
      refine gq_then_exit ?_
      refine gq_block_hit ?_
      refine gq_next ?_
      refine gc_region ?_
      refine ne (eo_mv rfl rfl) rfl ?_
      refine ne (eo_mv rfl rfl) rfl ?_
      refine ne (eo_mv rfl rfl) rfl ?_
      refine ne (eo_len rfl Try.underlying52 rfl) rfl ?_
      refine ne (eo_add rfl rfl rfl (by omega) (by omega)) rfl ?_
      refine ne (eo_mv rfl rfl) rfl ?_
      refine ne (eo_convk rfl rfl ⟨_, Try.underlying67⟩ Try.underlying72 (u32_in (by omega) (by omega))) rfl ?_
      refine ne (eo_index0 rfl sl52 rfl rfl (by omega) (by omega)) rfl ?_
      refine nu (xo_seti 0 rfl s72 rfl rfl rfl (by omega)) ?_
      rintro _ _ ⟨rfl, rfl⟩
      refine go_nil ?_
      refine gq_block_end ?_
      refine gq_next ?_
      refine gc_region ?_
      refine ne (eo_mv rfl rfl) rfl ?_
      refine ne (eo_add rfl rfl rfl (by omega) (by omega)) rfl ?_
      refine ne (eo_as rfl rfl) rfl ?_
      refine go_nil ?_
      exact round2 (i + 1) (upd f1 ((((i : Int) + ((q.m : Nat) : Int))).toNat) cy) ⟨by omega, by rw [show ((i : Int) + ((q.m : Nat) : Int)).toNat = i + q.m by omega]; exact mo_step (by rwa [show j = q.m by omega] at hI) (by omega)⟩ (by omega) ⟨rfl, rfl, rfl, rfl, trivial⟩ (List.Sublist.refl _)
  ·
    replace hc0 := of_decide_eq_false hc0
    have hI9 := hI
    rw [show i = p.m by omega] at hI9
    have hz9 : val f1 (((p.m : Nat) : Int) + ((q.m : Nat) : Int)).toNat = x * y := by rw [show (((p.m : Nat) : Int) + ((q.m : Nat) : Int)).toNat = p.m + q.m by omega, hI9.eq, hx.eq, hy.eq]
    have hl9 : Lm (((p.m : Nat) : Int) + ((q.m : Nat) : Int)).toNat f1 := by rw [show (((p.m : Nat) : Int) + ((q.m : Nat) : Int)).toNat = p.m + q.m by omega]; exact hI9.lm
    refine gc_exit ?_
    refine gq_then_exit ?_
    refine gq_then_exit ?_
    refine gq_block_hit ?_
    refine gq_next ?_
    refine gc_seq ?_
    refine gc_region ?_
    refine ne (eo_mv rfl rfl) rfl ?_
    refine nx (xo_freshT rfl en52 rfl (fun W1 hO => rtrim_x _ _ _ _ _ W1 (tabs_rd hO 0 rfl) hl9 hz9 (by omega) (by omega))) rfl ?_
    rintro _ _ ⟨S68, ⟨p68, rfl, hp68⟩, rfl⟩
    refine ne (eo_as rfl rfl) rfl ?_
    refine go_nil ?_
    refine gq_next ?_
    refine gc_ret ?_
    refine gq_results (res1 rfl rfl) ?_
    exact fun W1 hO => ⟨_, _, rfl, ⟨p68, rfl, hp68⟩, (hO.tl 1 rfl (List.Sublist.refl _))⟩

end Go.Proofs.Ytcdhbikginpogaa
