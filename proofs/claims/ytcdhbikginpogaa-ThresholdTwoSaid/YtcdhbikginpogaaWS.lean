/-
  The walks of the functions of packages bigint and threshold and of the document's answers (part S): what each call returns, at every argument.
-/
import Derived.Test.YtcdhbikginpogaaWK
import Derived.Test.YtcdhbikginpogaaTt
import Derived.Test.YtcdhbikginpogaaMu
namespace Go.Proofs.Ytcdhbikginpogaa
open Go.RowKit Go.Eng

open Go.Bs
theorem en26 : Ent Try.prog 26 := ent_of Try.func26 (by kernel_rfl) rfl
theorem en10 : Ent Try.prog 10 := ent_of Try.func10 (by kernel_rfl) rfl
theorem b24_01 (x0 : Int) (x1 : Int) (W : World) : (Instr.build 24 #[(0, .int .i64 x0), (1, .int .i64 x1)]).run Try.prog W = .ok (.agg #[.int .i64 x0, .int .i64 x1, .slice none 0 0]) W := by kernel_rfl
theorem e5 : TyE Try.prog 5 (.int .u8 0) 1 := ⟨rfl, by kernel_rfl⟩

/-- barscan/barscanlaw36.ThresholdTwo -/
theorem two_c (W H : Int) (A : Option Addr) (n c : Nat) (f : Nat → Bool) (a : Int) (b : Int) (w : World) (hr : Rd w A (tab n (bv f))) (a0 : 0 ≤ a) (a1 : a ≤ 255) (b0 : 0 ≤ b) (b1 : b ≤ 255) :
    Calls Try.prog 7 #[.agg #[.int .i64 W, .int .i64 H, .slice A n c], .int .u8 a, .int .u8 b] w (fun e w' => e = .returned (.bool true) ∧ Ext w w') := by
  refine calls_enter (N := ⟨102, []⟩) [] ([]) Try.func7 rfl rfl rfl (Ow.start _) ?_
  refine gc_seq ?_
  refine gc_region ?_
  refine nx (xo_boxA rfl rfl) rfl ?_
  rintro _ _ ⟨g3, rfl, rfl⟩
  refine ne (eo_as rfl rfl) rfl ?_
  refine go_nil ?_
  refine gq_next ?_
  refine gc_seq ?_
  refine gc_seq ?_
  refine gc_region ?_
  refine ne (eo_loadA 0 rfl a35 rfl rfl rfl rfl) rfl ?_
  refine ne (eo_call rfl en26 rfl (fun W1 hO => sound20_c _ _ _ _ _ _ W1 (hr.old0 hO) )) rfl ?_
  refine ne (eo_not rfl rfl) rfl ?_
  refine ne (eo_mv rfl rfl) rfl ?_
  refine ng rfl rfl (fun h => eo_field rfl f35_2 rfl) rfl ?_
  refine ng rfl rfl (fun h => eo_load 0 rfl s33 (ev_if h rfl) rfl rfl rfl) rfl ?_
  refine ng rfl rfl (fun h => eo_len rfl Try.underlying33 (ev_if h rfl)) rfl ?_
  refine ng rfl rfl (fun h => eo_gtr rfl (ev_if h rfl) rfl) rfl ?_
  refine ne (eo_or rfl rfl (fun hb => ev_if hb rfl)) rfl ?_
  refine go_nil ?_
  refine gq_next ?_
  refine gc_cond rfl (fun hc0 => ?_) (fun hc0 => ?_)
  ·
    have hd0 := (or_t hc0).imp (fun h => (not_t h)) (fun h => of_decide_eq_true h)
    refine gc_seq ?_
    refine gc_region ?_
    refine ne (eo_call rfl en10 rfl (fun W1 hO => alive36_c W1  )) rfl ?_
    refine ne (eo_as rfl rfl) rfl ?_
    refine go_nil ?_
    refine gq_next ?_
    refine gc_ret ?_
    refine gq_then_ret ?_
    refine gq_results (res1 rfl rfl) ?_
    exact fun W1 hO => ⟨rfl, hO.toExt⟩
  ·
    have hd0 := (or_f hc0).imp (fun h => (not_f h)) (fun h => of_decide_eq_false h)
    have hv := hd0.1
    have v7 := vld_pos hv
    refine gc_skip ?_
    refine gq_next ?_
    refine gc_seq ?_
    refine gc_region ?_
    refine ne (eo_mv rfl rfl) rfl ?_
    refine ne (eo_mv rfl rfl) rfl ?_
    refine ne (eo_min rfl rfl rfl) rfl ?_
    refine ne (eo_mv rfl rfl) rfl ?_
    refine ne (eo_mv rfl rfl) rfl ?_
    refine ne (eo_max rfl rfl rfl) rfl ?_
    refine ne (eo_as rfl rfl) rfl ?_
    refine ne (eo_as rfl rfl) rfl ?_
    refine go_nil ?_
    refine gq_next ?_
    refine gc_seq ?_
    refine gc_region ?_
    refine ne (eo_field rfl f35_0 rfl) rfl ?_
    refine ne (eo_load 0 rfl s3 rfl rfl rfl rfl) rfl ?_
    refine ne (eo_field rfl f35_1 rfl) rfl ?_
    refine ne (eo_load 0 rfl s3 rfl rfl rfl rfl) rfl ?_
    refine ne (eo_build rfl rfl (b24_01 _ _)) rfl ?_
    refine nx (xo_alloc rfl z24) rfl ?_
    rintro _ _ ⟨g9, rfl, rfl⟩
    refine nu (xo_storeA 0 rfl a24 rfl rfl (ones_cons (by first | rfl | exact AS.one) (ones_cons (by first | rfl | exact AS.one) (ones_cons (by first | rfl | exact AS.one) ones_nil))) rfl rfl rfl rfl) ?_
    rintro _ _ ⟨rfl, rfl⟩
    refine go_nil ?_
    refine gq_next ?_
    refine gc_seq ?_
    refine gc_region ?_
    refine ne (eo_as rfl rfl) rfl ?_
    refine ne (eo_as rfl rfl) rfl ?_
    refine go_nil ?_
    refine gq_next ?_
    refine gc_seq ?_
    refine gc_seq ?_
    refine gc_region ?_
    refine ne (eo_field rfl f35_2 rfl) rfl ?_
    refine ne (eo_load 1 rfl s33 rfl rfl rfl rfl) rfl ?_
    refine ne (eo_len rfl Try.underlying33 rfl) rfl ?_
    refine ne (eo_mv rfl rfl) rfl ?_
    refine go_nil ?_
    refine gq_next ?_
    refine gc_block ?_
    refine loop4 (fun (i : Nat) (dk : Bool) (lt : Bool) (s : AS) => i ≤ n ∧ dk = decide (0 < dkN f i) ∧ lt = decide (dkN f i < i) ∧ s.Ok 1 i (tab i (iv .u8 (twoF f (min a b) (max a b))))) (fun (i : Nat) (dk : Bool) (lt : Bool) (s : AS) => n - i) (fun (i : Nat) (dk : Bool) (lt : Bool) (s : AS) => [(3, .pointer (some ⟨g3, 0, none⟩)), (7, .int .u8 (min a b)), (8, .int .u8 (max a b)), (9, .pointer (some ⟨g9, 0, none⟩)), (10, .bool dk), (11, .bool lt), (38, .int .i64 ((n : Nat) : Int)), (39, .int .i64 (i : Int))]) (fun (i : Nat) (dk : Bool) (lt : Bool) (s : AS) => ⟨g9, 24, [.int .i64 W, .int .i64 H, s.val i]⟩ :: ⟨g3, 35, [.int .i64 W, .int .i64 H, .slice A n c]⟩ :: s.blks 5 (tab i (iv .u8 (twoF f (min a b) (max a b))))) 0 false false .nil ⟨by omega, rfl, rfl, AS.Ok0⟩ ⟨rfl, rfl, rfl, rfl, rfl, rfl, rfl, rfl, trivial⟩ (List.Sublist.refl _) ?_
    rintro i dk lt s ⟨hi, hdk, hlt, hs⟩
    refine gc_seq ?_
    refine gc_region ?_
    refine ne (eo_lss rfl rfl rfl) rfl ?_
    refine go_nil ?_
    refine gq_next ?_
    refine gc_seq ?_
    refine gc_cond rfl (fun hc1 => ?_) (fun hc1 => ?_)
    ·
      replace hc1 := of_decide_eq_true hc1
      have hnb := dkN_bd (f := f) (n := i)
      refine gc_skip ?_
      refine gq_next ?_
      refine gc_seq ?_
      refine gc_block ?_
      refine gc_seq ?_
      refine gc_region ?_
      refine ne (eo_mv rfl rfl) rfl ?_
      refine ne (eo_as rfl rfl) rfl ?_
      refine go_nil ?_
      refine gq_next ?_
      refine gc_seq ?_
      refine gc_region ?_
      refine ne (eo_field rfl f35_2 rfl) rfl ?_
      refine ne (eo_load 1 rfl s33 rfl rfl rfl rfl) rfl ?_
      refine ne (eo_mv rfl rfl) rfl ?_
      refine ne (eo_indexR rfl sl33 rfl rfl hr (by simp) (by omega) (by omega)) rfl ?_
      refine ne (eo_load_old rfl s4 rfl (Rd.tabb hr (by omega)) (by simp)) rfl ?_
      refine go_nil ?_
      refine gq_next ?_
      refine gc_cond rfl (fun hc2 => ?_) (fun hc2 => ?_)
      ·
        have z1 : dkN f (i + 1) = dkN f i + 1 := by show _ + (if _ then _ else _) = _; rw [if_pos (show f i = true from hc2)]
        refine gc_seq ?_
        refine gc_region ?_
        refine ne (eo_field rfl f24_2 rfl) rfl ?_
        refine ne (eo_load 0 rfl s22 rfl rfl rfl rfl) rfl ?_
        refine ne (eo_mv rfl rfl) rfl ?_
        refine nx (xo_lit1 rfl Try.underlying22 e5 rfl (by first | rfl | exact AS.one)) rfl ?_
        rintro _ _ ⟨g50, rfl, rfl⟩
        refine nx (xo_app1i 3 rfl rfl Try.underlying22 e5 rfl hs rfl rfl (by show _ = (if _ then _ else _); rw [if_pos (show f i = true from hc2)]) (by omega) (by decide)) rfl ?_
        rintro _ _ ⟨s51, hs51, rfl, rfl⟩
        refine ne (eo_field rfl f24_2 rfl) rfl ?_
        refine nu (xo_store 1 rfl s22 rfl rfl (by first | rfl | exact AS.one) rfl rfl (by simp)) ?_
        rintro _ _ ⟨rfl, rfl⟩
        refine go_nil ?_
        refine gq_next ?_
        refine gc_region ?_
        refine ne (eo_as rfl rfl) rfl ?_
        refine go_nil ?_
        refine gq_block_end ?_
        refine gq_next ?_
        refine gc_region ?_
        refine ne (eo_add rfl rfl rfl (by omega) (by omega)) rfl ?_
        refine ne (eo_mv rfl rfl) rfl ?_
        refine go_nil ?_
        exact round4 (i + 1) true lt s51 ⟨by omega, (decide_eq_true (by omega)).symm, by rw [hlt]; exact decide_eq_decide.2 (by omega), hs51⟩ (by omega) ⟨rfl, rfl, rfl, rfl, rfl, rfl, rfl, rfl, trivial⟩ (List.Sublist.cons _ (List.Sublist.refl _))
      ·
        have z1 : dkN f (i + 1) = dkN f i + 0 := by show _ + (if _ then _ else _) = _; rw [if_neg (show ¬ f i = true from by simpa using hc2)]
        refine gc_seq ?_
        refine gc_region ?_
        refine ne (eo_field rfl f24_2 rfl) rfl ?_
        refine ne (eo_load 0 rfl s22 rfl rfl rfl rfl) rfl ?_
        refine ne (eo_mv rfl rfl) rfl ?_
        refine nx (xo_lit1 rfl Try.underlying22 e5 rfl (by first | rfl | exact AS.one)) rfl ?_
        rintro _ _ ⟨g56, rfl, rfl⟩
        refine nx (xo_app1i 3 rfl rfl Try.underlying22 e5 rfl hs rfl rfl (by show _ = (if _ then _ else _); rw [if_neg (show ¬ f i = true from by simpa using hc2)]) (by omega) (by decide)) rfl ?_
        rintro _ _ ⟨s57, hs57, rfl, rfl⟩
        refine ne (eo_field rfl f24_2 rfl) rfl ?_
        refine nu (xo_store 1 rfl s22 rfl rfl (by first | rfl | exact AS.one) rfl rfl (by simp)) ?_
        rintro _ _ ⟨rfl, rfl⟩
        refine go_nil ?_
        refine gq_next ?_
        refine gc_region ?_
        refine ne (eo_as rfl rfl) rfl ?_
        refine go_nil ?_
        refine gq_block_end ?_
        refine gq_next ?_
        refine gc_region ?_
        refine ne (eo_add rfl rfl rfl (by omega) (by omega)) rfl ?_
        refine ne (eo_mv rfl rfl) rfl ?_
        refine go_nil ?_
        exact round4 (i + 1) dk true s57 ⟨by omega, by rw [hdk]; exact decide_eq_decide.2 (by omega), (decide_eq_true (by omega)).symm, hs57⟩ (by omega) ⟨rfl, rfl, rfl, rfl, rfl, rfl, rfl, rfl, trivial⟩ (List.Sublist.cons _ (List.Sublist.refl _))
    ·
      replace hc1 := of_decide_eq_false hc1
      obtain rfl : n = i := by omega
      have hp := two_pix (f := f) (n := n) (lo := (min a b)) (hi := (max a b)) (by omega) (by omega) (by omega)
      have hnb := dkN_bd (f := f) (n := n)
      obtain ⟨gq, spq, cq, rfl, hcq⟩ := as_at hs (by omega)
      refine gc_exit ?_
      refine gq_then_exit ?_
      refine gq_then_exit ?_
      refine gq_block_hit ?_
      refine gq_next ?_
      refine gc_seq ?_
      refine gc_region ?_
      refine ne (eo_loadA 0 rfl a24 rfl rfl rfl rfl) rfl ?_
      refine nx (xo_freshT rfl en17 rfl (fun W1 hO => auto_x _ _ _ _ _ _ W1 (tabs_rd hO 2 rfl) (by assumption) (by omega))) rfl ?_
      rintro _ _ ⟨S62, ⟨A62, k62, rfl, hk62, hS62⟩, rfl⟩
      refine ne (eo_mv rfl rfl) rfl ?_
      refine ne (eo_extract rfl rfl rfl) rfl ?_
      refine ne (eo_extract rfl rfl rfl) rfl ?_
      refine nx (xo_alloc rfl z35) rfl ?_
      rintro _ _ ⟨g13, rfl, rfl⟩
      refine nu (xo_storeA 0 rfl a35 rfl rfl (ones_cons (by first | rfl | exact AS.one) (ones_cons (by first | rfl | exact AS.one) (ones_cons (by first | rfl | exact AS.one) ones_nil))) rfl rfl rfl rfl) ?_
      rintro _ _ ⟨rfl, rfl⟩
      refine ne (eo_as rfl rfl) rfl ?_
      refine go_nil ?_
      refine gq_next ?_
      refine gc_seq ?_
      refine gc_seq ?_
      refine gc_region ?_
      refine ne (eo_mv rfl rfl) rfl ?_
      refine ne (eo_mv rfl rfl) rfl ?_
      refine ng rfl rfl (fun h => eo_mv rfl rfl) rfl ?_
      refine ne (eo_and rfl rfl (fun hb => ev_if hb rfl)) rfl ?_
      refine ne (eo_mv rfl rfl) rfl ?_
      refine ng rfl rfl (fun h => eo_mv rfl rfl) rfl ?_
      refine ng rfl rfl (fun h => eo_mv rfl rfl) rfl ?_
      refine ng rfl rfl (fun h => eo_lss rfl (ev_if h rfl) (ev_if h rfl)) rfl ?_
      refine ne (eo_and rfl rfl (fun hb => ev_if hb rfl)) rfl ?_
      refine go_nil ?_
      refine gq_next ?_
      refine gc_cond rfl (fun hc3 => ?_) (fun hc3 => ?_)
      ·
        have hd3 := (and_t hc3).imp (fun h => (and_t h).imp (fun h => h) (fun h => h)) (fun h => of_decide_eq_true h)
        have hy := two_aut (f := f) (lo := (min a b)) (hi := (max a b)) hv (by omega) (by omega) (by simp [hdk, hlt] at hc3; omega) (by omega) (by simp [hdk, hlt] at hc3; omega) (by simp [hdk, hlt] at hc3; omega)
        refine gc_seq ?_
        refine gc_region ?_
        refine ne (eo_mv rfl rfl) rfl ?_
        refine ne (eo_eql rfl rfl rfl) rfl ?_
        refine ne (eo_mv rfl rfl) rfl ?_
        refine ng rfl rfl (fun h => eo_loadA 0 rfl a35 rfl rfl rfl rfl) rfl ?_
        refine ng rfl rfl (fun h => eo_loadA 2 rfl a35 rfl rfl rfl rfl) rfl ?_
        refine ng rfl rfl (fun h => eo_call rfl en19 (evs_cons (ev_if h rfl) (evs_cons (ev_if h rfl) evs_nil)) (fun W1 hO => calls_bool (b' := true) hy.2 (same20_c _ _ _ _ _ _ _ _ _ _ _ _ W1 (hS62.rd (hO.tl 4 rfl (List.Sublist.refl _))) (hr.old0 hO) (Nat.le_trans autR_le (by decide))))) rfl ?_
        refine ne (eo_and rfl rfl (fun hb => ev_if hb rfl)) rfl ?_
        refine ne (eo_mv rfl rfl) rfl ?_
        refine ng rfl rfl (fun h => eo_call rfl en10 rfl (fun W1 hO => alive36_c W1  )) rfl ?_
        refine ne (eo_and rfl rfl (fun hb => ev_if hb rfl)) rfl ?_
        refine ne (eo_as rfl rfl) rfl ?_
        refine go_nil ?_
        refine gq_next ?_
        refine gc_ret ?_
        refine gq_then_ret ?_
        refine gq_results (res1 rfl rfl) ?_
        exact fun W1 hO => ⟨ret_bool (show ((decide ((autR ⟨W, H, n, (twoF f (min a b) (max a b))⟩).2 = 0) && true) && true) = true from by simp [hy.1]), hO.toExt⟩
      ·
        have hd3 := (and_f hc3).imp (fun h => (and_f h).imp (fun h => h) (fun h => h)) (fun h => of_decide_eq_false h)
        have hy := one_aut (f := f) (lo := (min a b)) (hi := (max a b)) hv (by omega) (by omega) (by omega) (by omega) (by simp [hdk, hlt] at hc3; omega)
        refine gc_skip ?_
        refine gq_next ?_
        refine gc_seq ?_
        refine gc_drawU [(0, false), (1, false), (2, false), (3, true), (4, true), (5, true), (6, true), (7, true), (8, false), (9, false), (10, false), (11, false), (12, false), (13, false), (14, false), (15, false), (16, false), (17, false), (18, false)] (by kernel_rfl) (by kernel_rfl) ?_
        refine ua rfl (xo_of_eo (eo_mv rfl rfl)) rfl ?_
        rintro _ _ ⟨rfl, rfl⟩
        refine ⟨by first | exact (List.Sublist.refl _) | exact (List.sublist_append_left _ _), ?_⟩
        refine ua rfl (xo_of_eo (eo_eql rfl rfl rfl)) rfl ?_
        rintro _ _ ⟨rfl, rfl⟩
        refine ⟨by first | exact (List.Sublist.refl _) | exact (List.sublist_append_left _ _), ?_⟩
        refine ua rfl (xo_of_eo (eo_mv rfl rfl)) rfl ?_
        rintro _ _ ⟨rfl, rfl⟩
        refine ⟨by first | exact (List.Sublist.refl _) | exact (List.sublist_append_left _ _), ?_⟩
        rw [show decide ((autR ⟨W, H, n, (twoF f (min a b) (max a b))⟩).2 = 0) = true from by simp [hy.1]]
        refine ug rfl rfl rfl (eo_loadA 0 rfl a35 rfl rfl rfl rfl) rfl ?_
        refine ug rfl rfl rfl (eo_field rfl f35_0 rfl) rfl ?_
        refine ug rfl rfl rfl (eo_load 2 rfl s3 rfl rfl rfl rfl) rfl ?_
        refine ug rfl rfl rfl (eo_field rfl f35_1 rfl) rfl ?_
        refine ug rfl rfl rfl (eo_load 2 rfl s3 rfl rfl rfl rfl) rfl ?_
        refine uag rfl rfl rfl (xo_of_eo (eo_field rfl f35_2 rfl)) rfl ?_
        rintro _ _ ⟨rfl, rfl⟩
        refine ⟨by first | exact (List.Sublist.refl _) | exact (List.sublist_append_left _ _), ?_⟩
        refine uag rfl rfl rfl (xo_of_eo (eo_load 2 rfl s33 rfl rfl rfl rfl)) rfl ?_
        rintro _ _ ⟨rfl, rfl⟩
        refine ⟨by first | exact (List.Sublist.refl _) | exact (List.sublist_append_left _ _), ?_⟩
        refine uag rfl rfl rfl (xo_of_eo (eo_len rfl Try.underlying33 rfl)) rfl ?_
        rintro _ _ ⟨rfl, rfl⟩
        refine ⟨by first | exact (List.Sublist.refl _) | exact (List.sublist_append_left _ _), ?_⟩
        refine uag rfl rfl rfl (xo_makeb rfl Try.underlying33 e4 rfl rfl (by omega) (by omega) (by omega)) rfl ?_
        rintro _ _ ⟨g95, rfl, rfl⟩
        refine ⟨by first | exact (List.Sublist.cons _ (List.Sublist.refl _)) | exact (List.sublist_append_left _ _), ?_⟩
        refine uag rfl rfl rfl (xo_of_eo (eo_build rfl rfl (b35_012 _ _ _ _ _))) rfl ?_
        rintro _ _ ⟨rfl, rfl⟩
        refine ⟨by first | exact (List.Sublist.refl _) | exact (List.sublist_append_left _ _), ?_⟩
        refine uag rfl rfl rfl (xo_of_eo (eo_call rfl en19 rfl (fun W1 hO => calls_bool (b' := true) hy.2 (same20_c _ _ _ _ _ _ _ _ _ _ _ _ W1 (hS62.rd (hO.tl 5 rfl (List.Sublist.refl _))) (tabs_rd hO 0 rfl) (Nat.le_trans autR_le (by decide)))))) rfl ?_
        rintro _ _ ⟨rfl, rfl⟩
        refine ⟨by first | exact (List.Sublist.refl _) | exact (List.sublist_append_left _ _), ?_⟩
        refine ua rfl (xo_of_eo (eo_and rfl rfl (fun _ => rfl))) rfl ?_
        rintro _ _ ⟨rfl, rfl⟩
        refine ⟨by first | exact (List.Sublist.refl _) | exact (List.sublist_append_left _ _), ?_⟩
        refine ua rfl (xo_of_eo (eo_mv rfl rfl)) rfl ?_
        rintro _ _ ⟨rfl, rfl⟩
        refine ⟨by first | exact (List.Sublist.refl _) | exact (List.sublist_append_left _ _), ?_⟩
        rw [show (true && true) = true from rfl]
        refine uag rfl rfl rfl (xo_of_eo (eo_call rfl en10 rfl (fun W1 hO => alive36_c W1  ))) rfl ?_
        rintro _ _ ⟨rfl, rfl⟩
        refine ⟨by first | exact (List.Sublist.refl _) | exact (List.sublist_append_left _ _), ?_⟩
        refine ua rfl (xo_of_eo (eo_and rfl rfl (fun _ => rfl))) rfl ?_
        rintro _ _ ⟨rfl, rfl⟩
        refine ⟨by first | exact (List.Sublist.refl _) | exact (List.sublist_append_left _ _), ?_⟩
        refine ua rfl (xo_of_eo (eo_as rfl rfl)) rfl ?_
        rintro _ _ ⟨rfl, rfl⟩
        refine ⟨by first | exact (List.Sublist.refl _) | exact (List.sublist_append_left _ _), ?_⟩
        refine gu_nil ?_
        refine gq_nq ?_
        refine gq_next ?_
        refine gc_ret ?_
        refine gq_results (res1 rfl rfl) ?_
        exact fun W1 hO => ⟨ret_bool (show (true && true) = true from rfl), hO.toExt⟩

end Go.Proofs.Ytcdhbikginpogaa
