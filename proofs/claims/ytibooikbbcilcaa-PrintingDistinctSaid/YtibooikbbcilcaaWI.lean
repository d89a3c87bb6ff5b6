/-
  The walks of the functions of package printing and of the document's answer (part I): what each call returns, at every argument.
-/
import Derived.Test.YtibooikbbcilcaaWE
namespace Go.Proofs.Ytibooikbbcilcaa
open Go.RowKit Go.Eng

open Go.Bs
theorem en14 : Ent Try.prog 14 := ent_of Try.func14 (by kernel_rfl) rfl
theorem en10 : Ent Try.prog 10 := ent_of Try.func10 (by kernel_rfl) rfl
theorem en18 : Ent Try.prog 18 := ent_of Try.func18 (by kernel_rfl) rfl
theorem en20 : Ent Try.prog 20 := ent_of Try.func20 (by kernel_rfl) rfl
theorem en21 : Ent Try.prog 21 := ent_of Try.func21 (by kernel_rfl) rfl

/-- barscan/barscanlaw43.PrintingDistinct -/
theorem ldist_c (W H : Int) (A : Option Addr) (n c : Nat) (f : Nat → Bool) (nn : Int) (fw : Int) (sd : Int) (w : World) (hr : Rd w A (tab n (bv f))) (hs0 : 0 ≤ sd) (hs1 : sd ≤ 4294967295) (hn0 : 0 ≤ nn) (hn9 : nn ≤ 65535) (hf0 : 0 ≤ fw) (hf9 : fw ≤ 65535) :
    Calls Try.prog 6 #[.agg #[.int .i64 W, .int .i64 H, .slice A n c], .int .u16 nn, .int .u16 fw, .int .u32 sd] w (fun e w' => e = .returned (.bool true) ∧ Ext w w') := by
  refine calls_enter (N := ⟨165, []⟩) [] ([]) Try.func6 rfl rfl rfl (Ow.start _) ?_
  refine gc_seq ?_
  refine gc_region ?_
  refine nx (xo_boxA rfl rfl) rfl ?_
  rintro _ _ ⟨g4, rfl, rfl⟩
  refine ne (eo_as rfl rfl) rfl ?_
  refine go_nil ?_
  refine gq_next ?_
  refine gc_seq ?_
  refine gc_seq ?_
  refine gc_region ?_
  refine ne (eo_loadA 0 rfl a33 rfl rfl rfl rfl) rfl ?_
  refine ne (eo_call rfl en14 rfl (fun W1 hO => valid43_c _ _ _ _ _ _ _ W1 (hr.old0 hO) )) rfl ?_
  refine ne (eo_not rfl rfl) rfl ?_
  refine go_nil ?_
  refine gq_next ?_
  refine gc_cond rfl (fun hc0 => ?_) (fun hc0 => ?_)
  ·
    have hd0 := (not_t hc0)
    refine gc_seq ?_
    refine gc_region ?_
    refine ne (eo_call rfl en10 rfl (fun W1 hO => exam43_c W1  )) rfl ?_
    refine ne (eo_as rfl rfl) rfl ?_
    refine go_nil ?_
    refine gq_next ?_
    refine gc_ret ?_
    refine gq_then_ret ?_
    refine gq_results (res1 rfl rfl) ?_
    exact fun W1 hO => ⟨rfl, hO.toExt⟩
  ·
    have hd0 := (not_f hc0)
    obtain ⟨hv, hn1⟩ := val43_vld (not_f hc0) (by omega)
    obtain ⟨v1, v2, v3, v4, v5, v6⟩ := vldB_iff.1 hv
    have v7 := vld_pos hv
    have hV : (⟨W, H, n, f⟩ : Pm Bool).vld = true := hv
    have k0 := Int.emod_nonneg nn (show ((n : Nat) : Int) + 1 ≠ 0 by omega)
    have k1 := Int.emod_lt_of_pos nn (show (0 : Int) < ((n : Nat) : Int) + 1 by omega)
    have j0 := Int.emod_nonneg fw (show (nn % (((n : Nat) : Int) + 1)) + 1 ≠ 0 by omega)
    have j1 := Int.emod_lt_of_pos fw (show (0 : Int) < (nn % (((n : Nat) : Int) + 1)) + 1 by omega)
    have hD := dirt_ok (d := (nn % (((n : Nat) : Int) + 1))) (s := sd) hV k0 (by simp only; omega) (by omega)
    have hJ := (dirt_ok (d := (fw % ((nn % (((n : Nat) : Int) + 1)) + 1))) (s := sd) hV j0 (by simp only; omega) (by omega)).1
    have hT := dirt_two (d := (nn % (((n : Nat) : Int) + 1))) (s := sd) hV k0 (by simp only; omega) (by omega)
    simp only at hD hJ hT
    have hN1 : (placesR W H (nn % (((n : Nat) : Int) + 1)) sd).1.1 = (nn % (((n : Nat) : Int) + 1)).toNat := by rw [hD.1]
    have hN2 : (placesR W H (fw % ((nn % (((n : Nat) : Int) + 1)) + 1)) sd).1.1 = (fw % ((nn % (((n : Nat) : Int) + 1)) + 1)).toNat := by rw [hJ]
    refine gc_skip ?_
    refine gq_next ?_
    refine gc_seq ?_
    refine gc_region ?_
    refine ne (eo_mv rfl rfl) rfl ?_
    refine ne (eo_convi rfl rfl ⟨_, Try.underlying48⟩ Try.underlying3 (by omega) (by omega)) rfl ?_
    refine ne (eo_field rfl f33_2 rfl) rfl ?_
    refine ne (eo_load 0 rfl s31 rfl rfl rfl rfl) rfl ?_
    refine ne (eo_len rfl Try.underlying31 rfl) rfl ?_
    refine ne (eo_add rfl rfl rfl (by omega) (by omega)) rfl ?_
    refine ne (eo_rem rfl rfl rfl (by omega) (by omega)) rfl ?_
    refine ne (eo_as rfl rfl) rfl ?_
    refine go_nil ?_
    refine gq_next ?_
    refine gc_seq ?_
    refine gc_region ?_
    refine ne (eo_field rfl f33_0 rfl) rfl ?_
    refine ne (eo_load 0 rfl s3 rfl rfl rfl rfl) rfl ?_
    refine ne (eo_field rfl f33_1 rfl) rfl ?_
    refine ne (eo_load 0 rfl s3 rfl rfl rfl rfl) rfl ?_
    refine ne (eo_mv rfl rfl) rfl ?_
    refine ne (eo_mv rfl rfl) rfl ?_
    refine nx (xo_freshT rfl en16 rfl (fun W1 hO => places_x _ _ _ _ W1  (by omega) (by omega))) rfl ?_
    rintro _ _ ⟨S42, ⟨A42, k42, rfl, hk42, hS42⟩, rfl⟩
    refine ne (eo_mv rfl rfl) rfl ?_
    refine ne (eo_extract rfl rfl rfl) rfl ?_
    refine ne (eo_extract rfl rfl rfl) rfl ?_
    refine ne (eo_as rfl rfl) rfl ?_
    refine ne (eo_as rfl rfl) rfl ?_
    refine go_nil ?_
    refine gq_next ?_
    refine gc_seq ?_
    refine gc_seq ?_
    refine gc_region ?_
    refine ne (eo_mv rfl rfl) rfl ?_
    refine ne (eo_neq rfl rfl rfl) rfl ?_
    refine ne (eo_mv rfl rfl) rfl ?_
    refine ng rfl rfl (fun h => eo_mv rfl rfl) rfl ?_
    refine ng rfl rfl (fun h => eo_len rfl Try.underlying41 (ev_if h rfl)) rfl ?_
    refine ng rfl rfl (fun h => eo_mv rfl rfl) rfl ?_
    refine ng rfl rfl (fun h => eo_neq rfl (ev_if h rfl) (ev_if h rfl)) rfl ?_
    refine ne (eo_or rfl rfl (fun hb => ev_if hb rfl)) rfl ?_
    refine go_nil ?_
    refine gq_next ?_
    refine gc_cond rfl (fun hc1 => ?_) (fun hc1 => ?_)
    ·
      have hd1 := (or_t hc1).imp (fun h => of_decide_eq_true h) (fun h => of_decide_eq_true h)
      exact Bool.noConfusion (hc1.symm.trans (show (decide ((placesR W H (nn % (((n : Nat) : Int) + 1)) sd).2 ≠ 0) || decide ((((placesR W H (nn % (((n : Nat) : Int) + 1)) sd).1.1 : Nat) : Int) ≠ (nn % (((n : Nat) : Int) + 1)))) = false from by rw [hD.1]; simp; omega))
    ·
      have hd1 := (or_f hc1).imp (fun h => ne_f h) (fun h => ne_f h)
      refine gc_skip ?_
      refine gq_next ?_
      refine gc_seq ?_
      refine gc_region ?_
      refine ne (eo_field rfl f33_2 rfl) rfl ?_
      refine ne (eo_load 0 rfl s31 rfl rfl rfl rfl) rfl ?_
      refine ne (eo_len rfl Try.underlying31 rfl) rfl ?_
      refine nx (xo_makeb rfl Try.underlying31 e4 rfl rfl (by omega) (by omega) (by omega)) rfl ?_
      rintro _ _ ⟨g56, rfl, rfl⟩
      refine ne (eo_as rfl rfl) rfl ?_
      refine go_nil ?_
      refine gq_next ?_
      refine gc_seq ?_
      refine gc_seq ?_
      refine gc_region ?_
      refine ne (eo_mv rfl rfl) rfl ?_
      refine ne (eo_len rfl Try.underlying41 rfl) rfl ?_
      refine ne (eo_mv rfl rfl) rfl ?_
      refine go_nil ?_
      refine gq_next ?_
      refine gc_block ?_
      refine loop1 (fun (t : Nat) => t ≤ (nn % (((n : Nat) : Int) + 1)).toNat) (fun (t : Nat) => (nn % (((n : Nat) : Int) + 1)).toNat - t) (fun (t : Nat) => [(2, .int .u16 fw), (3, .int .u32 sd), (4, .pointer (some ⟨g4, 0, none⟩)), (9, .int .i64 (nn % (((n : Nat) : Int) + 1))), (10, .slice A42 ((placesR W H (nn % (((n : Nat) : Int) + 1)) sd).1.1) k42), (12, .slice (some ⟨g56, 0, none⟩) n n), (57, .slice A42 ((placesR W H (nn % (((n : Nat) : Int) + 1)) sd).1.1) k42), (58, .int .i64 (((placesR W H (nn % (((n : Nat) : Int) + 1)) sd).1.1 : Nat) : Int)), (59, .int .i64 (t : Int))]) (fun (t : Nat) => ⟨g56, 4, tab n (bv (chF n sd t)) ++ []⟩ :: ⟨g4, 33, [.int .i64 W, .int .i64 H, .slice A n c]⟩ :: S42) 0 (by omega) ⟨rfl, rfl, rfl, rfl, rfl, rfl, rfl, rfl, rfl, trivial⟩ (List.Sublist.refl _) ?_
      intro t ht
      refine gc_seq ?_
      refine gc_region ?_
      refine ne (eo_lss rfl rfl rfl) rfl ?_
      refine go_nil ?_
      refine gq_next ?_
      refine gc_seq ?_
      refine gc_cond rfl (fun hc2 => ?_) (fun hc2 => ?_)
      ·
        replace hc2 := of_decide_eq_true hc2
        have hpk : (placesR W H (nn % (((n : Nat) : Int) + 1)) sd).1.2 (t : Int).toNat = ((plF n sd t : Nat) : Int) := by rw [hD.1]; rfl
        have hpl := plF_lt (N := n) (s := sd) (i := t) (by omega)
        refine gc_skip ?_
        refine gq_next ?_
        refine gc_seq ?_
        refine gc_block ?_
        refine gc_seq ?_
        refine gc_region ?_
        refine ne (eo_indexS rfl sl41 rfl rfl (fun W1 hO => (hS42.rd (hO.tl 2 rfl (List.Sublist.refl _)))) (by simp) (by omega) (by omega)) rfl ?_
        refine ne (eo_loadS rfl s3 rfl (fun W1 hO => Rd.tabi (hS42.rd (hO.tl 2 rfl (List.Sublist.refl _))) (by omega))) rfl ?_
        refine ne (eo_as rfl rfl) rfl ?_
        refine go_nil ?_
        refine gq_next ?_
        refine gc_seq ?_
        refine gc_seq ?_
        refine gc_region ?_
        refine ne (eo_mv rfl rfl) rfl ?_
        refine ne (eo_lss rfl rfl rfl) rfl ?_
        refine ne (eo_mv rfl rfl) rfl ?_
        refine ng rfl rfl (fun h => eo_mv rfl rfl) rfl ?_
        refine ng rfl rfl (fun h => eo_mv rfl rfl) rfl ?_
        refine ng rfl rfl (fun h => eo_len rfl Try.underlying31 (ev_if h rfl)) rfl ?_
        refine ng rfl rfl (fun h => eo_geq rfl (ev_if h rfl) (ev_if h rfl)) rfl ?_
        refine ne (eo_or rfl rfl (fun hb => ev_if hb rfl)) rfl ?_
        refine ne (eo_mv rfl rfl) rfl ?_
        refine ng rfl rfl (fun h => eo_mv rfl rfl) rfl ?_
        refine ng rfl rfl (fun h => eo_mv rfl rfl) rfl ?_
        refine ng rfl rfl (fun h => eo_index0 rfl sl31 (ev_if h rfl) (ev_if h rfl) (by have hg0 := (or_f h).imp (fun h => of_decide_eq_false h) (fun h => of_decide_eq_false h); omega) (by have hg0 := (or_f h).imp (fun h => of_decide_eq_false h) (fun h => of_decide_eq_false h); omega)) rfl ?_
        refine ng rfl rfl (fun h => eo_getb 0 rfl s4 (ev_if h rfl) rfl (by have hg0 := (or_f h).imp (fun h => of_decide_eq_false h) (fun h => of_decide_eq_false h); omega)) rfl ?_
        refine ne (eo_or rfl rfl (fun hb => ev_if hb rfl)) rfl ?_
        refine go_nil ?_
        refine gq_next ?_
        refine gc_cond rfl (fun hc3 => ?_) (fun hc3 => ?_)
        ·
          have hd3 := (or_t hc3).imp (fun h => (or_t h).imp (fun h => of_decide_eq_true h) (fun h => of_decide_eq_true h)) (fun h => h)
          exfalso
          rcases hd3 with (h | h) | h
          · omega
          · omega
          · rw [hpk] at h
            exact Bool.noConfusion (h.symm.trans (plF_new (by omega)))
        ·
          have hd3 := (or_f hc3).imp (fun h => (or_f h).imp (fun h => of_decide_eq_false h) (fun h => of_decide_eq_false h)) (fun h => h)
          refine gc_skip ?_
          refine gq_next ?_
          refine gc_region ?_
          refine ne (eo_mv rfl rfl) rfl ?_
          refine ne (eo_mv rfl rfl) rfl ?_
          refine ne (eo_index0 rfl sl31 rfl rfl (by omega) (by omega)) rfl ?_
          refine nu (xo_setb 0 rfl s4 rfl rfl rfl (by omega)) ?_
          rintro _ _ ⟨rfl, rfl⟩
          refine go_nil ?_
          refine gq_block_end ?_
          refine gq_next ?_
          refine gc_region ?_
          refine ne (eo_add rfl rfl rfl (by omega) (by omega)) rfl ?_
          refine ne (eo_mv rfl rfl) rfl ?_
          refine go_nil ?_
          rw [hpk]
          exact round1 (t + 1) (by omega) (by omega) ⟨rfl, rfl, rfl, rfl, rfl, rfl, rfl, rfl, rfl, trivial⟩ (List.Sublist.refl _)
      ·
        replace hc2 := of_decide_eq_false hc2
        have hte : t = (nn % (((n : Nat) : Int) + 1)).toNat := by omega
        subst hte
        refine gc_exit ?_
        refine gq_then_exit ?_
        refine gq_then_exit ?_
        refine gq_block_hit ?_
        refine gq_next ?_
        refine gc_seq ?_
        refine gc_region ?_
        refine ne (eo_mv rfl rfl) rfl ?_
        refine ne (eo_convi rfl rfl ⟨_, Try.underlying48⟩ Try.underlying3 (by omega) (by omega)) rfl ?_
        refine ne (eo_mv rfl rfl) rfl ?_
        refine ne (eo_add rfl rfl rfl (by omega) (by omega)) rfl ?_
        refine ne (eo_rem rfl rfl rfl (by omega) (by omega)) rfl ?_
        refine ne (eo_as rfl rfl) rfl ?_
        refine go_nil ?_
        refine gq_next ?_
        refine gc_seq ?_
        refine gc_region ?_
        refine ne (eo_field rfl f33_0 rfl) rfl ?_
        refine ne (eo_load 1 rfl s3 rfl rfl rfl rfl) rfl ?_
        refine ne (eo_field rfl f33_1 rfl) rfl ?_
        refine ne (eo_load 1 rfl s3 rfl rfl rfl rfl) rfl ?_
        refine ne (eo_mv rfl rfl) rfl ?_
        refine ne (eo_mv rfl rfl) rfl ?_
        refine nx (xo_freshT rfl en16 rfl (fun W1 hO => places_x _ _ _ _ W1  (by omega) (by omega))) rfl ?_
        rintro _ _ ⟨S93, ⟨A93, k93, rfl, hk93, hS93⟩, rfl⟩
        refine ne (eo_mv rfl rfl) rfl ?_
        refine ne (eo_extract rfl rfl rfl) rfl ?_
        refine ne (eo_extract rfl rfl rfl) rfl ?_
        refine ne (eo_as rfl rfl) rfl ?_
        refine ne (eo_as rfl rfl) rfl ?_
        refine go_nil ?_
        refine gq_next ?_
        refine gc_seq ?_
        refine gc_region ?_
        refine ne (eo_loadA 1 rfl a33 rfl rfl rfl rfl) rfl ?_
        refine ne (eo_mv rfl rfl) rfl ?_
        refine ne (eo_mv rfl rfl) rfl ?_
        refine nx (xo_freshT rfl en18 rfl (fun W1 hO => dirt_x _ _ _ _ _ _ _ _ W1 (hr.old0 hO) (by omega) (by omega))) rfl ?_
        rintro _ _ ⟨S100, ⟨A100, k100, rfl, hk100, hS100⟩, rfl⟩
        refine ne (eo_mv rfl rfl) rfl ?_
        refine ne (eo_extract rfl rfl rfl) rfl ?_
        refine ne (eo_extract rfl rfl rfl) rfl ?_
        refine nx (xo_alloc rfl z33) rfl ?_
        rintro _ _ ⟨g18, rfl, rfl⟩
        refine nu (xo_storeA 0 rfl a33 rfl rfl (ones_cons (by first | rfl | exact AS.one) (ones_cons (by first | rfl | exact AS.one) (ones_cons (by first | rfl | exact AS.one) ones_nil))) rfl rfl rfl rfl) ?_
        rintro _ _ ⟨rfl, rfl⟩
        refine ne (eo_as rfl rfl) rfl ?_
        refine go_nil ?_
        refine gq_next ?_
        refine gc_seq ?_
        refine gc_region ?_
        refine ne (eo_loadA 0 rfl a33 rfl rfl rfl rfl) rfl ?_
        refine ne (eo_mv rfl rfl) rfl ?_
        refine ne (eo_mv rfl rfl) rfl ?_
        refine nx (xo_freshT rfl en18 rfl (fun W1 hO => dirt_x _ _ _ _ _ _ _ _ W1 (hS100.rd (hO.tl 3 rfl (List.sublist_append_right _ _))) (by omega) (by omega))) rfl ?_
        rintro _ _ ⟨S107, ⟨A107, k107, rfl, hk107, hS107⟩, rfl⟩
        refine ne (eo_mv rfl rfl) rfl ?_
        refine ne (eo_extract rfl rfl rfl) rfl ?_
        refine ne (eo_extract rfl rfl rfl) rfl ?_
        refine nx (xo_alloc rfl z33) rfl ?_
        rintro _ _ ⟨g20, rfl, rfl⟩
        refine nu (xo_storeA 0 rfl a33 rfl rfl (ones_cons (by first | rfl | exact AS.one) (ones_cons (by first | rfl | exact AS.one) (ones_cons (by first | rfl | exact AS.one) ones_nil))) rfl rfl rfl rfl) ?_
        rintro _ _ ⟨rfl, rfl⟩
        refine ne (eo_as rfl rfl) rfl ?_
        refine go_nil ?_
        refine gq_next ?_
        refine gc_seq ?_
        refine gc_seq ?_
        refine gc_region ?_
        refine ne (eo_mv rfl rfl) rfl ?_
        refine ne (eo_neq rfl rfl rfl) rfl ?_
        refine ne (eo_mv rfl rfl) rfl ?_
        refine ng rfl rfl (fun h => eo_mv rfl rfl) rfl ?_
        refine ng rfl rfl (fun h => eo_neq rfl (ev_if h rfl) rfl) rfl ?_
        refine ne (eo_or rfl rfl (fun hb => ev_if hb rfl)) rfl ?_
        refine ne (eo_mv rfl rfl) rfl ?_
        refine ng rfl rfl (fun h => eo_mv rfl rfl) rfl ?_
        refine ng rfl rfl (fun h => eo_neq rfl (ev_if h rfl) rfl) rfl ?_
        refine ne (eo_or rfl rfl (fun hb => ev_if hb rfl)) rfl ?_
        refine ne (eo_mv rfl rfl) rfl ?_
        refine ng rfl rfl (fun h => eo_mv rfl rfl) rfl ?_
        refine ng rfl rfl (fun h => eo_mv rfl rfl) rfl ?_
        refine ng rfl rfl (fun h => eo_mv rfl rfl) rfl ?_
        refine ng rfl rfl (fun h => eo_slH rfl sl41 (ev_if h rfl) (ev_if h rfl) (by have hg0 := (or_f h).imp (fun h => (or_f h).imp (fun h => ne_f h) (fun h => ne_f h)) (fun h => ne_f h); omega) (by have hg0 := (or_f h).imp (fun h => (or_f h).imp (fun h => ne_f h) (fun h => ne_f h)) (fun h => ne_f h); omega)) rfl ?_
        refine ng rfl rfl (fun h => eo_call rfl en20 (evs_cons (ev_if h rfl) (evs_cons (ev_if h rfl) evs_nil)) (fun W1 hO => ints_c _ _ _ _ _ _ _ _ W1 (hS93.rd (hO.tl 4 rfl (((List.sublist_append_right _ _).trans (List.sublist_append_left _ _)).trans (List.sublist_append_left _ _)))) (Rd.pre (hS42.rd (hO.tl 4 rfl (((List.sublist_append_left _ _).trans (List.sublist_append_left _ _)).trans (List.sublist_append_left _ _)))) (by omega)) (Nat.le_trans placesR_le (by decide)))) rfl ?_
        refine ng rfl rfl (fun h => eo_not rfl (ev_if h rfl)) rfl ?_
        refine ne (eo_or rfl rfl (fun hb => ev_if hb rfl)) rfl ?_
        refine ne (eo_mv rfl rfl) rfl ?_
        refine ng rfl rfl (fun h => eo_loadA 0 rfl a33 rfl rfl rfl rfl) rfl ?_
        refine ng rfl rfl (fun h => eo_loadA 3 rfl a33 rfl rfl rfl rfl) rfl ?_
        refine ng rfl rfl (fun h => eo_call rfl en21 (evs_cons (ev_if h rfl) (evs_cons (ev_if h rfl) evs_nil)) (fun W1 hO => same43_c _ _ _ _ _ _ _ _ _ _ _ _ W1 (hS107.rd (hO.tl 4 rfl (List.sublist_append_right _ _))) (hr.old0 hO) (Nat.le_trans dirtR_le (by decide)))) rfl ?_
        refine ng rfl rfl (fun h => eo_not rfl (ev_if h rfl)) rfl ?_
        refine ne (eo_or rfl rfl (fun hb => ev_if hb rfl)) rfl ?_
        refine ne (eo_mv rfl rfl) rfl ?_
        refine ng rfl rfl (fun h => eo_field rfl f33_2 rfl) rfl ?_
        refine ng rfl rfl (fun h => eo_load 1 rfl s31 (ev_if h rfl) rfl rfl rfl) rfl ?_
        refine ng rfl rfl (fun h => eo_len rfl Try.underlying31 (ev_if h rfl)) rfl ?_
        refine ng rfl rfl (fun h => eo_field rfl f33_2 rfl) rfl ?_
        refine ng rfl rfl (fun h => eo_load 3 rfl s31 (ev_if h rfl) rfl rfl rfl) rfl ?_
        refine ng rfl rfl (fun h => eo_len rfl Try.underlying31 (ev_if h rfl)) rfl ?_
        refine ng rfl rfl (fun h => eo_neq rfl (ev_if h rfl) (ev_if h rfl)) rfl ?_
        refine ne (eo_or rfl rfl (fun hb => ev_if hb rfl)) rfl ?_
        refine go_nil ?_
        refine gq_next ?_
        refine gc_cond rfl (fun hc4 => ?_) (fun hc4 => ?_)
        ·
          have hd4 := (or_t hc4).imp (fun h => (or_t h).imp (fun h => (or_t h).imp (fun h => (or_t h).imp (fun h => (or_t h).imp (fun h => of_decide_eq_true h) (fun h => of_decide_eq_true h)) (fun h => of_decide_eq_true h)) (fun h => (not_t h))) (fun h => (not_t h))) (fun h => of_decide_eq_true h)
          exact Bool.noConfusion (hc4.symm.trans (show (((((decide ((placesR W H (fw % ((nn % (((n : Nat) : Int) + 1)) + 1)) sd).2 ≠ 0) || decide ((dirtR ⟨W, H, n, f⟩ (nn % (((n : Nat) : Int) + 1)) sd).2 ≠ 0)) || decide ((dirtR (dirtR ⟨W, H, n, f⟩ (nn % (((n : Nat) : Int) + 1)) sd).1 (nn % (((n : Nat) : Int) + 1)) sd).2 ≠ 0)) || (!(eqT ((placesR W H (fw % ((nn % (((n : Nat) : Int) + 1)) + 1)) sd).1.1) ((placesR W H (fw % ((nn % (((n : Nat) : Int) + 1)) + 1)) sd).1.2) (((fw % ((nn % (((n : Nat) : Int) + 1)) + 1))).toNat) ((placesR W H (nn % (((n : Nat) : Int) + 1)) sd).1.2)))) || (!(eqP (dirtR (dirtR ⟨W, H, n, f⟩ (nn % (((n : Nat) : Int) + 1)) sd).1 (nn % (((n : Nat) : Int) + 1)) sd).1 ⟨W, H, n, f⟩))) || decide ((((dirtR ⟨W, H, n, f⟩ (nn % (((n : Nat) : Int) + 1)) sd).1.n : Nat) : Int) ≠ ((n : Nat) : Int))) = false from by rw [hT.1, hT.2.1, hT.2.2.1, eqP_of hT.2.2.2, hJ, hD.1]; simp [eqT_rf]))
        ·
          have hd4 := (or_f hc4).imp (fun h => (or_f h).imp (fun h => (or_f h).imp (fun h => (or_f h).imp (fun h => (or_f h).imp (fun h => ne_f h) (fun h => ne_f h)) (fun h => ne_f h)) (fun h => (not_f h))) (fun h => (not_f h))) (fun h => ne_f h)
          refine gc_skip ?_
          refine gq_next ?_
          refine gc_seq ?_
          refine gc_seq ?_
          refine gc_region ?_
          refine ne (eo_field rfl f33_2 rfl) rfl ?_
          refine ne (eo_load 3 rfl s31 rfl rfl rfl rfl) rfl ?_
          refine ne (eo_len rfl Try.underlying31 rfl) rfl ?_
          refine ne (eo_mv rfl rfl) rfl ?_
          refine go_nil ?_
          refine gq_next ?_
          refine gc_block ?_
          refine loop1 (fun (i : Nat) => i ≤ n) (fun (i : Nat) => n - i) (fun (i : Nat) => [(12, .slice (some ⟨g56, 0, none⟩) n n), (18, .pointer (some ⟨g18, 0, none⟩)), (144, .slice A n c), (145, .int .i64 ((n : Nat) : Int)), (146, .int .i64 (i : Int))]) (fun (i : Nat) => ⟨g20, 33, [.int .i64 ((dirtR (dirtR ⟨W, H, n, f⟩ (nn % (((n : Nat) : Int) + 1)) sd).1 (nn % (((n : Nat) : Int) + 1)) sd).1.W), .int .i64 ((dirtR (dirtR ⟨W, H, n, f⟩ (nn % (((n : Nat) : Int) + 1)) sd).1 (nn % (((n : Nat) : Int) + 1)) sd).1.H), .slice A107 ((dirtR (dirtR ⟨W, H, n, f⟩ (nn % (((n : Nat) : Int) + 1)) sd).1 (nn % (((n : Nat) : Int) + 1)) sd).1.n) k107]⟩ :: ⟨g18, 33, [.int .i64 ((dirtR ⟨W, H, n, f⟩ (nn % (((n : Nat) : Int) + 1)) sd).1.W), .int .i64 ((dirtR ⟨W, H, n, f⟩ (nn % (((n : Nat) : Int) + 1)) sd).1.H), .slice A100 ((dirtR ⟨W, H, n, f⟩ (nn % (((n : Nat) : Int) + 1)) sd).1.n) k100]⟩ :: ⟨g56, 4, tab n (bv (chF n sd (nn % (((n : Nat) : Int) + 1)).toNat)) ++ []⟩ :: ⟨g4, 33, [.int .i64 W, .int .i64 H, .slice A n c]⟩ :: (((S42 ++ S93) ++ S100) ++ S107)) 0 (by omega) ⟨rfl, rfl, rfl, rfl, rfl, trivial⟩ (List.Sublist.refl _) ?_
          intro i hI
          refine gc_seq ?_
          refine gc_region ?_
          refine ne (eo_lss rfl rfl rfl) rfl ?_
          refine go_nil ?_
          refine gq_next ?_
          refine gc_seq ?_
          refine gc_cond rfl (fun hc5 => ?_) (fun hc5 => ?_)
          ·
            replace hc5 := of_decide_eq_true hc5
            refine gc_skip ?_
            refine gq_next ?_
            refine gc_seq ?_
            refine gc_block ?_
            refine gc_seq ?_
            refine gc_region ?_
            refine ne (eo_mv rfl rfl) rfl ?_
            refine ne (eo_indexR rfl sl31 rfl rfl hr (by simp) (by omega) (by omega)) rfl ?_
            refine ne (eo_load_old rfl s4 rfl (Rd.tabb hr (by omega)) (by simp)) rfl ?_
            refine ne (eo_as rfl rfl) rfl ?_
            refine ne (eo_as rfl rfl) rfl ?_
            refine go_nil ?_
            refine gq_next ?_
            refine gc_seq ?_
            refine gc_draw [] [0, 1, 2, 3, 4, 5, 6, 7, 8, 9, 10, 11] [] [] (by kernel_rfl) (by kernel_rfl) ?_
            refine gp_nil ?_
            refine de rfl (eo_field rfl f33_2 rfl) rfl ?_
            refine de rfl (eo_load 1 rfl s31 rfl rfl rfl rfl) rfl ?_
            refine de rfl (eo_mv rfl rfl) rfl ?_
            refine de rfl (eo_indexS rfl sl31 rfl rfl (fun W1 hO => (hS100.rd (hO.tl 4 rfl ((List.sublist_append_right _ _).trans (List.sublist_append_left _ _))))) (by simp) (by omega) (by omega)) rfl ?_
            refine de rfl (eo_loadS rfl s4 rfl (fun W1 hO => Rd.tabb (hS100.rd (hO.tl 4 rfl ((List.sublist_append_right _ _).trans (List.sublist_append_left _ _)))) (by omega))) rfl ?_
            refine de rfl (eo_mv rfl rfl) rfl ?_
            refine de rfl (eo_bneq rfl rfl rfl Try.underlying4) rfl ?_
            refine de rfl (eo_mv rfl rfl) rfl ?_
            refine de rfl (eo_mv rfl rfl) rfl ?_
            refine de rfl (eo_index0 rfl sl31 rfl rfl (by omega) (by omega)) rfl ?_
            refine de rfl (eo_getb 2 rfl s4 rfl rfl (by omega)) rfl ?_
            refine de rfl (eo_bneq rfl rfl rfl Try.underlying4) rfl ?_
            refine ge_nil ?_
            refine ga_nil ?_
            refine gi_nil ?_
            refine gq_nq ?_
            refine gq_next ?_
            refine gc_cond rfl (fun hc6 => ?_) (fun hc6 => ?_)
            ·
              exact Bool.noConfusion (hc6.symm.trans (dirt_taken (m := ⟨W, H, n, f⟩) (d := (nn % (((n : Nat) : Int) + 1))) (s := sd) (i := i) hV k0 (by simp only; omega) (by omega)))
            ·
              refine gc_skip ?_
              refine gq_block_end ?_
              refine gq_next ?_
              refine gc_region ?_
              refine ne (eo_add rfl rfl rfl (by omega) (by omega)) rfl ?_
              refine ne (eo_mv rfl rfl) rfl ?_
              refine go_nil ?_
              exact round1 (i + 1) (by omega) (by omega) ⟨rfl, rfl, rfl, rfl, rfl, trivial⟩ (List.Sublist.refl _)
          ·
            replace hc5 := of_decide_eq_false hc5
            refine gc_exit ?_
            refine gq_then_exit ?_
            refine gq_then_exit ?_
            refine gq_block_hit ?_
            refine gq_next ?_
            refine gc_seq ?_
            refine gc_region ?_
            refine ne (eo_call rfl en10 rfl (fun W1 hO => exam43_c W1  )) rfl ?_
            refine ne (eo_as rfl rfl) rfl ?_
            refine go_nil ?_
            refine gq_next ?_
            refine gc_ret ?_
            refine gq_results (res1 rfl rfl) ?_
            exact fun W1 hO => ⟨rfl, hO.toExt⟩

end Go.Proofs.Ytibooikbbcilcaa
