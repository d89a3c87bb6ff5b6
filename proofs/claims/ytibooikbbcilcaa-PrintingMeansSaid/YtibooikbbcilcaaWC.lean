/-
  The walks of the functions of package printing and of the document's answer (part C): what each call returns, at every argument.
-/
import Derived.Test.YtibooikbbcilcaaWB
namespace Go.Proofs.Ytibooikbbcilcaa
open Go.RowKit Go.Eng

open Go.Bs
theorem en37 : Ent Try.prog 37 := ent_of Try.func37 (by kernel_rfl) rfl
theorem e4 : TyE Try.prog 4 (.bool false) 1 := ⟨rfl, by kernel_rfl⟩
theorem en39 : Ent Try.prog 39 := ent_of Try.func39 (by kernel_rfl) rfl
theorem en40 : Ent Try.prog 40 := ent_of Try.func40 (by kernel_rfl) rfl
theorem z33 : TyZ Try.prog 33 [.int .i64 0, .int .i64 0, .slice none 0 0] := .inl (by kernel_rfl)
theorem en35 : Ent Try.prog 35 := ent_of Try.func35 (by kernel_rfl) rfl
theorem b33_  (W : World) : (Instr.build 33 #[]).run Try.prog W = .ok (.agg #[.int .i64 0, .int .i64 0, .slice none 0 0]) W := by kernel_rfl
theorem en16 : Ent Try.prog 16 := ent_of Try.func16 (by kernel_rfl) rfl
theorem b33_012 (x0 : Int) (x1 : Int) (x2A : Option Addr) (x2n x2c : Nat) (W : World) : (Instr.build 33 #[(0, .int .i64 x0), (1, .int .i64 x1), (2, .slice x2A x2n x2c)]).run Try.prog W = .ok (.agg #[.int .i64 x0, .int .i64 x1, .slice x2A x2n x2c]) W := by kernel_rfl
theorem en17 : Ent Try.prog 17 := ent_of Try.func17 (by kernel_rfl) rfl
theorem lit31_0 (W : World) : (Instr.buildSlice 31 0 #[]).run Try.prog W = .ok (.slice (some ⟨W.heap.size, 0, none⟩) 0 0) (W.alloc (.cells #[] 4)) := by kernel_rfl

/-- barscan/barscanref43.next -/
theorem next_c (s : Int) (w : World)   :
    Calls Try.prog 40 #[.int .u32 s] w (fun e w' => e = .returned (.int .u32 (nxt s)) ∧ Ext w w') := by
  refine calls_enter (N := ⟨15, []⟩) [] ([]) Try.func40 rfl rfl rfl (Ow.start _) ?_
  refine gc_seq ?_
  refine gc_region ?_
  refine ne (eo_as rfl rfl) rfl ?_
  refine go_nil ?_
  refine gq_next ?_
  refine gc_seq ?_
  refine gc_region ?_
  refine ne (eo_mv rfl rfl) rfl ?_
  refine ne (eo_mv rfl rfl) rfl ?_
  refine ne (eo_shlk rfl rfl rfl (by omega)) rfl ?_
  refine ne (eo_xork rfl rfl rfl) rfl ?_
  refine ne (eo_as rfl rfl) rfl ?_
  refine go_nil ?_
  refine gq_next ?_
  refine gc_seq ?_
  refine gc_region ?_
  refine ne (eo_mv rfl rfl) rfl ?_
  refine ne (eo_mv rfl rfl) rfl ?_
  refine ne (eo_shrk rfl rfl rfl (by omega)) rfl ?_
  refine ne (eo_xork rfl rfl rfl) rfl ?_
  refine ne (eo_as rfl rfl) rfl ?_
  refine go_nil ?_
  refine gq_next ?_
  refine gc_seq ?_
  refine gc_region ?_
  refine ne (eo_mv rfl rfl) rfl ?_
  refine ne (eo_mv rfl rfl) rfl ?_
  refine ne (eo_shlk rfl rfl rfl (by omega)) rfl ?_
  refine ne (eo_xork rfl rfl rfl) rfl ?_
  refine ne (eo_as rfl rfl) rfl ?_
  refine go_nil ?_
  refine gq_next ?_
  refine gc_ret ?_
  refine gq_results (res1 rfl rfl) ?_
  exact fun W1 hO => ⟨rfl, hO.toExt⟩

/-- barscan/printing.Places -/
theorem places_x (W : Int) (H : Int) (n : Int) (sd : Int) (w : World)  (hs0 : 0 ≤ sd) (hs1 : sd ≤ 4294967295) :
    Calls Try.prog 16 #[.int .i64 W, .int .i64 H, .int .i64 n, .int .u32 sd] w (fun e w' => ∃ v Hn, e = .returned v ∧ RXs (placesR W H n sd) v Hn ∧ Ow [] w w' Hn) := by
  refine calls_enter (N := ⟨77, []⟩) [] ([]) Try.func16 rfl rfl rfl (Ow.start _) ?_
  refine gc_seq ?_
  refine gc_region ?_
  refine ne (eo_as rfl rfl) rfl ?_
  refine ne (eo_as rfl rfl) rfl ?_
  refine go_nil ?_
  refine gq_next ?_
  refine gc_seq ?_
  refine gc_seq ?_
  refine gc_region ?_
  refine ne (eo_mv rfl rfl) rfl ?_
  refine ne (eo_mv rfl rfl) rfl ?_
  refine ne (eo_call rfl en37 rfl (fun W1 hO => pposs_c _ _ W1  )) rfl ?_
  refine ne (eo_not rfl rfl) rfl ?_
  refine go_nil ?_
  refine gq_next ?_
  refine gc_cond rfl (fun hc0 => ?_) (fun hc0 => ?_)
  ·
    have hd0 := (not_t hc0)
    have hf0 := not_t hc0
    refine gc_seq ?_
    refine gc_region ?_
    refine ne (eo_as rfl rfl) rfl ?_
    refine ne (eo_as rfl rfl) rfl ?_
    refine go_nil ?_
    refine gq_next ?_
    refine gc_ret ?_
    refine gq_then_ret ?_
    refine gq_results (res2 rfl rfl rfl) ?_
    exact fun W1 hO => rxs_nil hO (placesR_size hf0)
  ·
    have hd0 := (not_f hc0)
    have hf0 := not_f hc0
    have hfb := fits_bd hf0
    obtain ⟨f1, f2, f3, f4, f5⟩ := fitsB_iff.1 hf0
    refine gc_skip ?_
    refine gq_next ?_
    refine gc_seq ?_
    refine gc_region ?_
    refine ne (eo_mv rfl rfl) rfl ?_
    refine ne (eo_mv rfl rfl) rfl ?_
    refine ne (eo_mul rfl rfl rfl (by omega) (by omega)) rfl ?_
    refine ne (eo_as rfl rfl) rfl ?_
    refine go_nil ?_
    refine gq_next ?_
    refine gc_seq ?_
    refine gc_seq ?_
    refine gc_region ?_
    refine ne (eo_mv rfl rfl) rfl ?_
    refine ne (eo_lss rfl rfl rfl) rfl ?_
    refine ne (eo_mv rfl rfl) rfl ?_
    refine ng rfl rfl (fun h => eo_mv rfl rfl) rfl ?_
    refine ng rfl rfl (fun h => eo_mv rfl rfl) rfl ?_
    refine ng rfl rfl (fun h => eo_min rfl (ev_if h rfl) rfl) rfl ?_
    refine ng rfl rfl (fun h => eo_gtr rfl (ev_if h rfl) (ev_if h rfl)) rfl ?_
    refine ne (eo_or rfl rfl (fun hb => ev_if hb rfl)) rfl ?_
    refine go_nil ?_
    refine gq_next ?_
    refine gc_cond rfl (fun hc1 => ?_) (fun hc1 => ?_)
    ·
      have hd1 := (or_t hc1).imp (fun h => of_decide_eq_true h) (fun h => of_decide_eq_true h)
      refine gc_seq ?_
      refine gc_region ?_
      refine ne (eo_as rfl rfl) rfl ?_
      refine ne (eo_as rfl rfl) rfl ?_
      refine go_nil ?_
      refine gq_next ?_
      refine gc_ret ?_
      refine gq_then_ret ?_
      refine gq_results (res2 rfl rfl rfl) ?_
      exact fun W1 hO => rxs_nil hO (placesR_range hf0 (by omega))
    ·
      have hd1 := (or_f hc1).imp (fun h => of_decide_eq_false h) (fun h => of_decide_eq_false h)
      refine gc_skip ?_
      refine gq_next ?_
      refine gc_seq ?_
      refine gc_region ?_
      refine ne (eo_mv rfl rfl) rfl ?_
      refine ne (eo_xork rfl rfl rfl) rfl ?_
      refine ne (eo_as rfl rfl) rfl ?_
      refine go_nil ?_
      refine gq_next ?_
      refine gc_seq ?_
      refine gc_seq ?_
      refine gc_region ?_
      refine ne (eo_mv rfl rfl) rfl ?_
      refine ne (eo_eql rfl rfl rfl) rfl ?_
      refine go_nil ?_
      refine gq_next ?_
      refine gc_cond rfl (fun hc2 => ?_) (fun hc2 => ?_)
      ·
        replace hc2 := of_decide_eq_true hc2
        refine gc_region ?_
        refine ne (eo_as rfl rfl) rfl ?_
        refine go_nil ?_
        refine gq_next ?_
        refine gc_seq ?_
        refine gc_region ?_
        refine ne (eo_mv rfl rfl) rfl ?_
        refine nx (xo_makeb rfl Try.underlying31 e4 rfl rfl (by omega) (by omega) (by omega)) rfl ?_
        rintro _ _ ⟨g35, rfl, rfl⟩
        refine ne (eo_as rfl rfl) rfl ?_
        refine go_nil ?_
        refine gq_next ?_
        refine gc_seq ?_
        refine gc_region ?_
        refine ne (eo_mv rfl rfl) rfl ?_
        refine nx (xo_make0 rfl Try.underlying41 e3 rfl rfl (by omega) (by omega) (by omega)) rfl ?_
        rintro _ _ ⟨s37, hs37, rfl, rfl⟩
        refine ne (eo_as rfl rfl) rfl ?_
        refine go_nil ?_
        refine gq_next ?_
        refine gc_seq ?_
        refine gc_seq ?_
        refine gc_region ?_
        refine ne (eo_mv rfl rfl) rfl ?_
        refine ne (eo_mv rfl rfl) rfl ?_
        refine go_nil ?_
        refine gq_next ?_
        refine gc_block ?_
        refine loop3 (fun (i : Nat) (st : Int) (s : AS) => (i : Int) ≤ n ∧ st = stS sd i ∧ s.Ok 1 i (tab i (iv .i64 (fun i => (plF (W * H).toNat sd i : Int))))) (fun (i : Nat) (st : Int) (s : AS) => (n - i).toNat) (fun (i : Nat) (st : Int) (s : AS) => [(10, .int .i64 (W * H)), (11, .int .u32 st), (12, .slice (some ⟨g35, 0, none⟩) (((W * H)).toNat) (((W * H)).toNat)), (13, s.val i), (38, .int .i64 n), (39, .int .i64 (i : Int))]) (fun (i : Nat) (st : Int) (s : AS) => ⟨g35, 4, tab (((W * H)).toNat) (bv (chF (W * H).toNat sd i)) ++ []⟩ :: s.blks 3 (tab i (iv .i64 (fun i => (plF (W * H).toNat sd i : Int))))) 0 1 s37 ⟨by omega, (by show _ = seed0 sd; unfold seed0; rw [if_pos hc2]), hs37⟩ ⟨rfl, rfl, rfl, rfl, rfl, rfl, trivial⟩ (List.Sublist.refl _) ?_
        rintro i st s ⟨hi, hst, hs⟩
        refine gc_seq ?_
        refine gc_region ?_
        refine ne (eo_lss rfl rfl rfl) rfl ?_
        refine go_nil ?_
        refine gq_next ?_
        refine gc_seq ?_
        refine gc_cond rfl (fun hc3 => ?_) (fun hc3 => ?_)
        ·
          replace hc3 := of_decide_eq_true hc3
          have hstb := stS_bd (s := sd) (i := i)
          have hnb : 0 ≤ nxt st ∧ nxt st ≤ 4294967295 := nxt_bd
          have hnx : nxt st = stS sd (i + 1) := by rw [hst]; rfl
          have hlt := start_lt (N := (W * H).toNat) (s := nxt st) (by omega)
          have hms := Int.emod_nonneg (nxt st) (show W * H ≠ 0 by omega)
          have hms2 := Int.emod_lt_of_pos (nxt st) (show 0 < W * H by omega)
          have hfree := plF_new (N := (W * H).toNat) (s := sd) (i := i) (by omega)
          have hsn : ((((W * H).toNat : Nat) : Int)) = W * H := by omega
          refine gc_skip ?_
          refine gq_next ?_
          refine gc_seq ?_
          refine gc_block ?_
          refine gc_seq ?_
          refine gc_region ?_
          refine ne (eo_mv rfl rfl) rfl ?_
          refine ne (eo_mv rfl rfl) rfl ?_
          refine ne (eo_shlk rfl rfl rfl (by omega)) rfl ?_
          refine ne (eo_xork rfl rfl rfl) rfl ?_
          refine ne (eo_as rfl rfl) rfl ?_
          refine go_nil ?_
          refine gq_next ?_
          refine gc_seq ?_
          refine gc_region ?_
          refine ne (eo_mv rfl rfl) rfl ?_
          refine ne (eo_mv rfl rfl) rfl ?_
          refine ne (eo_shrk rfl rfl rfl (by omega)) rfl ?_
          refine ne (eo_xork rfl rfl rfl) rfl ?_
          refine ne (eo_as rfl rfl) rfl ?_
          refine go_nil ?_
          refine gq_next ?_
          refine gc_seq ?_
          refine gc_region ?_
          refine ne (eo_mv rfl rfl) rfl ?_
          refine ne (eo_mv rfl rfl) rfl ?_
          refine ne (eo_shlk rfl rfl rfl (by omega)) rfl ?_
          refine ne (eo_xork rfl rfl rfl) rfl ?_
          refine ne (eo_as rfl rfl) rfl ?_
          refine go_nil ?_
          refine gq_next ?_
          refine gc_seq ?_
          refine gc_weak (L' := [(10, .int .i64 (W * H)), (11, .int .u32 (nxt st)), (12, .slice (some ⟨g35, 0, none⟩) (((W * H)).toNat) (((W * H)).toNat)), (13, s.val i), (38, .int .i64 n), (39, .int .i64 (i : Int))]) (H' := ⟨g35, 4, tab (((W * H)).toNat) (bv (chF (W * H).toNat sd i)) ++ []⟩ :: s.blks 3 (tab i (iv .i64 (fun i => (plF (W * H).toNat sd i : Int))))) ⟨rfl, rfl, rfl, rfl, rfl, rfl, trivial⟩ (List.Sublist.refl _) ?_
          refine gc_region ?_
          refine ne (eo_mv rfl rfl) rfl ?_
          refine ne (eo_convk rfl rfl ⟨_, Try.underlying40⟩ Try.underlying68 (u64_in (by omega) (by omega))) rfl ?_
          refine ne (eo_mv rfl rfl) rfl ?_
          refine ne (eo_convk rfl rfl ⟨_, Try.underlying3⟩ Try.underlying68 (u64_in (by omega) (by omega))) rfl ?_
          refine ne (eo_remk rfl rfl rfl (by omega) (by omega)) rfl ?_
          refine ne (eo_convi rfl rfl ⟨_, Try.underlying68⟩ Try.underlying3 (by omega) (by omega)) rfl ?_
          refine ne (eo_as rfl rfl) rfl ?_
          refine go_nil ?_
          refine gq_next ?_
          refine gc_seq ?_
          refine gc_block ?_
          refine loop2 (fun (p : Nat) (t : Nat) => p < (W * H).toNat ∧ probeF (chF (W * H).toNat sd i) (W * H).toNat t p = plF (W * H).toNat sd i) (fun (p : Nat) (t : Nat) => t) (fun (p : Nat) (t : Nat) => [(10, .int .i64 (W * H)), (11, .int .u32 (nxt st)), (12, .slice (some ⟨g35, 0, none⟩) (((W * H)).toNat) (((W * H)).toNat)), (13, s.val i), (14, .int .i64 (p : Int)), (38, .int .i64 n), (39, .int .i64 (i : Int))]) (fun (p : Nat) (t : Nat) => ⟨g35, 4, tab (((W * H)).toNat) (bv (chF (W * H).toNat sd i)) ++ []⟩ :: s.blks 3 (tab i (iv .i64 (fun i => (plF (W * H).toNat sd i : Int))))) ((nxt st % (W * H)).toNat) ((W * H).toNat) ⟨by omega, by unfold plF; rw [← hnx, hsn]⟩ ⟨rfl, rfl, rfl, rfl, (look_int rfl (by omega)), rfl, rfl, trivial⟩ (List.Sublist.refl _) ?_
          rintro p t ⟨hp, hpr⟩
          refine gc_seq ?_
          refine gc_seq ?_
          refine gc_region ?_
          refine ne (eo_mv rfl rfl) rfl ?_
          refine ne (eo_mv rfl rfl) rfl ?_
          refine ne (eo_index0 rfl sl31 rfl rfl (by omega) (by omega)) rfl ?_
          refine ne (eo_getb 0 rfl s4 rfl rfl (by omega)) rfl ?_
          refine go_nil ?_
          refine gq_next ?_
          refine gc_cond rfl (fun hc4 => ?_) (fun hc4 => ?_)
          ·
            obtain ⟨t1, rfl, hp2⟩ := probe_step hpr hfree hc4
            refine gc_skip ?_
            refine gq_next ?_
            refine gc_block ?_
            refine gc_seq ?_
            refine gc_region ?_
            refine ne (eo_mv rfl rfl) rfl ?_
            refine ne (eo_add rfl rfl rfl (by omega) (by omega)) rfl ?_
            refine ne (eo_as rfl rfl) rfl ?_
            refine go_nil ?_
            refine gq_next ?_
            refine gc_seq ?_
            refine gc_region ?_
            refine ne (eo_mv rfl rfl) rfl ?_
            refine ne (eo_mv rfl rfl) rfl ?_
            refine ne (eo_eql rfl rfl rfl) rfl ?_
            refine go_nil ?_
            refine gq_next ?_
            refine gc_cond rfl (fun hc5 => ?_) (fun hc5 => ?_)
            ·
              replace hc5 := of_decide_eq_true hc5
              refine gc_region ?_
              refine ne (eo_as rfl rfl) rfl ?_
              refine go_nil ?_
              refine gq_block_end ?_
              exact round2 0 t1 ⟨by omega, by rw [if_pos (by omega)] at hp2; exact hp2⟩ (by omega) ⟨rfl, rfl, rfl, rfl, rfl, rfl, rfl, trivial⟩ (List.Sublist.refl _)
            ·
              replace hc5 := of_decide_eq_false hc5
              refine gc_skip ?_
              refine gq_block_end ?_
              exact round2 (p + 1) t1 ⟨by omega, by rw [if_neg (by omega)] at hp2; exact hp2⟩ (by omega) ⟨rfl, rfl, rfl, rfl, rfl, rfl, rfl, trivial⟩ (List.Sublist.refl _)
          ·
            have hpe := probe_done hpr hc4
            subst hpe
            refine gc_exit ?_
            refine gq_then_exit ?_
            refine gq_then_exit ?_
            refine gq_block_hit ?_
            refine gq_next ?_
            refine gc_seq ?_
            refine gc_region ?_
            refine ne (eo_mv rfl rfl) rfl ?_
            refine ne (eo_mv rfl rfl) rfl ?_
            refine ne (eo_index0 rfl sl31 rfl rfl (by omega) (by omega)) rfl ?_
            refine nu (xo_setb 0 rfl s4 rfl rfl rfl (by omega)) ?_
            rintro _ _ ⟨rfl, rfl⟩
            refine go_nil ?_
            refine gq_next ?_
            refine gc_region ?_
            refine ne (eo_mv rfl rfl) rfl ?_
            refine ne (eo_mv rfl rfl) rfl ?_
            refine nx (xo_lit1 rfl Try.underlying41 e3 rfl (by first | rfl | exact AS.one)) rfl ?_
            rintro _ _ ⟨g73, rfl, rfl⟩
            refine nx (xo_app1i 2 rfl rfl Try.underlying41 e3 rfl hs rfl rfl rfl (by omega) (by decide)) rfl ?_
            rintro _ _ ⟨s74, hs74, rfl, rfl⟩
            refine ne (eo_as rfl rfl) rfl ?_
            refine go_nil ?_
            refine gq_block_end ?_
            refine gq_next ?_
            refine gc_region ?_
            refine ne (eo_add rfl rfl rfl (by omega) (by omega)) rfl ?_
            refine ne (eo_mv rfl rfl) rfl ?_
            refine go_nil ?_
            exact round3 (i + 1) (nxt st) s74 ⟨by omega, hnx, hs74⟩ (by omega) ⟨rfl, rfl, rfl, rfl, rfl, rfl, trivial⟩ (List.Sublist.cons _ (List.Sublist.refl _))
        ·
          replace hc3 := of_decide_eq_false hc3
          refine gc_exit ?_
          refine gq_then_exit ?_
          refine gq_then_exit ?_
          refine gq_block_hit ?_
          refine gq_next ?_
          refine gc_seq ?_
          refine gc_region ?_
          refine ne (eo_mv rfl rfl) rfl ?_
          refine ne (eo_as rfl rfl) rfl ?_
          refine ne (eo_as rfl rfl) rfl ?_
          refine go_nil ?_
          refine gq_next ?_
          refine gc_ret ?_
          refine gq_results (res2 rfl rfl rfl) ?_
          have hin : n.toNat = i := by omega
          subst hin
          exact fun W1 hO => rxs_as 1 hO rfl hs (placesR_ok hf0 (by omega))
      ·
        replace hc2 := of_decide_eq_false hc2
        refine gc_skip ?_
        refine gq_next ?_
        refine gc_seq ?_
        refine gc_region ?_
        refine ne (eo_mv rfl rfl) rfl ?_
        refine nx (xo_makeb rfl Try.underlying31 e4 rfl rfl (by omega) (by omega) (by omega)) rfl ?_
        rintro _ _ ⟨g35, rfl, rfl⟩
        refine ne (eo_as rfl rfl) rfl ?_
        refine go_nil ?_
        refine gq_next ?_
        refine gc_seq ?_
        refine gc_region ?_
        refine ne (eo_mv rfl rfl) rfl ?_
        refine nx (xo_make0 rfl Try.underlying41 e3 rfl rfl (by omega) (by omega) (by omega)) rfl ?_
        rintro _ _ ⟨s37, hs37, rfl, rfl⟩
        refine ne (eo_as rfl rfl) rfl ?_
        refine go_nil ?_
        refine gq_next ?_
        refine gc_seq ?_
        refine gc_seq ?_
        refine gc_region ?_
        refine ne (eo_mv rfl rfl) rfl ?_
        refine ne (eo_mv rfl rfl) rfl ?_
        refine go_nil ?_
        refine gq_next ?_
        refine gc_block ?_
        refine loop3 (fun (i : Nat) (st : Int) (s : AS) => (i : Int) ≤ n ∧ st = stS sd i ∧ s.Ok 1 i (tab i (iv .i64 (fun i => (plF (W * H).toNat sd i : Int))))) (fun (i : Nat) (st : Int) (s : AS) => (n - i).toNat) (fun (i : Nat) (st : Int) (s : AS) => [(10, .int .i64 (W * H)), (11, .int .u32 st), (12, .slice (some ⟨g35, 0, none⟩) (((W * H)).toNat) (((W * H)).toNat)), (13, s.val i), (38, .int .i64 n), (39, .int .i64 (i : Int))]) (fun (i : Nat) (st : Int) (s : AS) => ⟨g35, 4, tab (((W * H)).toNat) (bv (chF (W * H).toNat sd i)) ++ []⟩ :: s.blks 3 (tab i (iv .i64 (fun i => (plF (W * H).toNat sd i : Int))))) 0 (xorK .u32 sd 2654435769) s37 ⟨by omega, (by show _ = seed0 sd; unfold seed0; rw [if_neg hc2]), hs37⟩ ⟨rfl, rfl, rfl, rfl, rfl, rfl, trivial⟩ (List.Sublist.refl _) ?_
        rintro i st s ⟨hi, hst, hs⟩
        refine gc_seq ?_
        refine gc_region ?_
        refine ne (eo_lss rfl rfl rfl) rfl ?_
        refine go_nil ?_
        refine gq_next ?_
        refine gc_seq ?_
        refine gc_cond rfl (fun hc3 => ?_) (fun hc3 => ?_)
        ·
          replace hc3 := of_decide_eq_true hc3
          have hstb := stS_bd (s := sd) (i := i)
          have hnb : 0 ≤ nxt st ∧ nxt st ≤ 4294967295 := nxt_bd
          have hnx : nxt st = stS sd (i + 1) := by rw [hst]; rfl
          have hlt := start_lt (N := (W * H).toNat) (s := nxt st) (by omega)
          have hms := Int.emod_nonneg (nxt st) (show W * H ≠ 0 by omega)
          have hms2 := Int.emod_lt_of_pos (nxt st) (show 0 < W * H by omega)
          have hfree := plF_new (N := (W * H).toNat) (s := sd) (i := i) (by omega)
          have hsn : ((((W * H).toNat : Nat) : Int)) = W * H := by omega
          refine gc_skip ?_
          refine gq_next ?_
          refine gc_seq ?_
          refine gc_block ?_
          refine gc_seq ?_
          refine gc_region ?_
          refine ne (eo_mv rfl rfl) rfl ?_
          refine ne (eo_mv rfl rfl) rfl ?_
          refine ne (eo_shlk rfl rfl rfl (by omega)) rfl ?_
          refine ne (eo_xork rfl rfl rfl) rfl ?_
          refine ne (eo_as rfl rfl) rfl ?_
          refine go_nil ?_
          refine gq_next ?_
          refine gc_seq ?_
          refine gc_region ?_
          refine ne (eo_mv rfl rfl) rfl ?_
          refine ne (eo_mv rfl rfl) rfl ?_
          refine ne (eo_shrk rfl rfl rfl (by omega)) rfl ?_
          refine ne (eo_xork rfl rfl rfl) rfl ?_
          refine ne (eo_as rfl rfl) rfl ?_
          refine go_nil ?_
          refine gq_next ?_
          refine gc_seq ?_
          refine gc_region ?_
          refine ne (eo_mv rfl rfl) rfl ?_
          refine ne (eo_mv rfl rfl) rfl ?_
          refine ne (eo_shlk rfl rfl rfl (by omega)) rfl ?_
          refine ne (eo_xork rfl rfl rfl) rfl ?_
          refine ne (eo_as rfl rfl) rfl ?_
          refine go_nil ?_
          refine gq_next ?_
          refine gc_seq ?_
          refine gc_weak (L' := [(10, .int .i64 (W * H)), (11, .int .u32 (nxt st)), (12, .slice (some ⟨g35, 0, none⟩) (((W * H)).toNat) (((W * H)).toNat)), (13, s.val i), (38, .int .i64 n), (39, .int .i64 (i : Int))]) (H' := ⟨g35, 4, tab (((W * H)).toNat) (bv (chF (W * H).toNat sd i)) ++ []⟩ :: s.blks 3 (tab i (iv .i64 (fun i => (plF (W * H).toNat sd i : Int))))) ⟨rfl, rfl, rfl, rfl, rfl, rfl, trivial⟩ (List.Sublist.refl _) ?_
          refine gc_region ?_
          refine ne (eo_mv rfl rfl) rfl ?_
          refine ne (eo_convk rfl rfl ⟨_, Try.underlying40⟩ Try.underlying68 (u64_in (by omega) (by omega))) rfl ?_
          refine ne (eo_mv rfl rfl) rfl ?_
          refine ne (eo_convk rfl rfl ⟨_, Try.underlying3⟩ Try.underlying68 (u64_in (by omega) (by omega))) rfl ?_
          refine ne (eo_remk rfl rfl rfl (by omega) (by omega)) rfl ?_
          refine ne (eo_convi rfl rfl ⟨_, Try.underlying68⟩ Try.underlying3 (by omega) (by omega)) rfl ?_
          refine ne (eo_as rfl rfl) rfl ?_
          refine go_nil ?_
          refine gq_next ?_
          refine gc_seq ?_
          refine gc_block ?_
          refine loop2 (fun (p : Nat) (t : Nat) => p < (W * H).toNat ∧ probeF (chF (W * H).toNat sd i) (W * H).toNat t p = plF (W * H).toNat sd i) (fun (p : Nat) (t : Nat) => t) (fun (p : Nat) (t : Nat) => [(10, .int .i64 (W * H)), (11, .int .u32 (nxt st)), (12, .slice (some ⟨g35, 0, none⟩) (((W * H)).toNat) (((W * H)).toNat)), (13, s.val i), (14, .int .i64 (p : Int)), (38, .int .i64 n), (39, .int .i64 (i : Int))]) (fun (p : Nat) (t : Nat) => ⟨g35, 4, tab (((W * H)).toNat) (bv (chF (W * H).toNat sd i)) ++ []⟩ :: s.blks 3 (tab i (iv .i64 (fun i => (plF (W * H).toNat sd i : Int))))) ((nxt st % (W * H)).toNat) ((W * H).toNat) ⟨by omega, by unfold plF; rw [← hnx, hsn]⟩ ⟨rfl, rfl, rfl, rfl, (look_int rfl (by omega)), rfl, rfl, trivial⟩ (List.Sublist.refl _) ?_
          rintro p t ⟨hp, hpr⟩
          refine gc_seq ?_
          refine gc_seq ?_
          refine gc_region ?_
          refine ne (eo_mv rfl rfl) rfl ?_
          refine ne (eo_mv rfl rfl) rfl ?_
          refine ne (eo_index0 rfl sl31 rfl rfl (by omega) (by omega)) rfl ?_
          refine ne (eo_getb 0 rfl s4 rfl rfl (by omega)) rfl ?_
          refine go_nil ?_
          refine gq_next ?_
          refine gc_cond rfl (fun hc4 => ?_) (fun hc4 => ?_)
          ·
            obtain ⟨t1, rfl, hp2⟩ := probe_step hpr hfree hc4
            refine gc_skip ?_
            refine gq_next ?_
            refine gc_block ?_
            refine gc_seq ?_
            refine gc_region ?_
            refine ne (eo_mv rfl rfl) rfl ?_
            refine ne (eo_add rfl rfl rfl (by omega) (by omega)) rfl ?_
            refine ne (eo_as rfl rfl) rfl ?_
            refine go_nil ?_
            refine gq_next ?_
            refine gc_seq ?_
            refine gc_region ?_
            refine ne (eo_mv rfl rfl) rfl ?_
            refine ne (eo_mv rfl rfl) rfl ?_
            refine ne (eo_eql rfl rfl rfl) rfl ?_
            refine go_nil ?_
            refine gq_next ?_
            refine gc_cond rfl (fun hc5 => ?_) (fun hc5 => ?_)
            ·
              replace hc5 := of_decide_eq_true hc5
              refine gc_region ?_
              refine ne (eo_as rfl rfl) rfl ?_
              refine go_nil ?_
              refine gq_block_end ?_
              exact round2 0 t1 ⟨by omega, by rw [if_pos (by omega)] at hp2; exact hp2⟩ (by omega) ⟨rfl, rfl, rfl, rfl, rfl, rfl, rfl, trivial⟩ (List.Sublist.refl _)
            ·
              replace hc5 := of_decide_eq_false hc5
              refine gc_skip ?_
              refine gq_block_end ?_
              exact round2 (p + 1) t1 ⟨by omega, by rw [if_neg (by omega)] at hp2; exact hp2⟩ (by omega) ⟨rfl, rfl, rfl, rfl, rfl, rfl, rfl, trivial⟩ (List.Sublist.refl _)
          ·
            have hpe := probe_done hpr hc4
            subst hpe
            refine gc_exit ?_
            refine gq_then_exit ?_
            refine gq_then_exit ?_
            refine gq_block_hit ?_
            refine gq_next ?_
            refine gc_seq ?_
            refine gc_region ?_
            refine ne (eo_mv rfl rfl) rfl ?_
            refine ne (eo_mv rfl rfl) rfl ?_
            refine ne (eo_index0 rfl sl31 rfl rfl (by omega) (by omega)) rfl ?_
            refine nu (xo_setb 0 rfl s4 rfl rfl rfl (by omega)) ?_
            rintro _ _ ⟨rfl, rfl⟩
            refine go_nil ?_
            refine gq_next ?_
            refine gc_region ?_
            refine ne (eo_mv rfl rfl) rfl ?_
            refine ne (eo_mv rfl rfl) rfl ?_
            refine nx (xo_lit1 rfl Try.underlying41 e3 rfl (by first | rfl | exact AS.one)) rfl ?_
            rintro _ _ ⟨g73, rfl, rfl⟩
            refine nx (xo_app1i 2 rfl rfl Try.underlying41 e3 rfl hs rfl rfl rfl (by omega) (by decide)) rfl ?_
            rintro _ _ ⟨s74, hs74, rfl, rfl⟩
            refine ne (eo_as rfl rfl) rfl ?_
            refine go_nil ?_
            refine gq_block_end ?_
            refine gq_next ?_
            refine gc_region ?_
            refine ne (eo_add rfl rfl rfl (by omega) (by omega)) rfl ?_
            refine ne (eo_mv rfl rfl) rfl ?_
            refine go_nil ?_
            exact round3 (i + 1) (nxt st) s74 ⟨by omega, hnx, hs74⟩ (by omega) ⟨rfl, rfl, rfl, rfl, rfl, rfl, trivial⟩ (List.Sublist.cons _ (List.Sublist.refl _))
        ·
          replace hc3 := of_decide_eq_false hc3
          refine gc_exit ?_
          refine gq_then_exit ?_
          refine gq_then_exit ?_
          refine gq_block_hit ?_
          refine gq_next ?_
          refine gc_seq ?_
          refine gc_region ?_
          refine ne (eo_mv rfl rfl) rfl ?_
          refine ne (eo_as rfl rfl) rfl ?_
          refine ne (eo_as rfl rfl) rfl ?_
          refine go_nil ?_
          refine gq_next ?_
          refine gc_ret ?_
          refine gq_results (res2 rfl rfl rfl) ?_
          have hin : n.toNat = i := by omega
          subst hin
          exact fun W1 hO => rxs_as 1 hO rfl hs (placesR_ok hf0 (by omega))

/-- barscan/barscanref43.Places -/
theorem rplaces_x (W : Int) (H : Int) (n : Int) (sd : Int) (w : World)  (hs0 : 0 ≤ sd) (hs1 : sd ≤ 4294967295) :
    Calls Try.prog 17 #[.int .i64 W, .int .i64 H, .int .i64 n, .int .u32 sd] w (fun e w' => ∃ v Hn, e = .returned v ∧ RXs (placesR W H n sd) v Hn ∧ Ow [] w w' Hn) := by
  refine calls_enter (N := ⟨68, []⟩) [] ([]) Try.func17 rfl rfl rfl (Ow.start _) ?_
  refine gc_seq ?_
  refine gc_region ?_
  refine ne (eo_as rfl rfl) rfl ?_
  refine ne (eo_as rfl rfl) rfl ?_
  refine go_nil ?_
  refine gq_next ?_
  refine gc_seq ?_
  refine gc_seq ?_
  refine gc_region ?_
  refine ne (eo_mv rfl rfl) rfl ?_
  refine ne (eo_mv rfl rfl) rfl ?_
  refine ne (eo_call rfl en39 rfl (fun W1 hO => fits43_c _ _ W1  )) rfl ?_
  refine ne (eo_not rfl rfl) rfl ?_
  refine go_nil ?_
  refine gq_next ?_
  refine gc_cond rfl (fun hc0 => ?_) (fun hc0 => ?_)
  ·
    have hd0 := (not_t hc0)
    have hf0 := not_t hc0
    refine gc_seq ?_
    refine gc_region ?_
    refine ne (eo_as rfl rfl) rfl ?_
    refine ne (eo_as rfl rfl) rfl ?_
    refine go_nil ?_
    refine gq_next ?_
    refine gc_ret ?_
    refine gq_then_ret ?_
    refine gq_results (res2 rfl rfl rfl) ?_
    exact fun W1 hO => rxs_nil hO (placesR_size hf0)
  ·
    have hd0 := (not_f hc0)
    have hf0 := not_f hc0
    have hfb := fits_bd hf0
    obtain ⟨f1, f2, f3, f4, f5⟩ := fitsB_iff.1 hf0
    refine gc_skip ?_
    refine gq_next ?_
    refine gc_seq ?_
    refine gc_seq ?_
    refine gc_region ?_
    refine ne (eo_mv rfl rfl) rfl ?_
    refine ne (eo_lss rfl rfl rfl) rfl ?_
    refine ne (eo_mv rfl rfl) rfl ?_
    refine ng rfl rfl (fun h => eo_mv rfl rfl) rfl ?_
    refine ng rfl rfl (fun h => eo_mv rfl rfl) rfl ?_
    refine ng rfl rfl (fun h => eo_mv rfl rfl) rfl ?_
    refine ng rfl rfl (fun h => eo_mul rfl (ev_if h rfl) (ev_if h rfl) (by have hg0 := of_decide_eq_false h; omega) (by have hg0 := of_decide_eq_false h; omega)) rfl ?_
    refine ng rfl rfl (fun h => eo_min rfl (ev_if h rfl) rfl) rfl ?_
    refine ng rfl rfl (fun h => eo_gtr rfl (ev_if h rfl) (ev_if h rfl)) rfl ?_
    refine ne (eo_or rfl rfl (fun hb => ev_if hb rfl)) rfl ?_
    refine go_nil ?_
    refine gq_next ?_
    refine gc_cond rfl (fun hc1 => ?_) (fun hc1 => ?_)
    ·
      have hd1 := (or_t hc1).imp (fun h => of_decide_eq_true h) (fun h => of_decide_eq_true h)
      refine gc_seq ?_
      refine gc_region ?_
      refine ne (eo_as rfl rfl) rfl ?_
      refine ne (eo_as rfl rfl) rfl ?_
      refine go_nil ?_
      refine gq_next ?_
      refine gc_ret ?_
      refine gq_then_ret ?_
      refine gq_results (res2 rfl rfl rfl) ?_
      exact fun W1 hO => rxs_nil hO (placesR_range hf0 (by omega))
    ·
      have hd1 := (or_f hc1).imp (fun h => of_decide_eq_false h) (fun h => of_decide_eq_false h)
      refine gc_skip ?_
      refine gq_next ?_
      refine gc_seq ?_
      refine gc_region ?_
      refine ne (eo_mv rfl rfl) rfl ?_
      refine ne (eo_xork rfl rfl rfl) rfl ?_
      refine ne (eo_as rfl rfl) rfl ?_
      refine go_nil ?_
      refine gq_next ?_
      refine gc_seq ?_
      refine gc_seq ?_
      refine gc_region ?_
      refine ne (eo_mv rfl rfl) rfl ?_
      refine ne (eo_eql rfl rfl rfl) rfl ?_
      refine go_nil ?_
      refine gq_next ?_
      refine gc_cond rfl (fun hc2 => ?_) (fun hc2 => ?_)
      ·
        replace hc2 := of_decide_eq_true hc2
        refine gc_region ?_
        refine ne (eo_as rfl rfl) rfl ?_
        refine go_nil ?_
        refine gq_next ?_
        refine gc_seq ?_
        refine gc_region ?_
        refine ne (eo_mv rfl rfl) rfl ?_
        refine ne (eo_mv rfl rfl) rfl ?_
        refine ne (eo_mul rfl rfl rfl (by omega) (by omega)) rfl ?_
        refine nx (xo_makeb rfl Try.underlying31 e4 rfl rfl (by omega) (by omega) (by omega)) rfl ?_
        rintro _ _ ⟨g36, rfl, rfl⟩
        refine ne (eo_as rfl rfl) rfl ?_
        refine go_nil ?_
        refine gq_next ?_
        refine gc_seq ?_
        refine gc_region ?_
        refine ne (eo_as rfl rfl) rfl ?_
        refine go_nil ?_
        refine gq_next ?_
        refine gc_seq ?_
        refine gc_seq ?_
        refine gc_region ?_
        refine ne (eo_as rfl rfl) rfl ?_
        refine go_nil ?_
        refine gq_next ?_
        refine gc_block ?_
        refine loop3 (fun (i : Nat) (st : Int) (s : AS) => (i : Int) ≤ n ∧ st = stS sd i ∧ s.Ok 1 i (tab i (iv .i64 (fun i => (plF (W * H).toNat sd i : Int))))) (fun (i : Nat) (st : Int) (s : AS) => (n - i).toNat) (fun (i : Nat) (st : Int) (s : AS) => [(0, .int .i64 W), (1, .int .i64 H), (2, .int .i64 n), (10, .int .u32 st), (11, .slice (some ⟨g36, 0, none⟩) (((W * H)).toNat) (((W * H)).toNat)), (12, s.val i), (13, .int .i64 (i : Int))]) (fun (i : Nat) (st : Int) (s : AS) => ⟨g36, 4, tab (((W * H)).toNat) (bv (chF (W * H).toNat sd i)) ++ []⟩ :: s.blks 3 (tab i (iv .i64 (fun i => (plF (W * H).toNat sd i : Int))))) 0 1 .nil ⟨by omega, (by show _ = seed0 sd; unfold seed0; rw [if_pos hc2]), AS.Ok0⟩ ⟨rfl, rfl, rfl, rfl, rfl, rfl, rfl, trivial⟩ (List.Sublist.refl _) ?_
        rintro i st s ⟨hi, hst, hs⟩
        refine gc_seq ?_
        refine gc_seq ?_
        refine gc_region ?_
        refine ne (eo_mv rfl rfl) rfl ?_
        refine ne (eo_mv rfl rfl) rfl ?_
        refine ne (eo_lss rfl rfl rfl) rfl ?_
        refine go_nil ?_
        refine gq_next ?_
        refine gc_cond rfl (fun hc3 => ?_) (fun hc3 => ?_)
        ·
          replace hc3 := of_decide_eq_true hc3
          have hstb := stS_bd (s := sd) (i := i)
          have hnb : 0 ≤ nxt st ∧ nxt st ≤ 4294967295 := nxt_bd
          have hnx : nxt st = stS sd (i + 1) := by rw [hst]; rfl
          have hlt := start_lt (N := (W * H).toNat) (s := nxt st) (by omega)
          have hms := Int.emod_nonneg (nxt st) (show W * H ≠ 0 by omega)
          have hms2 := Int.emod_lt_of_pos (nxt st) (show 0 < W * H by omega)
          have hfree := plF_new (N := (W * H).toNat) (s := sd) (i := i) (by omega)
          have hsn : ((((W * H).toNat : Nat) : Int)) = W * H := by omega
          refine gc_skip ?_
          refine gq_next ?_
          refine gc_seq ?_
          refine gc_block ?_
          refine gc_seq ?_
          refine gc_region ?_
          refine ne (eo_mv rfl rfl) rfl ?_
          refine ne (eo_call rfl en40 rfl (fun W1 hO => next_c _ W1  )) rfl ?_
          refine ne (eo_as rfl rfl) rfl ?_
          refine go_nil ?_
          refine gq_next ?_
          refine gc_seq ?_
          refine gc_region ?_
          refine ne (eo_mv rfl rfl) rfl ?_
          refine ne (eo_convi rfl rfl ⟨_, Try.underlying40⟩ Try.underlying3 (by omega) (by omega)) rfl ?_
          refine ne (eo_mv rfl rfl) rfl ?_
          refine ne (eo_mv rfl rfl) rfl ?_
          refine ne (eo_mul rfl rfl rfl (by omega) (by omega)) rfl ?_
          refine ne (eo_rem rfl rfl rfl (by omega) (by omega)) rfl ?_
          refine ne (eo_as rfl rfl) rfl ?_
          refine go_nil ?_
          refine gq_next ?_
          refine gc_seq ?_
          refine gc_block ?_
          refine loop2 (fun (p : Nat) (t : Nat) => p < (W * H).toNat ∧ probeF (chF (W * H).toNat sd i) (W * H).toNat t p = plF (W * H).toNat sd i) (fun (p : Nat) (t : Nat) => t) (fun (p : Nat) (t : Nat) => [(0, .int .i64 W), (1, .int .i64 H), (2, .int .i64 n), (10, .int .u32 (nxt st)), (11, .slice (some ⟨g36, 0, none⟩) (((W * H)).toNat) (((W * H)).toNat)), (12, s.val i), (13, .int .i64 (i : Int)), (14, .int .i64 (p : Int))]) (fun (p : Nat) (t : Nat) => ⟨g36, 4, tab (((W * H)).toNat) (bv (chF (W * H).toNat sd i)) ++ []⟩ :: s.blks 3 (tab i (iv .i64 (fun i => (plF (W * H).toNat sd i : Int))))) ((nxt st % (W * H)).toNat) ((W * H).toNat) ⟨by omega, by unfold plF; rw [← hnx, hsn]⟩ ⟨rfl, rfl, rfl, rfl, rfl, rfl, rfl, (look_int rfl (by omega)), trivial⟩ (List.Sublist.refl _) ?_
          rintro p t ⟨hp, hpr⟩
          refine gc_seq ?_
          refine gc_seq ?_
          refine gc_region ?_
          refine ne (eo_mv rfl rfl) rfl ?_
          refine ne (eo_mv rfl rfl) rfl ?_
          refine ne (eo_index0 rfl sl31 rfl rfl (by omega) (by omega)) rfl ?_
          refine ne (eo_getb 0 rfl s4 rfl rfl (by omega)) rfl ?_
          refine go_nil ?_
          refine gq_next ?_
          refine gc_cond rfl (fun hc4 => ?_) (fun hc4 => ?_)
          ·
            obtain ⟨t1, rfl, hp2⟩ := probe_step hpr hfree hc4
            refine gc_skip ?_
            refine gq_next ?_
            refine gc_block ?_
            refine gc_region ?_
            refine ne (eo_mv rfl rfl) rfl ?_
            refine ne (eo_add rfl rfl rfl (by omega) (by omega)) rfl ?_
            refine ne (eo_mv rfl rfl) rfl ?_
            refine ne (eo_mv rfl rfl) rfl ?_
            refine ne (eo_mul rfl rfl rfl (by omega) (by omega)) rfl ?_
            refine ne (eo_rem rfl rfl rfl (by omega) (by omega)) rfl ?_
            refine ne (eo_as rfl rfl) rfl ?_
            refine go_nil ?_
            refine gq_block_end ?_
            exact round2 (if p + 1 = (W * H).toNat then 0 else p + 1) t1 ⟨by split <;> omega, hp2⟩ (by omega) ⟨rfl, rfl, rfl, rfl, rfl, rfl, rfl, (look_int rfl (mod_next (by omega) (by omega))), trivial⟩ (List.Sublist.refl _)
          ·
            have hpe := probe_done hpr hc4
            subst hpe
            refine gc_exit ?_
            refine gq_then_exit ?_
            refine gq_then_exit ?_
            refine gq_block_hit ?_
            refine gq_next ?_
            refine gc_seq ?_
            refine gc_region ?_
            refine ne (eo_mv rfl rfl) rfl ?_
            refine ne (eo_mv rfl rfl) rfl ?_
            refine ne (eo_index0 rfl sl31 rfl rfl (by omega) (by omega)) rfl ?_
            refine nu (xo_setb 0 rfl s4 rfl rfl rfl (by omega)) ?_
            rintro _ _ ⟨rfl, rfl⟩
            refine go_nil ?_
            refine gq_next ?_
            refine gc_region ?_
            refine ne (eo_mv rfl rfl) rfl ?_
            refine ne (eo_mv rfl rfl) rfl ?_
            refine nx (xo_lit1 rfl Try.underlying41 e3 rfl (by first | rfl | exact AS.one)) rfl ?_
            rintro _ _ ⟨g65, rfl, rfl⟩
            refine nx (xo_app1i 2 rfl rfl Try.underlying41 e3 rfl hs rfl rfl rfl (by omega) (by decide)) rfl ?_
            rintro _ _ ⟨s66, hs66, rfl, rfl⟩
            refine ne (eo_as rfl rfl) rfl ?_
            refine go_nil ?_
            refine gq_block_end ?_
            refine gq_next ?_
            refine gc_region ?_
            refine ne (eo_mv rfl rfl) rfl ?_
            refine ne (eo_add rfl rfl rfl (by omega) (by omega)) rfl ?_
            refine ne (eo_as rfl rfl) rfl ?_
            refine go_nil ?_
            exact round3 (i + 1) (nxt st) s66 ⟨by omega, hnx, hs66⟩ (by omega) ⟨rfl, rfl, rfl, rfl, rfl, rfl, rfl, trivial⟩ (List.Sublist.cons _ (List.Sublist.refl _))
        ·
          replace hc3 := of_decide_eq_false hc3
          refine gc_exit ?_
          refine gq_then_exit ?_
          refine gq_then_exit ?_
          refine gq_block_hit ?_
          refine gq_next ?_
          refine gc_seq ?_
          refine gc_region ?_
          refine ne (eo_mv rfl rfl) rfl ?_
          refine ne (eo_as rfl rfl) rfl ?_
          refine ne (eo_as rfl rfl) rfl ?_
          refine go_nil ?_
          refine gq_next ?_
          refine gc_ret ?_
          refine gq_results (res2 rfl rfl rfl) ?_
          have hin : n.toNat = i := by omega
          subst hin
          exact fun W1 hO => rxs_as 1 hO rfl hs (placesR_ok hf0 (by omega))
      ·
        replace hc2 := of_decide_eq_false hc2
        refine gc_skip ?_
        refine gq_next ?_
        refine gc_seq ?_
        refine gc_region ?_
        refine ne (eo_mv rfl rfl) rfl ?_
        refine ne (eo_mv rfl rfl) rfl ?_
        refine ne (eo_mul rfl rfl rfl (by omega) (by omega)) rfl ?_
        refine nx (xo_makeb rfl Try.underlying31 e4 rfl rfl (by omega) (by omega) (by omega)) rfl ?_
        rintro _ _ ⟨g36, rfl, rfl⟩
        refine ne (eo_as rfl rfl) rfl ?_
        refine go_nil ?_
        refine gq_next ?_
        refine gc_seq ?_
        refine gc_region ?_
        refine ne (eo_as rfl rfl) rfl ?_
        refine go_nil ?_
        refine gq_next ?_
        refine gc_seq ?_
        refine gc_seq ?_
        refine gc_region ?_
        refine ne (eo_as rfl rfl) rfl ?_
        refine go_nil ?_
        refine gq_next ?_
        refine gc_block ?_
        refine loop3 (fun (i : Nat) (st : Int) (s : AS) => (i : Int) ≤ n ∧ st = stS sd i ∧ s.Ok 1 i (tab i (iv .i64 (fun i => (plF (W * H).toNat sd i : Int))))) (fun (i : Nat) (st : Int) (s : AS) => (n - i).toNat) (fun (i : Nat) (st : Int) (s : AS) => [(0, .int .i64 W), (1, .int .i64 H), (2, .int .i64 n), (10, .int .u32 st), (11, .slice (some ⟨g36, 0, none⟩) (((W * H)).toNat) (((W * H)).toNat)), (12, s.val i), (13, .int .i64 (i : Int))]) (fun (i : Nat) (st : Int) (s : AS) => ⟨g36, 4, tab (((W * H)).toNat) (bv (chF (W * H).toNat sd i)) ++ []⟩ :: s.blks 3 (tab i (iv .i64 (fun i => (plF (W * H).toNat sd i : Int))))) 0 (xorK .u32 sd 2654435769) .nil ⟨by omega, (by show _ = seed0 sd; unfold seed0; rw [if_neg hc2]), AS.Ok0⟩ ⟨rfl, rfl, rfl, rfl, rfl, rfl, rfl, trivial⟩ (List.Sublist.refl _) ?_
        rintro i st s ⟨hi, hst, hs⟩
        refine gc_seq ?_
        refine gc_seq ?_
        refine gc_region ?_
        refine ne (eo_mv rfl rfl) rfl ?_
        refine ne (eo_mv rfl rfl) rfl ?_
        refine ne (eo_lss rfl rfl rfl) rfl ?_
        refine go_nil ?_
        refine gq_next ?_
        refine gc_cond rfl (fun hc3 => ?_) (fun hc3 => ?_)
        ·
          replace hc3 := of_decide_eq_true hc3
          have hstb := stS_bd (s := sd) (i := i)
          have hnb : 0 ≤ nxt st ∧ nxt st ≤ 4294967295 := nxt_bd
          have hnx : nxt st = stS sd (i + 1) := by rw [hst]; rfl
          have hlt := start_lt (N := (W * H).toNat) (s := nxt st) (by omega)
          have hms := Int.emod_nonneg (nxt st) (show W * H ≠ 0 by omega)
          have hms2 := Int.emod_lt_of_pos (nxt st) (show 0 < W * H by omega)
          have hfree := plF_new (N := (W * H).toNat) (s := sd) (i := i) (by omega)
          have hsn : ((((W * H).toNat : Nat) : Int)) = W * H := by omega
          refine gc_skip ?_
          refine gq_next ?_
          refine gc_seq ?_
          refine gc_block ?_
          refine gc_seq ?_
          refine gc_region ?_
          refine ne (eo_mv rfl rfl) rfl ?_
          refine ne (eo_call rfl en40 rfl (fun W1 hO => next_c _ W1  )) rfl ?_
          refine ne (eo_as rfl rfl) rfl ?_
          refine go_nil ?_
          refine gq_next ?_
          refine gc_seq ?_
          refine gc_region ?_
          refine ne (eo_mv rfl rfl) rfl ?_
          refine ne (eo_convi rfl rfl ⟨_, Try.underlying40⟩ Try.underlying3 (by omega) (by omega)) rfl ?_
          refine ne (eo_mv rfl rfl) rfl ?_
          refine ne (eo_mv rfl rfl) rfl ?_
          refine ne (eo_mul rfl rfl rfl (by omega) (by omega)) rfl ?_
          refine ne (eo_rem rfl rfl rfl (by omega) (by omega)) rfl ?_
          refine ne (eo_as rfl rfl) rfl ?_
          refine go_nil ?_
          refine gq_next ?_
          refine gc_seq ?_
          refine gc_block ?_
          refine loop2 (fun (p : Nat) (t : Nat) => p < (W * H).toNat ∧ probeF (chF (W * H).toNat sd i) (W * H).toNat t p = plF (W * H).toNat sd i) (fun (p : Nat) (t : Nat) => t) (fun (p : Nat) (t : Nat) => [(0, .int .i64 W), (1, .int .i64 H), (2, .int .i64 n), (10, .int .u32 (nxt st)), (11, .slice (some ⟨g36, 0, none⟩) (((W * H)).toNat) (((W * H)).toNat)), (12, s.val i), (13, .int .i64 (i : Int)), (14, .int .i64 (p : Int))]) (fun (p : Nat) (t : Nat) => ⟨g36, 4, tab (((W * H)).toNat) (bv (chF (W * H).toNat sd i)) ++ []⟩ :: s.blks 3 (tab i (iv .i64 (fun i => (plF (W * H).toNat sd i : Int))))) ((nxt st % (W * H)).toNat) ((W * H).toNat) ⟨by omega, by unfold plF; rw [← hnx, hsn]⟩ ⟨rfl, rfl, rfl, rfl, rfl, rfl, rfl, (look_int rfl (by omega)), trivial⟩ (List.Sublist.refl _) ?_
          rintro p t ⟨hp, hpr⟩
          refine gc_seq ?_
          refine gc_seq ?_
          refine gc_region ?_
          refine ne (eo_mv rfl rfl) rfl ?_
          refine ne (eo_mv rfl rfl) rfl ?_
          refine ne (eo_index0 rfl sl31 rfl rfl (by omega) (by omega)) rfl ?_
          refine ne (eo_getb 0 rfl s4 rfl rfl (by omega)) rfl ?_
          refine go_nil ?_
          refine gq_next ?_
          refine gc_cond rfl (fun hc4 => ?_) (fun hc4 => ?_)
          ·
            obtain ⟨t1, rfl, hp2⟩ := probe_step hpr hfree hc4
            refine gc_skip ?_
            refine gq_next ?_
            refine gc_block ?_
            refine gc_region ?_
            refine ne (eo_mv rfl rfl) rfl ?_
            refine ne (eo_add rfl rfl rfl (by omega) (by omega)) rfl ?_
            refine ne (eo_mv rfl rfl) rfl ?_
            refine ne (eo_mv rfl rfl) rfl ?_
            refine ne (eo_mul rfl rfl rfl (by omega) (by omega)) rfl ?_
            refine ne (eo_rem rfl rfl rfl (by omega) (by omega)) rfl ?_
            refine ne (eo_as rfl rfl) rfl ?_
            refine go_nil ?_
            refine gq_block_end ?_
            exact round2 (if p + 1 = (W * H).toNat then 0 else p + 1) t1 ⟨by split <;> omega, hp2⟩ (by omega) ⟨rfl, rfl, rfl, rfl, rfl, rfl, rfl, (look_int rfl (mod_next (by omega) (by omega))), trivial⟩ (List.Sublist.refl _)
          ·
            have hpe := probe_done hpr hc4
            subst hpe
            refine gc_exit ?_
            refine gq_then_exit ?_
            refine gq_then_exit ?_
            refine gq_block_hit ?_
            refine gq_next ?_
            refine gc_seq ?_
            refine gc_region ?_
            refine ne (eo_mv rfl rfl) rfl ?_
            refine ne (eo_mv rfl rfl) rfl ?_
            refine ne (eo_index0 rfl sl31 rfl rfl (by omega) (by omega)) rfl ?_
            refine nu (xo_setb 0 rfl s4 rfl rfl rfl (by omega)) ?_
            rintro _ _ ⟨rfl, rfl⟩
            refine go_nil ?_
            refine gq_next ?_
            refine gc_region ?_
            refine ne (eo_mv rfl rfl) rfl ?_
            refine ne (eo_mv rfl rfl) rfl ?_
            refine nx (xo_lit1 rfl Try.underlying41 e3 rfl (by first | rfl | exact AS.one)) rfl ?_
            rintro _ _ ⟨g65, rfl, rfl⟩
            refine nx (xo_app1i 2 rfl rfl Try.underlying41 e3 rfl hs rfl rfl rfl (by omega) (by decide)) rfl ?_
            rintro _ _ ⟨s66, hs66, rfl, rfl⟩
            refine ne (eo_as rfl rfl) rfl ?_
            refine go_nil ?_
            refine gq_block_end ?_
            refine gq_next ?_
            refine gc_region ?_
            refine ne (eo_mv rfl rfl) rfl ?_
            refine ne (eo_add rfl rfl rfl (by omega) (by omega)) rfl ?_
            refine ne (eo_as rfl rfl) rfl ?_
            refine go_nil ?_
            exact round3 (i + 1) (nxt st) s66 ⟨by omega, hnx, hs66⟩ (by omega) ⟨rfl, rfl, rfl, rfl, rfl, rfl, rfl, trivial⟩ (List.Sublist.cons _ (List.Sublist.refl _))
        ·
          replace hc3 := of_decide_eq_false hc3
          refine gc_exit ?_
          refine gq_then_exit ?_
          refine gq_then_exit ?_
          refine gq_block_hit ?_
          refine gq_next ?_
          refine gc_seq ?_
          refine gc_region ?_
          refine ne (eo_mv rfl rfl) rfl ?_
          refine ne (eo_as rfl rfl) rfl ?_
          refine ne (eo_as rfl rfl) rfl ?_
          refine go_nil ?_
          refine gq_next ?_
          refine gc_ret ?_
          refine gq_results (res2 rfl rfl rfl) ?_
          have hin : n.toNat = i := by omega
          subst hin
          exact fun W1 hO => rxs_as 1 hO rfl hs (placesR_ok hf0 (by omega))

/-- barscan/printing.Dirt -/
theorem dirt_x (W H : Int) (A : Option Addr) (n c : Nat) (f : Nat → Bool) (d : Int) (sd : Int) (w : World) (hr : Rd w A (tab n (bv f))) (hs0 : 0 ≤ sd) (hs1 : sd ≤ 4294967295) :
    Calls Try.prog 18 #[.agg #[.int .i64 W, .int .i64 H, .slice A n c], .int .i64 d, .int .u32 sd] w (fun e w' => ∃ v Hn, e = .returned v ∧ RX (dirtR ⟨W, H, n, f⟩ d sd) v Hn ∧ Ow [] w w' Hn) := by
  refine calls_enter (N := ⟨57, []⟩) [] ([]) Try.func18 rfl rfl rfl (Ow.start _) ?_
  refine gc_seq ?_
  refine gc_region ?_
  refine nx (xo_boxA rfl rfl) rfl ?_
  rintro _ _ ⟨g3, rfl, rfl⟩
  refine nx (xo_alloc rfl z33) rfl ?_
  rintro _ _ ⟨g6, rfl, rfl⟩
  refine ne (eo_as rfl rfl) rfl ?_
  refine go_nil ?_
  refine gq_next ?_
  refine gc_seq ?_
  refine gc_seq ?_
  refine gc_region ?_
  refine ne (eo_loadA 1 rfl a33 rfl rfl rfl rfl) rfl ?_
  refine ne (eo_call rfl en35 rfl (fun W1 hO => check_c _ _ _ _ _ W1  )) rfl ?_
  refine ne (eo_neq rfl rfl rfl) rfl ?_
  refine go_nil ?_
  refine gq_next ?_
  refine gc_cond rfl (fun hc0 => ?_) (fun hc0 => ?_)
  ·
    replace hc0 := of_decide_eq_true hc0
    have hv := chk_f hc0
    refine gc_seq ?_
    refine gc_region ?_
    refine ne (eo_build rfl rfl (b33_)) rfl ?_
    refine nu (xo_storeA 0 rfl a33 rfl rfl (ones_cons (by first | rfl | exact AS.one) (ones_cons (by first | rfl | exact AS.one) (ones_cons (by first | rfl | exact AS.one) ones_nil))) rfl rfl rfl rfl) ?_
    rintro _ _ ⟨rfl, rfl⟩
    refine ne (eo_as rfl rfl) rfl ?_
    refine go_nil ?_
    refine gq_next ?_
    refine gc_ret ?_
    refine gq_then_ret ?_
    refine gq_results (resCT 0 rfl a33 rfl rfl rfl rfl rfl) ?_
    exact fun W1 hO => rx_nil hO (dirtR_no hv)
  ·
    replace hc0 := of_decide_eq_false hc0
    have hv := chk_t hc0
    obtain ⟨v1, v2, v3, v4, v5, v6⟩ := vldB_iff.1 hv
    have v7 := vld_pos hv
    refine gc_skip ?_
    refine gq_next ?_
    refine gc_seq ?_
    refine gc_region ?_
    refine ne (eo_field rfl f33_0 rfl) rfl ?_
    refine ne (eo_load 1 rfl s3 rfl rfl rfl rfl) rfl ?_
    refine ne (eo_field rfl f33_1 rfl) rfl ?_
    refine ne (eo_load 1 rfl s3 rfl rfl rfl rfl) rfl ?_
    refine ne (eo_mv rfl rfl) rfl ?_
    refine ne (eo_mv rfl rfl) rfl ?_
    refine nx (xo_freshT rfl en16 rfl (fun W1 hO => places_x _ _ _ _ W1  (by omega) (by omega))) rfl ?_
    rintro _ _ ⟨S24, ⟨A24, k24, rfl, hk24, hS24⟩, rfl⟩
    refine ne (eo_mv rfl rfl) rfl ?_
    refine ne (eo_extract rfl rfl rfl) rfl ?_
    refine ne (eo_extract rfl rfl rfl) rfl ?_
    refine ne (eo_as rfl rfl) rfl ?_
    refine ne (eo_as rfl rfl) rfl ?_
    refine go_nil ?_
    refine gq_next ?_
    refine gc_seq ?_
    refine gc_seq ?_
    refine gc_region ?_
    refine ne (eo_mv rfl rfl) rfl ?_
    refine ne (eo_neq rfl rfl rfl) rfl ?_
    refine go_nil ?_
    refine gq_next ?_
    refine gc_cond rfl (fun hc1 => ?_) (fun hc1 => ?_)
    ·
      replace hc1 := of_decide_eq_true hc1
      refine gc_seq ?_
      refine gc_region ?_
      refine ne (eo_build rfl rfl (b33_)) rfl ?_
      refine ne (eo_mv rfl rfl) rfl ?_
      refine nu (xo_storeA 0 rfl a33 rfl rfl (ones_cons (by first | rfl | exact AS.one) (ones_cons (by first | rfl | exact AS.one) (ones_cons (by first | rfl | exact AS.one) ones_nil))) rfl rfl rfl rfl) ?_
      rintro _ _ ⟨rfl, rfl⟩
      refine ne (eo_as rfl rfl) rfl ?_
      refine go_nil ?_
      refine gq_next ?_
      refine gc_ret ?_
      refine gq_then_ret ?_
      refine gq_results (resCT 0 rfl a33 rfl rfl rfl rfl rfl) ?_
      exact fun W1 hO => rx_nil hO (dirtR_err hv hc1)
    ·
      replace hc1 := of_decide_eq_false hc1
      have hz : (placesR W H d sd).2 = 0 := Decidable.not_not.1 hc1
      obtain ⟨hfz, hnz⟩ := places_zero hz
      have hR := placesR_ok (s := sd) hfz hnz
      have hN1 : (placesR W H d sd).1.1 = d.toNat := by rw [hR]
      have hnn : (W * H).toNat = n := by omega
      refine gc_skip ?_
      refine gq_next ?_
      refine gc_seq ?_
      refine gc_draw_new (i := 8) (d := 10) [] [0, 1, 2, 3, 4, 5] [6, 7] [9] (by kernel_rfl) (by kernel_rfl) rfl z33 rfl ?_
      refine gp_nil ?_
      refine de rfl (eo_field rfl f33_0 rfl) rfl ?_
      refine de rfl (eo_load 1 rfl s3 rfl rfl rfl rfl) rfl ?_
      refine de rfl (eo_field rfl f33_1 rfl) rfl ?_
      refine de rfl (eo_load 1 rfl s3 rfl rfl rfl rfl) rfl ?_
      refine de rfl (eo_field rfl f33_2 rfl) rfl ?_
      refine de rfl (eo_load 1 rfl s31 rfl rfl rfl rfl) rfl ?_
      refine ge_nil ?_
      refine ⟨rfl, ?_⟩
      refine da rfl (xo_grabNF (F := (bv f)) rfl Try.underlying31 e4.toN rfl rfl (fun W1 hO => (hr.old0 hO)) tab_oneb (by omega) (by omega) (by decide)) rfl ?_
      rintro _ _ ⟨gn37, cn37, sn37, rfl, rfl, hcn37⟩
      refine ⟨by first | exact (List.Sublist.cons _ (List.Sublist.refl _)) | exact (List.sublist_append_left _ _), ?_⟩
      refine da rfl (xo_of_eo (eo_build rfl rfl (b33_012 _ _ _ _ _))) rfl ?_
      rintro _ _ ⟨rfl, rfl⟩
      refine ⟨by first | exact (List.Sublist.cons _ (List.Sublist.refl _)) | exact (List.sublist_append_left _ _), ?_⟩
      refine ga_nil ?_
      intro g10
      refine iu rfl (xo_storeA 0 rfl a33 rfl rfl (ones_cons (by first | rfl | exact AS.one) (ones_cons (by first | rfl | exact AS.one) (ones_cons (by first | rfl | exact AS.one) ones_nil))) rfl rfl rfl rfl) ?_
      rintro _ _ ⟨rfl, rfl⟩
      refine gi_nil ?_
      refine gq_nq ?_
      refine gq_next ?_
      refine gc_seq ?_
      refine gc_seq ?_
      refine gc_region ?_
      refine ne (eo_mv rfl rfl) rfl ?_
      refine ne (eo_len rfl Try.underlying41 rfl) rfl ?_
      refine ne (eo_mv rfl rfl) rfl ?_
      refine go_nil ?_
      refine gq_next ?_
      refine gc_block ?_
      refine loop1 (fun (k : Nat) => k ≤ d.toNat) (fun (k : Nat) => d.toNat - k) (fun (k : Nat) => [(6, .pointer (some ⟨g6, 0, none⟩)), (10, .pointer (some ⟨g10, 0, none⟩)), (39, .slice A24 ((placesR W H d sd).1.1) k24), (40, .int .i64 (((placesR W H d sd).1.1 : Nat) : Int)), (41, .int .i64 (k : Int))]) (fun (k : Nat) => ⟨g10, 33, [.int .i64 W, .int .i64 H, .slice (some ⟨gn37, 0, none⟩) n cn37]⟩ :: ⟨gn37, 4, tab n (bv (drtF (plF n sd) f k)) ++ sn37⟩ :: ⟨g6, 33, [.int .i64 0, .int .i64 0, .slice none 0 0]⟩ :: ⟨g3, 33, [.int .i64 W, .int .i64 H, .slice A n c]⟩ :: S24) 0 (by omega) ⟨rfl, rfl, rfl, rfl, rfl, trivial⟩ (List.Sublist.refl _) ?_
      intro k hk
      refine gc_seq ?_
      refine gc_region ?_
      refine ne (eo_lss rfl rfl rfl) rfl ?_
      refine go_nil ?_
      refine gq_next ?_
      refine gc_seq ?_
      refine gc_cond rfl (fun hc2 => ?_) (fun hc2 => ?_)
      ·
        replace hc2 := of_decide_eq_true hc2
        have hpk : (placesR W H d sd).1.2 (k : Int).toNat = ((plF n sd k : Nat) : Int) := by rw [hR, ← hnn]; rfl
        have hpl := plF_lt (N := n) (s := sd) (i := k) (by omega)
        refine gc_skip ?_
        refine gq_next ?_
        refine gc_seq ?_
        refine gc_block ?_
        refine gc_seq ?_
        refine gc_region ?_
        refine ne (eo_indexS rfl sl41 rfl rfl (fun W1 hO => (hS24.rd (hO.tl 4 rfl (List.Sublist.refl _)))) (by simp) (by omega) (by omega)) rfl ?_
        refine ne (eo_loadS rfl s3 rfl (fun W1 hO => Rd.tabi (hS24.rd (hO.tl 4 rfl (List.Sublist.refl _))) (by omega))) rfl ?_
        refine ne (eo_as rfl rfl) rfl ?_
        refine go_nil ?_
        refine gq_next ?_
        refine gc_draw [] [0, 1, 2, 3, 4, 5, 6, 7, 8, 9] [] [10] (by kernel_rfl) (by kernel_rfl) ?_
        refine gp_nil ?_
        refine de rfl (eo_field rfl f33_2 rfl) rfl ?_
        refine de rfl (eo_load 0 rfl s31 rfl rfl rfl rfl) rfl ?_
        refine de rfl (eo_mv rfl rfl) rfl ?_
        refine de rfl (eo_field rfl f33_2 rfl) rfl ?_
        refine de rfl (eo_load 0 rfl s31 rfl rfl rfl rfl) rfl ?_
        refine de rfl (eo_mv rfl rfl) rfl ?_
        refine de rfl (eo_index0 rfl sl31 rfl rfl (by omega) (by omega)) rfl ?_
        refine de rfl (eo_getb 1 rfl s4 rfl rfl (by omega)) rfl ?_
        refine de rfl (eo_not rfl rfl) rfl ?_
        refine de rfl (eo_index0 rfl sl31 rfl rfl (by omega) (by omega)) rfl ?_
        refine ge_nil ?_
        refine ga_nil ?_
        refine iu rfl (xo_setb 1 rfl s4 rfl rfl rfl (by omega)) ?_
        rintro _ _ ⟨rfl, rfl⟩
        refine gi_nil ?_
        refine gq_nq ?_
        refine gq_block_end ?_
        refine gq_next ?_
        refine gc_region ?_
        refine ne (eo_add rfl rfl rfl (by omega) (by omega)) rfl ?_
        refine ne (eo_mv rfl rfl) rfl ?_
        refine go_nil ?_
        rw [hpk]
        exact round1 (k + 1) (by omega) (by omega) ⟨rfl, rfl, rfl, rfl, rfl, trivial⟩ (List.Sublist.refl _)
      ·
        replace hc2 := of_decide_eq_false hc2
        refine gc_exit ?_
        refine gq_then_exit ?_
        refine gq_then_exit ?_
        refine gq_block_hit ?_
        refine gq_next ?_
        refine gc_seq ?_
        refine gc_region ?_
        refine ne (eo_loadA 0 rfl a33 rfl rfl rfl rfl) rfl ?_
        refine nu (xo_storeA 2 rfl a33 rfl rfl (ones_cons (by first | rfl | exact AS.one) (ones_cons (by first | rfl | exact AS.one) (ones_cons (by first | rfl | exact AS.one) ones_nil))) rfl rfl rfl rfl) ?_
        rintro _ _ ⟨rfl, rfl⟩
        refine ne (eo_as rfl rfl) rfl ?_
        refine go_nil ?_
        refine gq_next ?_
        refine gc_ret ?_
        refine gq_results (resCT 2 rfl a33 rfl rfl rfl rfl rfl) ?_
        exact fun W1 hO => rx_own 1 hO rfl (dirtR_ok hv hz) (fun j hj => by rw [show k = d.toNat by omega]) (by omega)

/-- barscan/barscanref43.Dirt -/
theorem rdirt_x (W H : Int) (A : Option Addr) (n c : Nat) (f : Nat → Bool) (d : Int) (sd : Int) (w : World) (hr : Rd w A (tab n (bv f))) (hs0 : 0 ≤ sd) (hs1 : sd ≤ 4294967295) :
    Calls Try.prog 19 #[.agg #[.int .i64 W, .int .i64 H, .slice A n c], .int .i64 d, .int .u32 sd] w (fun e w' => ∃ v Hn, e = .returned v ∧ RX (dirtR ⟨W, H, n, f⟩ d sd) v Hn ∧ Ow [] w w' Hn) := by
  refine calls_enter (N := ⟨62, []⟩) [] ([]) Try.func19 rfl rfl rfl (Ow.start _) ?_
  refine gc_seq ?_
  refine gc_region ?_
  refine nx (xo_boxA rfl rfl) rfl ?_
  rintro _ _ ⟨g3, rfl, rfl⟩
  refine nx (xo_alloc rfl z33) rfl ?_
  rintro _ _ ⟨g6, rfl, rfl⟩
  refine ne (eo_as rfl rfl) rfl ?_
  refine go_nil ?_
  refine gq_next ?_
  refine gc_seq ?_
  refine gc_seq ?_
  refine gc_region ?_
  refine ne (eo_loadA 1 rfl a33 rfl rfl rfl rfl) rfl ?_
  refine ne (eo_call rfl en41 rfl (fun W1 hO => valid_c _ _ _ _ _ W1  )) rfl ?_
  refine ne (eo_not rfl rfl) rfl ?_
  refine go_nil ?_
  refine gq_next ?_
  refine gc_cond rfl (fun hc0 => ?_) (fun hc0 => ?_)
  ·
    have hd0 := (not_t hc0)
    have hv := not_t hc0
    refine gc_seq ?_
    refine gc_region ?_
    refine ne (eo_build rfl rfl (b33_)) rfl ?_
    refine nu (xo_storeA 0 rfl a33 rfl rfl (ones_cons (by first | rfl | exact AS.one) (ones_cons (by first | rfl | exact AS.one) (ones_cons (by first | rfl | exact AS.one) ones_nil))) rfl rfl rfl rfl) ?_
    rintro _ _ ⟨rfl, rfl⟩
    refine ne (eo_as rfl rfl) rfl ?_
    refine go_nil ?_
    refine gq_next ?_
    refine gc_ret ?_
    refine gq_then_ret ?_
    refine gq_results (resCT 0 rfl a33 rfl rfl rfl rfl rfl) ?_
    exact fun W1 hO => rx_nil hO (dirtR_no hv)
  ·
    have hd0 := (not_f hc0)
    have hv := not_f hc0
    obtain ⟨v1, v2, v3, v4, v5, v6⟩ := vldB_iff.1 hv
    have v7 := vld_pos hv
    refine gc_skip ?_
    refine gq_next ?_
    refine gc_seq ?_
    refine gc_region ?_
    refine ne (eo_field rfl f33_0 rfl) rfl ?_
    refine ne (eo_load 1 rfl s3 rfl rfl rfl rfl) rfl ?_
    refine ne (eo_field rfl f33_1 rfl) rfl ?_
    refine ne (eo_load 1 rfl s3 rfl rfl rfl rfl) rfl ?_
    refine ne (eo_mv rfl rfl) rfl ?_
    refine ne (eo_mv rfl rfl) rfl ?_
    refine nx (xo_freshT rfl en17 rfl (fun W1 hO => rplaces_x _ _ _ _ W1  (by omega) (by omega))) rfl ?_
    rintro _ _ ⟨S23, ⟨A23, k23, rfl, hk23, hS23⟩, rfl⟩
    refine ne (eo_mv rfl rfl) rfl ?_
    refine ne (eo_extract rfl rfl rfl) rfl ?_
    refine ne (eo_extract rfl rfl rfl) rfl ?_
    refine ne (eo_as rfl rfl) rfl ?_
    refine ne (eo_as rfl rfl) rfl ?_
    refine go_nil ?_
    refine gq_next ?_
    refine gc_seq ?_
    refine gc_seq ?_
    refine gc_region ?_
    refine ne (eo_mv rfl rfl) rfl ?_
    refine ne (eo_neq rfl rfl rfl) rfl ?_
    refine go_nil ?_
    refine gq_next ?_
    refine gc_cond rfl (fun hc1 => ?_) (fun hc1 => ?_)
    ·
      replace hc1 := of_decide_eq_true hc1
      refine gc_seq ?_
      refine gc_region ?_
      refine ne (eo_build rfl rfl (b33_)) rfl ?_
      refine ne (eo_mv rfl rfl) rfl ?_
      refine nu (xo_storeA 0 rfl a33 rfl rfl (ones_cons (by first | rfl | exact AS.one) (ones_cons (by first | rfl | exact AS.one) (ones_cons (by first | rfl | exact AS.one) ones_nil))) rfl rfl rfl rfl) ?_
      rintro _ _ ⟨rfl, rfl⟩
      refine ne (eo_as rfl rfl) rfl ?_
      refine go_nil ?_
      refine gq_next ?_
      refine gc_ret ?_
      refine gq_then_ret ?_
      refine gq_results (resCT 0 rfl a33 rfl rfl rfl rfl rfl) ?_
      exact fun W1 hO => rx_nil hO (dirtR_err hv hc1)
    ·
      replace hc1 := of_decide_eq_false hc1
      have hz : (placesR W H d sd).2 = 0 := Decidable.not_not.1 hc1
      obtain ⟨hfz, hnz⟩ := places_zero hz
      have hR := placesR_ok (s := sd) hfz hnz
      have hN1 : (placesR W H d sd).1.1 = d.toNat := by rw [hR]
      have hnn : (W * H).toNat = n := by omega
      refine gc_skip ?_
      refine gq_next ?_
      refine gc_seq ?_
      refine gc_draw_new (i := 9) (d := 10) [] [0, 1, 2, 3, 5, 6] [4, 7, 8] [10] (by kernel_rfl) (by kernel_rfl) rfl z33 rfl ?_
      refine gp_nil ?_
      refine de rfl (eo_field rfl f33_0 rfl) rfl ?_
      refine de rfl (eo_load 1 rfl s3 rfl rfl rfl rfl) rfl ?_
      refine de rfl (eo_field rfl f33_1 rfl) rfl ?_
      refine de rfl (eo_load 1 rfl s3 rfl rfl rfl rfl) rfl ?_
      refine de rfl (eo_field rfl f33_2 rfl) rfl ?_
      refine de rfl (eo_load 1 rfl s31 rfl rfl rfl rfl) rfl ?_
      refine ge_nil ?_
      refine ⟨rfl, ?_⟩
      refine da rfl (xo_lit rfl rfl lit31_0) rfl ?_
      rintro _ _ ⟨g34, rfl, rfl⟩
      refine ⟨by first | exact (List.Sublist.cons _ (List.Sublist.refl _)) | exact (List.sublist_append_left _ _), ?_⟩
      refine da rfl (xo_grabLF (F := (bv f)) rfl Try.underlying31 e4.toN rfl rfl (fun W1 hO => (hr.old0 hO)) tab_oneb (by omega) (by omega) (by decide)) rfl ?_
      rintro _ _ ⟨gn37, cn37, sn37, rfl, rfl, hcn37⟩
      refine ⟨by first | exact (List.Sublist.cons _ (List.Sublist.refl _)) | exact (List.sublist_append_left _ _), ?_⟩
      refine da rfl (xo_of_eo (eo_build rfl rfl (b33_012 _ _ _ _ _))) rfl ?_
      rintro _ _ ⟨rfl, rfl⟩
      refine ⟨by first | exact (List.Sublist.cons _ (List.Sublist.refl _)) | exact (List.sublist_append_left _ _), ?_⟩
      refine ga_nil ?_
      intro g10
      refine iu rfl (xo_storeA 0 rfl a33 rfl rfl (ones_cons (by first | rfl | exact AS.one) (ones_cons (by first | rfl | exact AS.one) (ones_cons (by first | rfl | exact AS.one) ones_nil))) rfl rfl rfl rfl) ?_
      rintro _ _ ⟨rfl, rfl⟩
      refine gi_nil ?_
      refine gq_nq ?_
      refine gq_next ?_
      refine gc_seq ?_
      refine gc_seq ?_
      refine gc_region ?_
      refine ne (eo_as rfl rfl) rfl ?_
      refine go_nil ?_
      refine gq_next ?_
      refine gc_block ?_
      refine loop1 (fun (k : Nat) => k ≤ d.toNat) (fun (k : Nat) => d.toNat - k) (fun (k : Nat) => [(6, .pointer (some ⟨g6, 0, none⟩)), (8, .slice A23 ((placesR W H d sd).1.1) k23), (10, .pointer (some ⟨g10, 0, none⟩)), (11, .int .i64 (k : Int))]) (fun (k : Nat) => ⟨g10, 33, [.int .i64 W, .int .i64 H, .slice (some ⟨gn37, 0, none⟩) n cn37]⟩ :: ⟨gn37, 4, tab n (bv (drtF (plF n sd) f k)) ++ sn37⟩ :: ⟨g6, 33, [.int .i64 0, .int .i64 0, .slice none 0 0]⟩ :: ⟨g3, 33, [.int .i64 W, .int .i64 H, .slice A n c]⟩ :: S23) 0 (by omega) ⟨rfl, rfl, rfl, rfl, trivial⟩ (List.Sublist.refl _) ?_
      intro k hk
      refine gc_seq ?_
      refine gc_seq ?_
      refine gc_region ?_
      refine ne (eo_mv rfl rfl) rfl ?_
      refine ne (eo_mv rfl rfl) rfl ?_
      refine ne (eo_len rfl Try.underlying41 rfl) rfl ?_
      refine ne (eo_lss rfl rfl rfl) rfl ?_
      refine go_nil ?_
      refine gq_next ?_
      refine gc_cond rfl (fun hc2 => ?_) (fun hc2 => ?_)
      ·
        replace hc2 := of_decide_eq_true hc2
        have hpk : (placesR W H d sd).1.2 (k : Int).toNat = ((plF n sd k : Nat) : Int) := by rw [hR, ← hnn]; rfl
        have hpl := plF_lt (N := n) (s := sd) (i := k) (by omega)
        refine gc_skip ?_
        refine gq_next ?_
        refine gc_seq ?_
        refine gc_block ?_
        refine gc_draw [] [0, 1, 2, 3, 4, 5, 6, 7, 8, 9, 10, 11, 12, 13, 14, 15] [] [16] (by kernel_rfl) (by kernel_rfl) ?_
        refine gp_nil ?_
        refine de rfl (eo_field rfl f33_2 rfl) rfl ?_
        refine de rfl (eo_load 0 rfl s31 rfl rfl rfl rfl) rfl ?_
        refine de rfl (eo_mv rfl rfl) rfl ?_
        refine de rfl (eo_mv rfl rfl) rfl ?_
        refine de rfl (eo_indexS rfl sl41 rfl rfl (fun W1 hO => (hS23.rd (hO.tl 4 rfl (List.Sublist.refl _)))) (by simp) (by omega) (by omega)) rfl ?_
        refine de rfl (eo_loadS rfl s3 rfl (fun W1 hO => Rd.tabi (hS23.rd (hO.tl 4 rfl (List.Sublist.refl _))) (by omega))) rfl ?_
        refine de rfl (eo_field rfl f33_2 rfl) rfl ?_
        refine de rfl (eo_load 0 rfl s31 rfl rfl rfl rfl) rfl ?_
        refine de rfl (eo_mv rfl rfl) rfl ?_
        refine de rfl (eo_mv rfl rfl) rfl ?_
        refine de rfl (eo_indexS rfl sl41 rfl rfl (fun W1 hO => (hS23.rd (hO.tl 4 rfl (List.Sublist.refl _)))) (by simp) (by omega) (by omega)) rfl ?_
        refine de rfl (eo_loadS rfl s3 rfl (fun W1 hO => Rd.tabi (hS23.rd (hO.tl 4 rfl (List.Sublist.refl _))) (by omega))) rfl ?_
        refine de rfl (eo_index0 rfl sl31 rfl rfl (by omega) (by omega)) rfl ?_
        refine de rfl (eo_getb 1 rfl s4 rfl rfl (by omega)) rfl ?_
        refine de rfl (eo_not rfl rfl) rfl ?_
        refine de rfl (eo_index0 rfl sl31 rfl rfl (by omega) (by omega)) rfl ?_
        refine ge_nil ?_
        refine ga_nil ?_
        refine iu rfl (xo_setb 1 rfl s4 rfl rfl rfl (by omega)) ?_
        rintro _ _ ⟨rfl, rfl⟩
        refine gi_nil ?_
        refine gq_nq ?_
        refine gq_block_end ?_
        refine gq_next ?_
        refine gc_region ?_
        refine ne (eo_mv rfl rfl) rfl ?_
        refine ne (eo_add rfl rfl rfl (by omega) (by omega)) rfl ?_
        refine ne (eo_as rfl rfl) rfl ?_
        refine go_nil ?_
        rw [hpk]
        exact round1 (k + 1) (by omega) (by omega) ⟨rfl, rfl, rfl, rfl, trivial⟩ (List.Sublist.refl _)
      ·
        replace hc2 := of_decide_eq_false hc2
        refine gc_exit ?_
        refine gq_then_exit ?_
        refine gq_then_exit ?_
        refine gq_block_hit ?_
        refine gq_next ?_
        refine gc_seq ?_
        refine gc_region ?_
        refine ne (eo_loadA 0 rfl a33 rfl rfl rfl rfl) rfl ?_
        refine nu (xo_storeA 2 rfl a33 rfl rfl (ones_cons (by first | rfl | exact AS.one) (ones_cons (by first | rfl | exact AS.one) (ones_cons (by first | rfl | exact AS.one) ones_nil))) rfl rfl rfl rfl) ?_
        rintro _ _ ⟨rfl, rfl⟩
        refine ne (eo_as rfl rfl) rfl ?_
        refine go_nil ?_
        refine gq_next ?_
        refine gc_ret ?_
        refine gq_results (resCT 2 rfl a33 rfl rfl rfl rfl rfl) ?_
        exact fun W1 hO => rx_own 1 hO rfl (dirtR_ok hv hz) (fun j hj => by rw [show k = d.toNat by omega]) (by omega)

end Go.Proofs.Ytibooikbbcilcaa
