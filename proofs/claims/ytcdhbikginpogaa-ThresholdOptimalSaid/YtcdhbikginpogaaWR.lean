/-
  The walks of the functions of packages bigint and threshold and of the document's answers (part R): what each call returns, at every argument.
-/
import Derived.Test.YtcdhbikginpogaaWK
import Derived.Test.YtcdhbikginpogaaTo
import Derived.Test.YtcdhbikginpogaaUn
namespace Go.Proofs.Ytcdhbikginpogaa
open Go.RowKit Go.Eng

open Go.Bs
theorem en10 : Ent Try.prog 10 := ent_of Try.func10 (by kernel_rfl) rfl
theorem z47 : TyZ Try.prog 47 [.int .i64 0, .int .i64 0] := .inl (by kernel_rfl)

/-- barscan/barscanlaw36.ThresholdOptimal -/
theorem opt_c (W H : Int) (A : Option Addr) (n c : Nat) (f : Nat → Int) (o : Int) (w : World) (hr : Rd w A (tab n (iv .u8 f))) (hp : PixOk n f) :
    Calls Try.prog 6 #[.agg #[.int .i64 W, .int .i64 H, .slice A n c], .int .i64 o] w (fun e w' => e = .returned (.bool true) ∧ Ext w w') := by
  refine calls_enter (N := ⟨145, []⟩) [] ([]) Try.func6 rfl rfl rfl (Ow.start _) ?_
  refine gc_seq ?_
  refine gc_region ?_
  refine nx (xo_boxA rfl rfl) rfl ?_
  rintro _ _ ⟨g2, rfl, rfl⟩
  refine ne (eo_as rfl rfl) rfl ?_
  refine go_nil ?_
  refine gq_next ?_
  refine gc_seq ?_
  refine gc_seq ?_
  refine gc_region ?_
  refine ne (eo_loadA 0 rfl a24 rfl rfl rfl rfl) rfl ?_
  refine ne (eo_call rfl en25 rfl (fun W1 hO => sound36_c _ _ _ _ _ _ W1 (hr.old0 hO) )) rfl ?_
  refine ne (eo_not rfl rfl) rfl ?_
  refine ne (eo_mv rfl rfl) rfl ?_
  refine ng rfl rfl (fun h => eo_field rfl f24_2 rfl) rfl ?_
  refine ng rfl rfl (fun h => eo_load 0 rfl s22 (ev_if h rfl) rfl rfl rfl) rfl ?_
  refine ng rfl rfl (fun h => eo_len rfl Try.underlying22 (ev_if h rfl)) rfl ?_
  refine ng rfl rfl (fun h => eo_gtr rfl (ev_if h rfl) rfl) rfl ?_
  refine ne (eo_or rfl rfl (fun hb => ev_if hb rfl)) rfl ?_
  refine ne (eo_mv rfl rfl) rfl ?_
  refine ng rfl rfl (fun h => eo_mv rfl rfl) rfl ?_
  refine ng rfl rfl (fun h => eo_lss rfl (ev_if h rfl) rfl) rfl ?_
  refine ne (eo_or rfl rfl (fun hb => ev_if hb rfl)) rfl ?_
  refine ne (eo_mv rfl rfl) rfl ?_
  refine ng rfl rfl (fun h => eo_mv rfl rfl) rfl ?_
  refine ng rfl rfl (fun h => eo_gtr rfl (ev_if h rfl) rfl) rfl ?_
  refine ne (eo_or rfl rfl (fun hb => ev_if hb rfl)) rfl ?_
  refine go_nil ?_
  refine gq_next ?_
  refine gc_cond rfl (fun hc0 => ?_) (fun hc0 => ?_)
  ·
    have hd0 := (or_t hc0).imp (fun h => (or_t h).imp (fun h => (or_t h).imp (fun h => (not_t h)) (fun h => of_decide_eq_true h)) (fun h => of_decide_eq_true h)) (fun h => of_decide_eq_true h)
    refine gc_seq ?_
    refine gc_region ?_
    refine ne (eo_call rfl en10 rfl (fun W1 hO => alive36_c W1  )) rfl ?_
    refine ne (eo_as rfl rfl) rfl ?_
    refine go_nil ?_
    refine gq_next ?_
    refine gc_ret ?_
    refine gq_then_ret ?_
    refine gq_results (res1 rfl rfl) ?_
    exact fun W1 hO => ⟨rfl, hO.toExt⟩
  ·
    have hd0 := (or_f hc0).imp (fun h => (or_f h).imp (fun h => (or_f h).imp (fun h => (not_f h)) (fun h => of_decide_eq_false h)) (fun h => of_decide_eq_false h)) (fun h => of_decide_eq_false h)
    have hv := hd0.1.1.1
    have hno : n ≤ 300 := by omega
    have ho1 : (otsR ⟨W, H, n, f⟩).1 = ((bst f n 255 : Nat) : Int) := by rw [otsR_ok hv]
    have ho2 : (otsR ⟨W, H, n, f⟩).2 = 0 := by rw [otsR_ok hv]
    have hbl := bst_le (f := f) (n := n) (k := 255)
    refine gc_skip ?_
    refine gq_next ?_
    refine gc_seq ?_
    refine gc_region ?_
    refine ne (eo_loadA 0 rfl a24 rfl rfl rfl rfl) rfl ?_
    refine ne (eo_call rfl en13 rfl (fun W1 hO => otsu_c _ _ _ _ _ _ W1 (hr.old0 hO) (by assumption) (by omega))) rfl ?_
    refine ne (eo_mv rfl rfl) rfl ?_
    refine ne (eo_extract rfl rfl rfl) rfl ?_
    refine ne (eo_extract rfl rfl rfl) rfl ?_
    refine ne (eo_as rfl rfl) rfl ?_
    refine ne (eo_as rfl rfl) rfl ?_
    refine go_nil ?_
    refine gq_next ?_
    refine gc_seq ?_
    refine gc_seq ?_
    refine gc_region ?_
    refine ne (eo_mv rfl rfl) rfl ?_
    refine ne (eo_neq rfl rfl rfl) rfl ?_
    refine ne (eo_mv rfl rfl) rfl ?_
    refine ng rfl rfl (fun h => eo_mv rfl rfl) rfl ?_
    refine ng rfl rfl (fun h => eo_lss rfl (ev_if h rfl) rfl) rfl ?_
    refine ne (eo_or rfl rfl (fun hb => ev_if hb rfl)) rfl ?_
    refine ne (eo_mv rfl rfl) rfl ?_
    refine ng rfl rfl (fun h => eo_mv rfl rfl) rfl ?_
    refine ng rfl rfl (fun h => eo_gtr rfl (ev_if h rfl) rfl) rfl ?_
    refine ne (eo_or rfl rfl (fun hb => ev_if hb rfl)) rfl ?_
    refine go_nil ?_
    refine gq_next ?_
    refine gc_cond rfl (fun hc1 => ?_) (fun hc1 => ?_)
    ·
      have hd1 := (or_t hc1).imp (fun h => (or_t h).imp (fun h => of_decide_eq_true h) (fun h => of_decide_eq_true h)) (fun h => of_decide_eq_true h)
      exfalso; omega
    ·
      have hd1 := (or_f hc1).imp (fun h => (or_f h).imp (fun h => ne_f h) (fun h => of_decide_eq_false h)) (fun h => of_decide_eq_false h)
      rw [ho1]
      generalize hTe : bst f n 255 = T at *
      refine gc_skip ?_
      refine gq_next ?_
      refine gc_seq ?_
      refine gc_region ?_
      refine nx (xo_alloc rfl z47) rfl ?_
      rintro _ _ ⟨g7, rfl, rfl⟩
      refine nx (xo_alloc rfl z47) rfl ?_
      rintro _ _ ⟨g8, rfl, rfl⟩
      refine go_nil ?_
      refine gq_next ?_
      refine gc_seq ?_
      refine gc_seq ?_
      refine gc_region ?_
      refine ne (eo_mv rfl rfl) rfl ?_
      refine go_nil ?_
      refine gq_next ?_
      refine gc_block ?_
      refine gc_loopN 3 ?_
      refine gr_succ ?_
      refine gc_seq ?_
      refine gc_region ?_
      refine ne (eo_lss rfl rfl rfl) rfl ?_
      refine go_nil ?_
      refine gq_next ?_
      refine gc_seq ?_
      refine gc_cond rfl (fun hc2 => ?_) (fun hc2 => ?_)
      ·
        replace hc2 := of_decide_eq_true hc2
        refine gc_skip ?_
        refine gq_next ?_
        refine gc_seq ?_
        refine gc_block ?_
        refine gc_seq ?_
        refine gc_region ?_
        refine ne (eo_mv rfl rfl) rfl ?_
        refine ne (eo_as rfl rfl) rfl ?_
        refine go_nil ?_
        refine gq_next ?_
        refine gc_seq ?_
        refine gc_region ?_
        refine ne (eo_as rfl rfl) rfl ?_
        refine ne (eo_as rfl rfl) rfl ?_
        refine ne (eo_as rfl rfl) rfl ?_
        refine ne (eo_as rfl rfl) rfl ?_
        refine go_nil ?_
        refine gq_next ?_
        refine gc_seq ?_
        refine gc_seq ?_
        refine gc_region ?_
        refine ne (eo_field rfl f24_2 rfl) rfl ?_
        refine ne (eo_load 2 rfl s22 rfl rfl rfl rfl) rfl ?_
        refine ne (eo_len rfl Try.underlying22 rfl) rfl ?_
        refine ne (eo_mv rfl rfl) rfl ?_
        refine go_nil ?_
        refine gq_next ?_
        refine gc_block ?_
        refine loop1 (fun (i : Nat) => i ≤ n) (fun (i : Nat) => n - i) (fun (i : Nat) => [(1, .int .i64 o), (2, .pointer (some ⟨g2, 0, none⟩)), (5, .int .i64 ((T : Nat) : Int)), (7, .pointer (some ⟨g7, 0, none⟩)), (8, .pointer (some ⟨g8, 0, none⟩)), (9, .int .i64 0), (10, .int .i64 (nT f i T)), (11, .int .i64 (sT f i T)), (12, .int .i64 ((i : Int) - nT f i T)), (13, .int .i64 (sT f i 256 - sT f i T)), (51, .int .i64 0), (56, .int .i64 ((n : Nat) : Int)), (57, .int .i64 (i : Int))]) (fun (i : Nat) => [⟨g8, 47, [.int .i64 0, .int .i64 0]⟩, ⟨g7, 47, [.int .i64 0, .int .i64 0]⟩, ⟨g2, 24, [.int .i64 W, .int .i64 H, .slice A n c]⟩]) 0 (by omega) ⟨rfl, rfl, rfl, rfl, rfl, rfl, rfl, rfl, (look_int rfl (by show (0 : Int) = ((0 : Nat) : Int) - 0; rfl)), (look_int rfl (by show (0 : Int) = 0 - 0; rfl)), rfl, rfl, rfl, trivial⟩ (List.Sublist.refl _) ?_
        intro i hi
        refine gc_seq ?_
        refine gc_region ?_
        refine ne (eo_lss rfl rfl rfl) rfl ?_
        refine go_nil ?_
        refine gq_next ?_
        refine gc_seq ?_
        refine gc_cond rfl (fun hc3 => ?_) (fun hc3 => ?_)
        ·
          replace hc3 := of_decide_eq_true hc3
          have hpx := hp (i : Int).toNat (by omega)
          have hpx2 := hp i (by omega)
          have nb := nT_bd (f := f) (n := i) (t := T)
          have sb := sT_bd (f := f) (n := i) (t := T) (fun j hj => hp j (by omega))
          have z3 : sT f (i + 1) 256 = sT f i 256 + f i := by show _ + (if _ then _ else _) = _; rw [if_pos (show f i < ((256 : Nat) : Int) by omega)]
          have hfi : f (i : Int).toNat = f i := rfl
          refine gc_skip ?_
          refine gq_next ?_
          refine gc_seq ?_
          refine gc_block ?_
          refine gc_seq ?_
          refine gc_region ?_
          refine ne (eo_mv rfl rfl) rfl ?_
          refine ne (eo_as rfl rfl) rfl ?_
          refine go_nil ?_
          refine gq_next ?_
          refine gc_seq ?_
          refine gc_region ?_
          refine ne (eo_field rfl f24_2 rfl) rfl ?_
          refine ne (eo_load 2 rfl s22 rfl rfl rfl rfl) rfl ?_
          refine ne (eo_mv rfl rfl) rfl ?_
          refine ne (eo_indexR rfl sl22 rfl rfl hr (by simp) (by omega) (by omega)) rfl ?_
          refine ne (eo_load_old rfl s5 rfl (Rd.tabi hr (by omega)) (by simp)) rfl ?_
          refine ne (eo_convi rfl rfl ⟨_, Try.underlying5⟩ Try.underlying3 (by omega) (by omega)) rfl ?_
          refine ne (eo_as rfl rfl) rfl ?_
          refine go_nil ?_
          refine gq_next ?_
          refine gc_seq ?_
          refine gc_region ?_
          refine ne (eo_mv rfl rfl) rfl ?_
          refine ne (eo_mv rfl rfl) rfl ?_
          refine ne (eo_lss rfl rfl rfl) rfl ?_
          refine ne (eo_mv rfl rfl) rfl ?_
          refine ng rfl rfl (fun h => eo_mv rfl rfl) rfl ?_
          refine ng rfl rfl (fun h => eo_eql rfl (ev_if h rfl) rfl) rfl ?_
          refine ne (eo_and rfl rfl (fun hb => ev_if hb rfl)) rfl ?_
          refine ne (eo_mv rfl rfl) rfl ?_
          refine ng rfl rfl (fun h => eo_mv rfl rfl) rfl ?_
          refine ng rfl rfl (fun h => eo_mv rfl rfl) rfl ?_
          refine ng rfl rfl (fun h => eo_lss rfl (ev_if h rfl) (ev_if h rfl)) rfl ?_
          refine ng rfl rfl (fun h => eo_mv rfl (ev_if h rfl)) rfl ?_
          refine ngc rfl rfl (fun h => eo_mv rfl rfl) rfl ?_
          refine ngc rfl rfl (fun h => eo_eql rfl (ev_if h rfl) rfl) rfl ?_
          refine ng rfl rfl (fun h => eo_and rfl (ev_if h rfl) (fun hb => ev_if ⟨h, hb⟩ rfl)) rfl ?_
          refine ne (eo_or rfl rfl (fun hb => ev_if hb rfl)) rfl ?_
          refine go_nil ?_
          refine gq_next ?_
          refine gc_cond rfl (fun hc4 => ?_) (fun hc4 => ?_)
          ·
            have hd4 := (or_t hc4).imp (fun h => (and_t h).imp (fun h => of_decide_eq_true h) (fun h => of_decide_eq_true h)) (fun h => (and_t h).imp (fun h => of_decide_eq_true h) (fun h => of_decide_eq_true h))
            have z1 : nT f (i + 1) T = nT f i T + 1 := by show _ + (if _ then _ else _) = _; rw [if_pos (show f i < ((T : Nat) : Int) by omega)]
            have z2 : sT f (i + 1) T = sT f i T + f i := by show _ + (if _ then _ else _) = _; rw [if_pos (show f i < ((T : Nat) : Int) by omega)]
            refine gc_region ?_
            refine ne (eo_mv rfl rfl) rfl ?_
            refine ne (eo_add rfl rfl rfl (by omega) (by omega)) rfl ?_
            refine ne (eo_mv rfl rfl) rfl ?_
            refine ne (eo_mv rfl rfl) rfl ?_
            refine ne (eo_add rfl rfl rfl (by omega) (by omega)) rfl ?_
            refine ne (eo_as rfl rfl) rfl ?_
            refine ne (eo_as rfl rfl) rfl ?_
            refine go_nil ?_
            refine gq_block_end ?_
            refine gq_next ?_
            refine gc_region ?_
            refine ne (eo_add rfl rfl rfl (by omega) (by omega)) rfl ?_
            refine ne (eo_mv rfl rfl) rfl ?_
            refine go_nil ?_
            exact round1 (i + 1) (by omega) (by omega) ⟨rfl, rfl, rfl, rfl, rfl, rfl, (look_int rfl (by omega)), (look_int rfl (by omega)), (look_int rfl (by omega)), (look_int rfl (by omega)), rfl, rfl, rfl, trivial⟩ (List.Sublist.refl _)
          ·
            have hd4 := (or_f hc4).imp (fun h => (and_f h).imp (fun h => of_decide_eq_false h) (fun h => of_decide_eq_false h)) (fun h => (and_f h).imp (fun h => of_decide_eq_false h) (fun h => of_decide_eq_false h))
            have z1 : nT f (i + 1) T = nT f i T + 0 := by show _ + (if _ then _ else _) = _; rw [if_neg (show ¬ f i < ((T : Nat) : Int) by omega)]
            have z2 : sT f (i + 1) T = sT f i T + 0 := by show _ + (if _ then _ else _) = _; rw [if_neg (show ¬ f i < ((T : Nat) : Int) by omega)]
            refine gc_region ?_
            refine ne (eo_mv rfl rfl) rfl ?_
            refine ne (eo_add rfl rfl rfl (by omega) (by omega)) rfl ?_
            refine ne (eo_mv rfl rfl) rfl ?_
            refine ne (eo_mv rfl rfl) rfl ?_
            refine ne (eo_add rfl rfl rfl (by omega) (by omega)) rfl ?_
            refine ne (eo_as rfl rfl) rfl ?_
            refine ne (eo_as rfl rfl) rfl ?_
            refine go_nil ?_
            refine gq_block_end ?_
            refine gq_next ?_
            refine gc_region ?_
            refine ne (eo_add rfl rfl rfl (by omega) (by omega)) rfl ?_
            refine ne (eo_mv rfl rfl) rfl ?_
            refine go_nil ?_
            exact round1 (i + 1) (by omega) (by omega) ⟨rfl, rfl, rfl, rfl, rfl, rfl, (look_int rfl (by omega)), (look_int rfl (by omega)), (look_int rfl (by omega)), (look_int rfl (by omega)), rfl, rfl, rfl, trivial⟩ (List.Sublist.refl _)
        ·
          replace hc3 := of_decide_eq_false hc3
          obtain rfl : n = i := by omega
          obtain ⟨⟨q1r, q2r⟩, ⟨q3r, q4r⟩, ⟨q5r, q6r⟩, ⟨q7r, q8r⟩⟩ := opt_bd (f := f) (t := T) hp hno
          unfold qT at q1r q2r
          unfold dT at q3r q4r
          refine gc_exit ?_
          refine gq_then_exit ?_
          refine gq_then_exit ?_
          refine gq_block_hit ?_
          refine gq_next ?_
          refine gc_seq ?_
          refine gc_region ?_
          refine ne (eo_mv rfl rfl) rfl ?_
          refine ne (eo_mv rfl rfl) rfl ?_
          refine ne (eo_mv rfl rfl) rfl ?_
          refine ne (eo_mul rfl rfl rfl (by omega) (by omega)) rfl ?_
          refine ne (eo_max rfl rfl rfl) rfl ?_
          refine ne (eo_indexArr rfl Try.underlying47 sz3 rfl rfl (by omega) (by omega)) rfl ?_
          refine nu (xo_store 0 rfl s3 rfl rfl (by first | rfl | exact AS.one) rfl rfl (by simp)) ?_
          rintro _ _ ⟨rfl, rfl⟩
          refine go_nil ?_
          refine gq_next ?_
          refine gc_seq ?_
          refine gc_region ?_
          refine ne (eo_mv rfl rfl) rfl ?_
          refine ne (eo_mv rfl rfl) rfl ?_
          refine ne (eo_mul rfl rfl rfl (by omega) (by omega)) rfl ?_
          refine ne (eo_gtr rfl rfl rfl) rfl ?_
          refine go_nil ?_
          refine gq_next ?_
          refine gc_cond rfl (fun hc5 => ?_) (fun hc5 => ?_)
          ·
            replace hc5 := of_decide_eq_true hc5
            have wr := opt_yes (f := f) (n := n) (t := T) (by unfold qT; omega)
            unfold dT qT at wr
            refine gc_region ?_
            refine ne (eo_mv rfl rfl) rfl ?_
            refine ne (eo_mv rfl rfl) rfl ?_
            refine ne (eo_mv rfl rfl) rfl ?_
            refine ne (eo_mul rfl rfl rfl (by omega) (by omega)) rfl ?_
            refine ne (eo_mv rfl rfl) rfl ?_
            refine ne (eo_mv rfl rfl) rfl ?_
            refine ne (eo_mul rfl rfl rfl (by omega) (by omega)) rfl ?_
            refine ne (eo_sub rfl rfl rfl (by omega) (by omega)) rfl ?_
            refine ne (eo_indexArr rfl Try.underlying47 sz3 rfl rfl (by omega) (by omega)) rfl ?_
            refine nu (xo_store 1 rfl s3 rfl rfl (by first | rfl | exact AS.one) rfl rfl (by simp)) ?_
            rintro _ _ ⟨rfl, rfl⟩
            refine go_nil ?_
            refine gq_block_end ?_
            refine gq_next ?_
            refine gc_region ?_
            refine ne (eo_add rfl rfl rfl (by omega) (by omega)) rfl ?_
            refine ne (eo_mv rfl rfl) rfl ?_
            refine go_nil ?_
            refine gq_rounds ?_
            refine gr_succ ?_
            refine gc_seq ?_
            refine gc_region ?_
            refine ne (eo_lss rfl rfl rfl) rfl ?_
            refine go_nil ?_
            refine gq_next ?_
            refine gc_seq ?_
            refine gc_cond rfl (fun hc2 => ?_) (fun hc2 => ?_)
            ·
              replace hc2 := of_decide_eq_true hc2
              refine gc_skip ?_
              refine gq_next ?_
              refine gc_seq ?_
              refine gc_block ?_
              refine gc_seq ?_
              refine gc_region ?_
              refine ne (eo_mv rfl rfl) rfl ?_
              refine ne (eo_as rfl rfl) rfl ?_
              refine go_nil ?_
              refine gq_next ?_
              refine gc_seq ?_
              refine gc_region ?_
              refine ne (eo_as rfl rfl) rfl ?_
              refine ne (eo_as rfl rfl) rfl ?_
              refine ne (eo_as rfl rfl) rfl ?_
              refine ne (eo_as rfl rfl) rfl ?_
              refine go_nil ?_
              refine gq_next ?_
              refine gc_seq ?_
              refine gc_seq ?_
              refine gc_region ?_
              refine ne (eo_field rfl f24_2 rfl) rfl ?_
              refine ne (eo_load 2 rfl s22 rfl rfl rfl rfl) rfl ?_
              refine ne (eo_len rfl Try.underlying22 rfl) rfl ?_
              refine ne (eo_mv rfl rfl) rfl ?_
              refine go_nil ?_
              refine gq_next ?_
              refine gc_block ?_
              refine loop1 (fun (i : Nat) => i ≤ n) (fun (i : Nat) => n - i) (fun (i : Nat) => [(1, .int .i64 o), (2, .pointer (some ⟨g2, 0, none⟩)), (5, .int .i64 ((T : Nat) : Int)), (7, .pointer (some ⟨g7, 0, none⟩)), (8, .pointer (some ⟨g8, 0, none⟩)), (9, .int .i64 (0 + 1)), (10, .int .i64 (nT f i o.toNat)), (11, .int .i64 (sT f i o.toNat)), (12, .int .i64 ((i : Int) - nT f i o.toNat)), (13, .int .i64 (sT f i 256 - sT f i o.toNat)), (51, .int .i64 (0 + 1)), (56, .int .i64 ((n : Nat) : Int)), (57, .int .i64 (i : Int))]) (fun (i : Nat) => [⟨g8, 47, [.int .i64 (max 1 ((nT f n T) * ((n : Int) - nT f n T))), .int .i64 0]⟩, ⟨g7, 47, [.int .i64 ((((n : Int) - nT f n T) * (sT f n T)) - ((nT f n T) * (sT f n 256 - sT f n T))), .int .i64 0]⟩, ⟨g2, 24, [.int .i64 W, .int .i64 H, .slice A n c]⟩]) 0 (by omega) ⟨rfl, rfl, rfl, rfl, rfl, rfl, rfl, rfl, (look_int rfl (by show (0 : Int) = ((0 : Nat) : Int) - 0; rfl)), (look_int rfl (by show (0 : Int) = 0 - 0; rfl)), rfl, rfl, rfl, trivial⟩ (List.Sublist.refl _) ?_
              intro i hi
              refine gc_seq ?_
              refine gc_region ?_
              refine ne (eo_lss rfl rfl rfl) rfl ?_
              refine go_nil ?_
              refine gq_next ?_
              refine gc_seq ?_
              refine gc_cond rfl (fun hc3 => ?_) (fun hc3 => ?_)
              ·
                replace hc3 := of_decide_eq_true hc3
                have hpx := hp (i : Int).toNat (by omega)
                have hpx2 := hp i (by omega)
                have nb := nT_bd (f := f) (n := i) (t := o.toNat)
                have sb := sT_bd (f := f) (n := i) (t := o.toNat) (fun j hj => hp j (by omega))
                have z3 : sT f (i + 1) 256 = sT f i 256 + f i := by show _ + (if _ then _ else _) = _; rw [if_pos (show f i < ((256 : Nat) : Int) by omega)]
                have hfi : f (i : Int).toNat = f i := rfl
                refine gc_skip ?_
                refine gq_next ?_
                refine gc_seq ?_
                refine gc_block ?_
                refine gc_seq ?_
                refine gc_region ?_
                refine ne (eo_mv rfl rfl) rfl ?_
                refine ne (eo_as rfl rfl) rfl ?_
                refine go_nil ?_
                refine gq_next ?_
                refine gc_seq ?_
                refine gc_region ?_
                refine ne (eo_field rfl f24_2 rfl) rfl ?_
                refine ne (eo_load 2 rfl s22 rfl rfl rfl rfl) rfl ?_
                refine ne (eo_mv rfl rfl) rfl ?_
                refine ne (eo_indexR rfl sl22 rfl rfl hr (by simp) (by omega) (by omega)) rfl ?_
                refine ne (eo_load_old rfl s5 rfl (Rd.tabi hr (by omega)) (by simp)) rfl ?_
                refine ne (eo_convi rfl rfl ⟨_, Try.underlying5⟩ Try.underlying3 (by omega) (by omega)) rfl ?_
                refine ne (eo_as rfl rfl) rfl ?_
                refine go_nil ?_
                refine gq_next ?_
                refine gc_seq ?_
                refine gc_region ?_
                refine ne (eo_mv rfl rfl) rfl ?_
                refine ne (eo_mv rfl rfl) rfl ?_
                refine ne (eo_lss rfl rfl rfl) rfl ?_
                refine ne (eo_mv rfl rfl) rfl ?_
                refine ng rfl rfl (fun h => eo_mv rfl rfl) rfl ?_
                refine ng rfl rfl (fun h => eo_eql rfl (ev_if h rfl) rfl) rfl ?_
                refine ne (eo_and rfl rfl (fun hb => ev_if hb rfl)) rfl ?_
                refine ne (eo_mv rfl rfl) rfl ?_
                refine ng rfl rfl (fun h => eo_mv rfl rfl) rfl ?_
                refine ng rfl rfl (fun h => eo_mv rfl rfl) rfl ?_
                refine ng rfl rfl (fun h => eo_lss rfl (ev_if h rfl) (ev_if h rfl)) rfl ?_
                refine ng rfl rfl (fun h => eo_mv rfl (ev_if h rfl)) rfl ?_
                refine ngc rfl rfl (fun h => eo_mv rfl rfl) rfl ?_
                refine ngc rfl rfl (fun h => eo_eql rfl (ev_if h rfl) rfl) rfl ?_
                refine ng rfl rfl (fun h => eo_and rfl (ev_if h rfl) (fun hb => ev_if ⟨h, hb⟩ rfl)) rfl ?_
                refine ne (eo_or rfl rfl (fun hb => ev_if hb rfl)) rfl ?_
                refine go_nil ?_
                refine gq_next ?_
                refine gc_cond rfl (fun hc4 => ?_) (fun hc4 => ?_)
                ·
                  have hd4 := (or_t hc4).imp (fun h => (and_t h).imp (fun h => of_decide_eq_true h) (fun h => of_decide_eq_true h)) (fun h => (and_t h).imp (fun h => of_decide_eq_true h) (fun h => of_decide_eq_true h))
                  have z1 : nT f (i + 1) o.toNat = nT f i o.toNat + 1 := by show _ + (if _ then _ else _) = _; rw [if_pos (show f i < ((o.toNat : Nat) : Int) by omega)]
                  have z2 : sT f (i + 1) o.toNat = sT f i o.toNat + f i := by show _ + (if _ then _ else _) = _; rw [if_pos (show f i < ((o.toNat : Nat) : Int) by omega)]
                  refine gc_region ?_
                  refine ne (eo_mv rfl rfl) rfl ?_
                  refine ne (eo_add rfl rfl rfl (by omega) (by omega)) rfl ?_
                  refine ne (eo_mv rfl rfl) rfl ?_
                  refine ne (eo_mv rfl rfl) rfl ?_
                  refine ne (eo_add rfl rfl rfl (by omega) (by omega)) rfl ?_
                  refine ne (eo_as rfl rfl) rfl ?_
                  refine ne (eo_as rfl rfl) rfl ?_
                  refine go_nil ?_
                  refine gq_block_end ?_
                  refine gq_next ?_
                  refine gc_region ?_
                  refine ne (eo_add rfl rfl rfl (by omega) (by omega)) rfl ?_
                  refine ne (eo_mv rfl rfl) rfl ?_
                  refine go_nil ?_
                  exact round1 (i + 1) (by omega) (by omega) ⟨rfl, rfl, rfl, rfl, rfl, rfl, (look_int rfl (by omega)), (look_int rfl (by omega)), (look_int rfl (by omega)), (look_int rfl (by omega)), rfl, rfl, rfl, trivial⟩ (List.Sublist.refl _)
                ·
                  have hd4 := (or_f hc4).imp (fun h => (and_f h).imp (fun h => of_decide_eq_false h) (fun h => of_decide_eq_false h)) (fun h => (and_f h).imp (fun h => of_decide_eq_false h) (fun h => of_decide_eq_false h))
                  have z1 : nT f (i + 1) o.toNat = nT f i o.toNat + 0 := by show _ + (if _ then _ else _) = _; rw [if_neg (show ¬ f i < ((o.toNat : Nat) : Int) by omega)]
                  have z2 : sT f (i + 1) o.toNat = sT f i o.toNat + 0 := by show _ + (if _ then _ else _) = _; rw [if_neg (show ¬ f i < ((o.toNat : Nat) : Int) by omega)]
                  refine gc_region ?_
                  refine ne (eo_mv rfl rfl) rfl ?_
                  refine ne (eo_add rfl rfl rfl (by omega) (by omega)) rfl ?_
                  refine ne (eo_mv rfl rfl) rfl ?_
                  refine ne (eo_mv rfl rfl) rfl ?_
                  refine ne (eo_add rfl rfl rfl (by omega) (by omega)) rfl ?_
                  refine ne (eo_as rfl rfl) rfl ?_
                  refine ne (eo_as rfl rfl) rfl ?_
                  refine go_nil ?_
                  refine gq_block_end ?_
                  refine gq_next ?_
                  refine gc_region ?_
                  refine ne (eo_add rfl rfl rfl (by omega) (by omega)) rfl ?_
                  refine ne (eo_mv rfl rfl) rfl ?_
                  refine go_nil ?_
                  exact round1 (i + 1) (by omega) (by omega) ⟨rfl, rfl, rfl, rfl, rfl, rfl, (look_int rfl (by omega)), (look_int rfl (by omega)), (look_int rfl (by omega)), (look_int rfl (by omega)), rfl, rfl, rfl, trivial⟩ (List.Sublist.refl _)
              ·
                replace hc3 := of_decide_eq_false hc3
                obtain rfl : n = i := by omega
                obtain ⟨⟨q1r2, q2r2⟩, ⟨q3r2, q4r2⟩, ⟨q5r2, q6r2⟩, ⟨q7r2, q8r2⟩⟩ := opt_bd (f := f) (t := o.toNat) hp hno
                unfold qT at q1r2 q2r2
                unfold dT at q3r2 q4r2
                refine gc_exit ?_
                refine gq_then_exit ?_
                refine gq_then_exit ?_
                refine gq_block_hit ?_
                refine gq_next ?_
                refine gc_seq ?_
                refine gc_region ?_
                refine ne (eo_mv rfl rfl) rfl ?_
                refine ne (eo_mv rfl rfl) rfl ?_
                refine ne (eo_mv rfl rfl) rfl ?_
                refine ne (eo_mul rfl rfl rfl (by omega) (by omega)) rfl ?_
                refine ne (eo_max rfl rfl rfl) rfl ?_
                refine ne (eo_indexArr rfl Try.underlying47 sz3 rfl rfl (by omega) (by omega)) rfl ?_
                refine nu (xo_store 0 rfl s3 rfl rfl (by first | rfl | exact AS.one) rfl rfl (by simp)) ?_
                rintro _ _ ⟨rfl, rfl⟩
                refine go_nil ?_
                refine gq_next ?_
                refine gc_seq ?_
                refine gc_region ?_
                refine ne (eo_mv rfl rfl) rfl ?_
                refine ne (eo_mv rfl rfl) rfl ?_
                refine ne (eo_mul rfl rfl rfl (by omega) (by omega)) rfl ?_
                refine ne (eo_gtr rfl rfl rfl) rfl ?_
                refine go_nil ?_
                refine gq_next ?_
                refine gc_cond rfl (fun hc5 => ?_) (fun hc5 => ?_)
                ·
                  replace hc5 := of_decide_eq_true hc5
                  have wr2 := opt_yes (f := f) (n := n) (t := o.toNat) (by unfold qT; omega)
                  unfold dT qT at wr2
                  refine gc_region ?_
                  refine ne (eo_mv rfl rfl) rfl ?_
                  refine ne (eo_mv rfl rfl) rfl ?_
                  refine ne (eo_mv rfl rfl) rfl ?_
                  refine ne (eo_mul rfl rfl rfl (by omega) (by omega)) rfl ?_
                  refine ne (eo_mv rfl rfl) rfl ?_
                  refine ne (eo_mv rfl rfl) rfl ?_
                  refine ne (eo_mul rfl rfl rfl (by omega) (by omega)) rfl ?_
                  refine ne (eo_sub rfl rfl rfl (by omega) (by omega)) rfl ?_
                  refine ne (eo_indexArr rfl Try.underlying47 sz3 rfl rfl (by omega) (by omega)) rfl ?_
                  refine nu (xo_store 1 rfl s3 rfl rfl (by first | rfl | exact AS.one) rfl rfl (by simp)) ?_
                  rintro _ _ ⟨rfl, rfl⟩
                  refine go_nil ?_
                  refine gq_block_end ?_
                  refine gq_next ?_
                  refine gc_region ?_
                  refine ne (eo_add rfl rfl rfl (by omega) (by omega)) rfl ?_
                  refine ne (eo_mv rfl rfl) rfl ?_
                  refine go_nil ?_
                  refine gq_rounds ?_
                  refine gr_succ ?_
                  refine gc_seq ?_
                  refine gc_region ?_
                  refine ne (eo_lss rfl rfl rfl) rfl ?_
                  refine go_nil ?_
                  refine gq_next ?_
                  refine gc_seq ?_
                  refine gc_cond rfl (fun hc2 => ?_) (fun hc2 => ?_)
                  ·
                    replace hc2 := of_decide_eq_true hc2
                    first | exact absurd hc2 (by decide) | exact Bool.noConfusion hc2 | (exfalso; omega)
                  ·
                    replace hc2 := of_decide_eq_false hc2
                    refine gc_exit ?_
                    refine gq_then_exit ?_
                    refine gq_then_exit ?_
                    refine gq_block_hit ?_
                    refine gq_next ?_
                    refine gc_seq ?_
                    have m0 := sq_le (z := ((((n : Int) - nT f n T) * (sT f n T)) - ((nT f n T) * (sT f n 256 - sT f n T)))) (c := 5737500) (by omega)
                    have m1 := sq_le (z := ((((n : Int) - nT f n o.toNat) * (sT f n o.toNat)) - ((nT f n o.toNat) * (sT f n 256 - sT f n o.toNat)))) (c := 5737500) (by omega)
                    have m2 := mul_le2 (a := ((((n : Int) - nT f n T) * (sT f n T)) - ((nT f n T) * (sT f n 256 - sT f n T))) * ((((n : Int) - nT f n T) * (sT f n T)) - ((nT f n T) * (sT f n 256 - sT f n T)))) (b := (max 1 ((nT f n o.toNat) * ((n : Int) - nT f n o.toNat)))) (A := 5737500 * 5737500) (B := 22500) m0.1 m0.2 (by omega) (by omega)
                    have m3 := mul_le2 (a := ((((n : Int) - nT f n o.toNat) * (sT f n o.toNat)) - ((nT f n o.toNat) * (sT f n 256 - sT f n o.toNat))) * ((((n : Int) - nT f n o.toNat) * (sT f n o.toNat)) - ((nT f n o.toNat) * (sT f n 256 - sT f n o.toNat)))) (b := (max 1 ((nT f n T) * ((n : Int) - nT f n T)))) (A := 5737500 * 5737500) (B := 22500) m1.1 m1.2 (by omega) (by omega)
                    have hz := opt_end (f := f) (n := n) (o := o.toNat) (x := ((((n : Int) - nT f n T) * (sT f n T)) - ((nT f n T) * (sT f n 256 - sT f n T))) * ((((n : Int) - nT f n T) * (sT f n T)) - ((nT f n T) * (sT f n 256 - sT f n T)))) (q := (max 1 ((nT f n T) * ((n : Int) - nT f n T)))) (y := ((((n : Int) - nT f n o.toNat) * (sT f n o.toNat)) - ((nT f n o.toNat) * (sT f n 256 - sT f n o.toNat))) * ((((n : Int) - nT f n o.toNat) * (sT f n o.toNat)) - ((nT f n o.toNat) * (sT f n 256 - sT f n o.toNat)))) (r := (max 1 ((nT f n o.toNat) * ((n : Int) - nT f n o.toNat)))) hp (by omega) (by omega) (by rw [hTe]; exact wr) wr2
                    rw [hTe] at hz
                    refine gc_draw [] [0, 1, 2, 3, 4, 5, 6, 7, 8, 9, 10, 11, 12, 13, 14, 15, 16, 17] [] [] (by kernel_rfl) (by kernel_rfl) ?_
                    refine gp_nil ?_
                    refine de rfl (eo_indexArr rfl Try.underlying47 sz3 rfl rfl (by omega) (by omega)) rfl ?_
                    refine de rfl (eo_load 1 rfl s3 rfl rfl rfl rfl) rfl ?_
                    refine de rfl (eo_indexArr rfl Try.underlying47 sz3 rfl rfl (by omega) (by omega)) rfl ?_
                    refine de rfl (eo_load 1 rfl s3 rfl rfl rfl rfl) rfl ?_
                    refine de rfl (eo_mul rfl rfl rfl (by omega) (by omega)) rfl ?_
                    refine de rfl (eo_indexArr rfl Try.underlying47 sz3 rfl rfl (by omega) (by omega)) rfl ?_
                    refine de rfl (eo_load 0 rfl s3 rfl rfl rfl rfl) rfl ?_
                    refine de rfl (eo_mul rfl rfl rfl (by omega) (by omega)) rfl ?_
                    refine de rfl (eo_indexArr rfl Try.underlying47 sz3 rfl rfl (by omega) (by omega)) rfl ?_
                    refine de rfl (eo_load 1 rfl s3 rfl rfl rfl rfl) rfl ?_
                    refine de rfl (eo_indexArr rfl Try.underlying47 sz3 rfl rfl (by omega) (by omega)) rfl ?_
                    refine de rfl (eo_load 1 rfl s3 rfl rfl rfl rfl) rfl ?_
                    refine de rfl (eo_mul rfl rfl rfl (by omega) (by omega)) rfl ?_
                    refine de rfl (eo_indexArr rfl Try.underlying47 sz3 rfl rfl (by omega) (by omega)) rfl ?_
                    refine de rfl (eo_load 0 rfl s3 rfl rfl rfl rfl) rfl ?_
                    refine de rfl (eo_mul rfl rfl rfl (by omega) (by omega)) rfl ?_
                    refine de rfl (eo_as rfl rfl) rfl ?_
                    refine de rfl (eo_as rfl rfl) rfl ?_
                    refine ge_nil ?_
                    refine ga_nil ?_
                    refine gi_nil ?_
                    refine gq_nq ?_
                    refine gq_next ?_
                    refine gc_seq ?_
                    refine gc_region ?_
                    refine ne (eo_mv rfl rfl) rfl ?_
                    refine ne (eo_mv rfl rfl) rfl ?_
                    refine ne (eo_geq rfl rfl rfl) rfl ?_
                    refine ne (eo_mv rfl rfl) rfl ?_
                    refine ng rfl rfl (fun h => eo_mv rfl rfl) rfl ?_
                    refine ng rfl rfl (fun h => eo_mv rfl rfl) rfl ?_
                    refine ng rfl rfl (fun h => eo_gtr rfl (ev_if h rfl) (ev_if h rfl)) rfl ?_
                    refine ng rfl rfl (fun h => eo_mv rfl (ev_if h rfl)) rfl ?_
                    refine ngc rfl rfl (fun h => eo_mv rfl rfl) rfl ?_
                    refine ngc rfl rfl (fun h => eo_mv rfl rfl) rfl ?_
                    refine ngc rfl rfl (fun h => eo_geq rfl (ev_if h rfl) (ev_if h rfl)) rfl ?_
                    refine ng rfl rfl (fun h => eo_or rfl (ev_if h rfl) (fun hb => ev_if ⟨h, hb⟩ rfl)) rfl ?_
                    refine ne (eo_and rfl rfl (fun hb => ev_if hb rfl)) rfl ?_
                    refine ne (eo_mv rfl rfl) rfl ?_
                    refine ng rfl rfl (fun h => eo_call rfl en10 rfl (fun W1 hO => alive36_c W1  )) rfl ?_
                    refine ne (eo_and rfl rfl (fun hb => ev_if hb rfl)) rfl ?_
                    refine ne (eo_as rfl rfl) rfl ?_
                    refine go_nil ?_
                    refine gq_next ?_
                    refine gc_ret ?_
                    refine gq_results (res1 rfl rfl) ?_
                    exact fun W1 hO => ⟨ret_bool (show ((decide (((((((n : Int) - nT f n o.toNat) * (sT f n o.toNat)) - ((nT f n o.toNat) * (sT f n 256 - sT f n o.toNat))) * ((((n : Int) - nT f n o.toNat) * (sT f n o.toNat)) - ((nT f n o.toNat) * (sT f n 256 - sT f n o.toNat)))) * (max 1 ((nT f n T) * ((n : Int) - nT f n T)))) ≤ ((((((n : Int) - nT f n T) * (sT f n T)) - ((nT f n T) * (sT f n 256 - sT f n T))) * ((((n : Int) - nT f n T) * (sT f n T)) - ((nT f n T) * (sT f n 256 - sT f n T)))) * (max 1 ((nT f n o.toNat) * ((n : Int) - nT f n o.toNat))))) && (decide (((((((n : Int) - nT f n o.toNat) * (sT f n o.toNat)) - ((nT f n o.toNat) * (sT f n 256 - sT f n o.toNat))) * ((((n : Int) - nT f n o.toNat) * (sT f n o.toNat)) - ((nT f n o.toNat) * (sT f n 256 - sT f n o.toNat)))) * (max 1 ((nT f n T) * ((n : Int) - nT f n T)))) < ((((((n : Int) - nT f n T) * (sT f n T)) - ((nT f n T) * (sT f n 256 - sT f n T))) * ((((n : Int) - nT f n T) * (sT f n T)) - ((nT f n T) * (sT f n 256 - sT f n T)))) * (max 1 ((nT f n o.toNat) * ((n : Int) - nT f n o.toNat))))) || decide (((T : Nat) : Int) ≤ o))) && true) = true from by (simp only [Bool.and_true, Bool.and_eq_true, Bool.or_eq_true, decide_eq_true_eq]; omega)), hO.toExt⟩
                ·
                  replace hc5 := of_decide_eq_false hc5
                  have wr2 := opt_no (f := f) (n := n) (t := o.toNat) hp (by omega) (by unfold qT; omega)
                  unfold qT at wr2
                  refine gc_skip ?_
                  refine gq_block_end ?_
                  refine gq_next ?_
                  refine gc_region ?_
                  refine ne (eo_add rfl rfl rfl (by omega) (by omega)) rfl ?_
                  refine ne (eo_mv rfl rfl) rfl ?_
                  refine go_nil ?_
                  refine gq_rounds ?_
                  refine gr_succ ?_
                  refine gc_seq ?_
                  refine gc_region ?_
                  refine ne (eo_lss rfl rfl rfl) rfl ?_
                  refine go_nil ?_
                  refine gq_next ?_
                  refine gc_seq ?_
                  refine gc_cond rfl (fun hc2 => ?_) (fun hc2 => ?_)
                  ·
                    replace hc2 := of_decide_eq_true hc2
                    first | exact absurd hc2 (by decide) | exact Bool.noConfusion hc2 | (exfalso; omega)
                  ·
                    replace hc2 := of_decide_eq_false hc2
                    refine gc_exit ?_
                    refine gq_then_exit ?_
                    refine gq_then_exit ?_
                    refine gq_block_hit ?_
                    refine gq_next ?_
                    refine gc_seq ?_
                    have m0 := sq_le (z := ((((n : Int) - nT f n T) * (sT f n T)) - ((nT f n T) * (sT f n 256 - sT f n T)))) (c := 5737500) (by omega)
                    have m1 := sq_le (z := 0) (c := 5737500) (by omega)
                    have m2 := mul_le2 (a := ((((n : Int) - nT f n T) * (sT f n T)) - ((nT f n T) * (sT f n 256 - sT f n T))) * ((((n : Int) - nT f n T) * (sT f n T)) - ((nT f n T) * (sT f n 256 - sT f n T)))) (b := (max 1 ((nT f n o.toNat) * ((n : Int) - nT f n o.toNat)))) (A := 5737500 * 5737500) (B := 22500) m0.1 m0.2 (by omega) (by omega)
                    have m3 := mul_le2 (a := 0 * 0) (b := (max 1 ((nT f n T) * ((n : Int) - nT f n T)))) (A := 5737500 * 5737500) (B := 22500) m1.1 m1.2 (by omega) (by omega)
                    have hz := opt_end (f := f) (n := n) (o := o.toNat) (x := ((((n : Int) - nT f n T) * (sT f n T)) - ((nT f n T) * (sT f n 256 - sT f n T))) * ((((n : Int) - nT f n T) * (sT f n T)) - ((nT f n T) * (sT f n 256 - sT f n T)))) (q := (max 1 ((nT f n T) * ((n : Int) - nT f n T)))) (y := 0 * 0) (r := (max 1 ((nT f n o.toNat) * ((n : Int) - nT f n o.toNat)))) hp (by omega) (by omega) (by rw [hTe]; exact wr) wr2
                    rw [hTe] at hz
                    refine gc_draw [] [0, 1, 2, 3, 4, 5, 6, 7, 8, 9, 10, 11, 12, 13, 14, 15, 16, 17] [] [] (by kernel_rfl) (by kernel_rfl) ?_
                    refine gp_nil ?_
                    refine de rfl (eo_indexArr rfl Try.underlying47 sz3 rfl rfl (by omega) (by omega)) rfl ?_
                    refine de rfl (eo_load 1 rfl s3 rfl rfl rfl rfl) rfl ?_
                    refine de rfl (eo_indexArr rfl Try.underlying47 sz3 rfl rfl (by omega) (by omega)) rfl ?_
                    refine de rfl (eo_load 1 rfl s3 rfl rfl rfl rfl) rfl ?_
                    refine de rfl (eo_mul rfl rfl rfl (by omega) (by omega)) rfl ?_
                    refine de rfl (eo_indexArr rfl Try.underlying47 sz3 rfl rfl (by omega) (by omega)) rfl ?_
                    refine de rfl (eo_load 0 rfl s3 rfl rfl rfl rfl) rfl ?_
                    refine de rfl (eo_mul rfl rfl rfl (by omega) (by omega)) rfl ?_
                    refine de rfl (eo_indexArr rfl Try.underlying47 sz3 rfl rfl (by omega) (by omega)) rfl ?_
                    refine de rfl (eo_load 1 rfl s3 rfl rfl rfl rfl) rfl ?_
                    refine de rfl (eo_indexArr rfl Try.underlying47 sz3 rfl rfl (by omega) (by omega)) rfl ?_
                    refine de rfl (eo_load 1 rfl s3 rfl rfl rfl rfl) rfl ?_
                    refine de rfl (eo_mul rfl rfl rfl (by omega) (by omega)) rfl ?_
                    refine de rfl (eo_indexArr rfl Try.underlying47 sz3 rfl rfl (by omega) (by omega)) rfl ?_
                    refine de rfl (eo_load 0 rfl s3 rfl rfl rfl rfl) rfl ?_
                    refine de rfl (eo_mul rfl rfl rfl (by omega) (by omega)) rfl ?_
                    refine de rfl (eo_as rfl rfl) rfl ?_
                    refine de rfl (eo_as rfl rfl) rfl ?_
                    refine ge_nil ?_
                    refine ga_nil ?_
                    refine gi_nil ?_
                    refine gq_nq ?_
                    refine gq_next ?_
                    refine gc_seq ?_
                    refine gc_region ?_
                    refine ne (eo_mv rfl rfl) rfl ?_
                    refine ne (eo_mv rfl rfl) rfl ?_
                    refine ne (eo_geq rfl rfl rfl) rfl ?_
                    refine ne (eo_mv rfl rfl) rfl ?_
                    refine ng rfl rfl (fun h => eo_mv rfl rfl) rfl ?_
                    refine ng rfl rfl (fun h => eo_mv rfl rfl) rfl ?_
                    refine ng rfl rfl (fun h => eo_gtr rfl (ev_if h rfl) (ev_if h rfl)) rfl ?_
                    refine ng rfl rfl (fun h => eo_mv rfl (ev_if h rfl)) rfl ?_
                    refine ngc rfl rfl (fun h => eo_mv rfl rfl) rfl ?_
                    refine ngc rfl rfl (fun h => eo_mv rfl rfl) rfl ?_
                    refine ngc rfl rfl (fun h => eo_geq rfl (ev_if h rfl) (ev_if h rfl)) rfl ?_
                    refine ng rfl rfl (fun h => eo_or rfl (ev_if h rfl) (fun hb => ev_if ⟨h, hb⟩ rfl)) rfl ?_
                    refine ne (eo_and rfl rfl (fun hb => ev_if hb rfl)) rfl ?_
                    refine ne (eo_mv rfl rfl) rfl ?_
                    refine ng rfl rfl (fun h => eo_call rfl en10 rfl (fun W1 hO => alive36_c W1  )) rfl ?_
                    refine ne (eo_and rfl rfl (fun hb => ev_if hb rfl)) rfl ?_
                    refine ne (eo_as rfl rfl) rfl ?_
                    refine go_nil ?_
                    refine gq_next ?_
                    refine gc_ret ?_
                    refine gq_results (res1 rfl rfl) ?_
                    exact fun W1 hO => ⟨ret_bool (show ((decide (((0 * 0) * (max 1 ((nT f n T) * ((n : Int) - nT f n T)))) ≤ ((((((n : Int) - nT f n T) * (sT f n T)) - ((nT f n T) * (sT f n 256 - sT f n T))) * ((((n : Int) - nT f n T) * (sT f n T)) - ((nT f n T) * (sT f n 256 - sT f n T)))) * (max 1 ((nT f n o.toNat) * ((n : Int) - nT f n o.toNat))))) && (decide (((0 * 0) * (max 1 ((nT f n T) * ((n : Int) - nT f n T)))) < ((((((n : Int) - nT f n T) * (sT f n T)) - ((nT f n T) * (sT f n 256 - sT f n T))) * ((((n : Int) - nT f n T) * (sT f n T)) - ((nT f n T) * (sT f n 256 - sT f n T)))) * (max 1 ((nT f n o.toNat) * ((n : Int) - nT f n o.toNat))))) || decide (((T : Nat) : Int) ≤ o))) && true) = true from by (simp only [Bool.and_true, Bool.and_eq_true, Bool.or_eq_true, decide_eq_true_eq]; omega)), hO.toExt⟩
            ·
              replace hc2 := of_decide_eq_false hc2
              first | exact absurd hc2 (by decide) | exact Bool.noConfusion hc2 | (exfalso; omega)
          ·
            replace hc5 := of_decide_eq_false hc5
            have wr := opt_no (f := f) (n := n) (t := T) hp (by omega) (by unfold qT; omega)
            unfold qT at wr
            refine gc_skip ?_
            refine gq_block_end ?_
            refine gq_next ?_
            refine gc_region ?_
            refine ne (eo_add rfl rfl rfl (by omega) (by omega)) rfl ?_
            refine ne (eo_mv rfl rfl) rfl ?_
            refine go_nil ?_
            refine gq_rounds ?_
            refine gr_succ ?_
            refine gc_seq ?_
            refine gc_region ?_
            refine ne (eo_lss rfl rfl rfl) rfl ?_
            refine go_nil ?_
            refine gq_next ?_
            refine gc_seq ?_
            refine gc_cond rfl (fun hc2 => ?_) (fun hc2 => ?_)
            ·
              replace hc2 := of_decide_eq_true hc2
              refine gc_skip ?_
              refine gq_next ?_
              refine gc_seq ?_
              refine gc_block ?_
              refine gc_seq ?_
              refine gc_region ?_
              refine ne (eo_mv rfl rfl) rfl ?_
              refine ne (eo_as rfl rfl) rfl ?_
              refine go_nil ?_
              refine gq_next ?_
              refine gc_seq ?_
              refine gc_region ?_
              refine ne (eo_as rfl rfl) rfl ?_
              refine ne (eo_as rfl rfl) rfl ?_
              refine ne (eo_as rfl rfl) rfl ?_
              refine ne (eo_as rfl rfl) rfl ?_
              refine go_nil ?_
              refine gq_next ?_
              refine gc_seq ?_
              refine gc_seq ?_
              refine gc_region ?_
              refine ne (eo_field rfl f24_2 rfl) rfl ?_
              refine ne (eo_load 2 rfl s22 rfl rfl rfl rfl) rfl ?_
              refine ne (eo_len rfl Try.underlying22 rfl) rfl ?_
              refine ne (eo_mv rfl rfl) rfl ?_
              refine go_nil ?_
              refine gq_next ?_
              refine gc_block ?_
              refine loop1 (fun (i : Nat) => i ≤ n) (fun (i : Nat) => n - i) (fun (i : Nat) => [(1, .int .i64 o), (2, .pointer (some ⟨g2, 0, none⟩)), (5, .int .i64 ((T : Nat) : Int)), (7, .pointer (some ⟨g7, 0, none⟩)), (8, .pointer (some ⟨g8, 0, none⟩)), (9, .int .i64 (0 + 1)), (10, .int .i64 (nT f i o.toNat)), (11, .int .i64 (sT f i o.toNat)), (12, .int .i64 ((i : Int) - nT f i o.toNat)), (13, .int .i64 (sT f i 256 - sT f i o.toNat)), (51, .int .i64 (0 + 1)), (56, .int .i64 ((n : Nat) : Int)), (57, .int .i64 (i : Int))]) (fun (i : Nat) => [⟨g8, 47, [.int .i64 (max 1 ((nT f n T) * ((n : Int) - nT f n T))), .int .i64 0]⟩, ⟨g7, 47, [.int .i64 0, .int .i64 0]⟩, ⟨g2, 24, [.int .i64 W, .int .i64 H, .slice A n c]⟩]) 0 (by omega) ⟨rfl, rfl, rfl, rfl, rfl, rfl, rfl, rfl, (look_int rfl (by show (0 : Int) = ((0 : Nat) : Int) - 0; rfl)), (look_int rfl (by show (0 : Int) = 0 - 0; rfl)), rfl, rfl, rfl, trivial⟩ (List.Sublist.refl _) ?_
              intro i hi
              refine gc_seq ?_
              refine gc_region ?_
              refine ne (eo_lss rfl rfl rfl) rfl ?_
              refine go_nil ?_
              refine gq_next ?_
              refine gc_seq ?_
              refine gc_cond rfl (fun hc3 => ?_) (fun hc3 => ?_)
              ·
                replace hc3 := of_decide_eq_true hc3
                have hpx := hp (i : Int).toNat (by omega)
                have hpx2 := hp i (by omega)
                have nb := nT_bd (f := f) (n := i) (t := o.toNat)
                have sb := sT_bd (f := f) (n := i) (t := o.toNat) (fun j hj => hp j (by omega))
                have z3 : sT f (i + 1) 256 = sT f i 256 + f i := by show _ + (if _ then _ else _) = _; rw [if_pos (show f i < ((256 : Nat) : Int) by omega)]
                have hfi : f (i : Int).toNat = f i := rfl
                refine gc_skip ?_
                refine gq_next ?_
                refine gc_seq ?_
                refine gc_block ?_
                refine gc_seq ?_
                refine gc_region ?_
                refine ne (eo_mv rfl rfl) rfl ?_
                refine ne (eo_as rfl rfl) rfl ?_
                refine go_nil ?_
                refine gq_next ?_
                refine gc_seq ?_
                refine gc_region ?_
                refine ne (eo_field rfl f24_2 rfl) rfl ?_
                refine ne (eo_load 2 rfl s22 rfl rfl rfl rfl) rfl ?_
                refine ne (eo_mv rfl rfl) rfl ?_
                refine ne (eo_indexR rfl sl22 rfl rfl hr (by simp) (by omega) (by omega)) rfl ?_
                refine ne (eo_load_old rfl s5 rfl (Rd.tabi hr (by omega)) (by simp)) rfl ?_
                refine ne (eo_convi rfl rfl ⟨_, Try.underlying5⟩ Try.underlying3 (by omega) (by omega)) rfl ?_
                refine ne (eo_as rfl rfl) rfl ?_
                refine go_nil ?_
                refine gq_next ?_
                refine gc_seq ?_
                refine gc_region ?_
                refine ne (eo_mv rfl rfl) rfl ?_
                refine ne (eo_mv rfl rfl) rfl ?_
                refine ne (eo_lss rfl rfl rfl) rfl ?_
                refine ne (eo_mv rfl rfl) rfl ?_
                refine ng rfl rfl (fun h => eo_mv rfl rfl) rfl ?_
                refine ng rfl rfl (fun h => eo_eql rfl (ev_if h rfl) rfl) rfl ?_
                refine ne (eo_and rfl rfl (fun hb => ev_if hb rfl)) rfl ?_
                refine ne (eo_mv rfl rfl) rfl ?_
                refine ng rfl rfl (fun h => eo_mv rfl rfl) rfl ?_
                refine ng rfl rfl (fun h => eo_mv rfl rfl) rfl ?_
                refine ng rfl rfl (fun h => eo_lss rfl (ev_if h rfl) (ev_if h rfl)) rfl ?_
                refine ng rfl rfl (fun h => eo_mv rfl (ev_if h rfl)) rfl ?_
                refine ngc rfl rfl (fun h => eo_mv rfl rfl) rfl ?_
                refine ngc rfl rfl (fun h => eo_eql rfl (ev_if h rfl) rfl) rfl ?_
                refine ng rfl rfl (fun h => eo_and rfl (ev_if h rfl) (fun hb => ev_if ⟨h, hb⟩ rfl)) rfl ?_
                refine ne (eo_or rfl rfl (fun hb => ev_if hb rfl)) rfl ?_
                refine go_nil ?_
                refine gq_next ?_
                refine gc_cond rfl (fun hc4 => ?_) (fun hc4 => ?_)
                ·
                  have hd4 := (or_t hc4).imp (fun h => (and_t h).imp (fun h => of_decide_eq_true h) (fun h => of_decide_eq_true h)) (fun h => (and_t h).imp (fun h => of_decide_eq_true h) (fun h => of_decide_eq_true h))
                  have z1 : nT f (i + 1) o.toNat = nT f i o.toNat + 1 := by show _ + (if _ then _ else _) = _; rw [if_pos (show f i < ((o.toNat : Nat) : Int) by omega)]
                  have z2 : sT f (i + 1) o.toNat = sT f i o.toNat + f i := by show _ + (if _ then _ else _) = _; rw [if_pos (show f i < ((o.toNat : Nat) : Int) by omega)]
                  refine gc_region ?_
                  refine ne (eo_mv rfl rfl) rfl ?_
                  refine ne (eo_add rfl rfl rfl (by omega) (by omega)) rfl ?_
                  refine ne (eo_mv rfl rfl) rfl ?_
                  refine ne (eo_mv rfl rfl) rfl ?_
                  refine ne (eo_add rfl rfl rfl (by omega) (by omega)) rfl ?_
                  refine ne (eo_as rfl rfl) rfl ?_
                  refine ne (eo_as rfl rfl) rfl ?_
                  refine go_nil ?_
                  refine gq_block_end ?_
                  refine gq_next ?_
                  refine gc_region ?_
                  refine ne (eo_add rfl rfl rfl (by omega) (by omega)) rfl ?_
                  refine ne (eo_mv rfl rfl) rfl ?_
                  refine go_nil ?_
                  exact round1 (i + 1) (by omega) (by omega) ⟨rfl, rfl, rfl, rfl, rfl, rfl, (look_int rfl (by omega)), (look_int rfl (by omega)), (look_int rfl (by omega)), (look_int rfl (by omega)), rfl, rfl, rfl, trivial⟩ (List.Sublist.refl _)
                ·
                  have hd4 := (or_f hc4).imp (fun h => (and_f h).imp (fun h => of_decide_eq_false h) (fun h => of_decide_eq_false h)) (fun h => (and_f h).imp (fun h => of_decide_eq_false h) (fun h => of_decide_eq_false h))
                  have z1 : nT f (i + 1) o.toNat = nT f i o.toNat + 0 := by show _ + (if _ then _ else _) = _; rw [if_neg (show ¬ f i < ((o.toNat : Nat) : Int) by omega)]
                  have z2 : sT f (i + 1) o.toNat = sT f i o.toNat + 0 := by show _ + (if _ then _ else _) = _; rw [if_neg (show ¬ f i < ((o.toNat : Nat) : Int) by omega)]
                  refine gc_region ?_
                  refine ne (eo_mv rfl rfl) rfl ?_
                  refine ne (eo_add rfl rfl rfl (by omega) (by omega)) rfl ?_
                  refine ne (eo_mv rfl rfl) rfl ?_
                  refine ne (eo_mv rfl rfl) rfl ?_
                  refine ne (eo_add rfl rfl rfl (by omega) (by omega)) rfl ?_
                  refine ne (eo_as rfl rfl) rfl ?_
                  refine ne (eo_as rfl rfl) rfl ?_
                  refine go_nil ?_
                  refine gq_block_end ?_
                  refine gq_next ?_
                  refine gc_region ?_
                  refine ne (eo_add rfl rfl rfl (by omega) (by omega)) rfl ?_
                  refine ne (eo_mv rfl rfl) rfl ?_
                  refine go_nil ?_
                  exact round1 (i + 1) (by omega) (by omega) ⟨rfl, rfl, rfl, rfl, rfl, rfl, (look_int rfl (by omega)), (look_int rfl (by omega)), (look_int rfl (by omega)), (look_int rfl (by omega)), rfl, rfl, rfl, trivial⟩ (List.Sublist.refl _)
              ·
                replace hc3 := of_decide_eq_false hc3
                obtain rfl : n = i := by omega
                obtain ⟨⟨q1r2, q2r2⟩, ⟨q3r2, q4r2⟩, ⟨q5r2, q6r2⟩, ⟨q7r2, q8r2⟩⟩ := opt_bd (f := f) (t := o.toNat) hp hno
                unfold qT at q1r2 q2r2
                unfold dT at q3r2 q4r2
                refine gc_exit ?_
                refine gq_then_exit ?_
                refine gq_then_exit ?_
                refine gq_block_hit ?_
                refine gq_next ?_
                refine gc_seq ?_
                refine gc_region ?_
                refine ne (eo_mv rfl rfl) rfl ?_
                refine ne (eo_mv rfl rfl) rfl ?_
                refine ne (eo_mv rfl rfl) rfl ?_
                refine ne (eo_mul rfl rfl rfl (by omega) (by omega)) rfl ?_
                refine ne (eo_max rfl rfl rfl) rfl ?_
                refine ne (eo_indexArr rfl Try.underlying47 sz3 rfl rfl (by omega) (by omega)) rfl ?_
                refine nu (xo_store 0 rfl s3 rfl rfl (by first | rfl | exact AS.one) rfl rfl (by simp)) ?_
                rintro _ _ ⟨rfl, rfl⟩
                refine go_nil ?_
                refine gq_next ?_
                refine gc_seq ?_
                refine gc_region ?_
                refine ne (eo_mv rfl rfl) rfl ?_
                refine ne (eo_mv rfl rfl) rfl ?_
                refine ne (eo_mul rfl rfl rfl (by omega) (by omega)) rfl ?_
                refine ne (eo_gtr rfl rfl rfl) rfl ?_
                refine go_nil ?_
                refine gq_next ?_
                refine gc_cond rfl (fun hc5 => ?_) (fun hc5 => ?_)
                ·
                  replace hc5 := of_decide_eq_true hc5
                  have wr2 := opt_yes (f := f) (n := n) (t := o.toNat) (by unfold qT; omega)
                  unfold dT qT at wr2
                  refine gc_region ?_
                  refine ne (eo_mv rfl rfl) rfl ?_
                  refine ne (eo_mv rfl rfl) rfl ?_
                  refine ne (eo_mv rfl rfl) rfl ?_
                  refine ne (eo_mul rfl rfl rfl (by omega) (by omega)) rfl ?_
                  refine ne (eo_mv rfl rfl) rfl ?_
                  refine ne (eo_mv rfl rfl) rfl ?_
                  refine ne (eo_mul rfl rfl rfl (by omega) (by omega)) rfl ?_
                  refine ne (eo_sub rfl rfl rfl (by omega) (by omega)) rfl ?_
                  refine ne (eo_indexArr rfl Try.underlying47 sz3 rfl rfl (by omega) (by omega)) rfl ?_
                  refine nu (xo_store 1 rfl s3 rfl rfl (by first | rfl | exact AS.one) rfl rfl (by simp)) ?_
                  rintro _ _ ⟨rfl, rfl⟩
                  refine go_nil ?_
                  refine gq_block_end ?_
                  refine gq_next ?_
                  refine gc_region ?_
                  refine ne (eo_add rfl rfl rfl (by omega) (by omega)) rfl ?_
                  refine ne (eo_mv rfl rfl) rfl ?_
                  refine go_nil ?_
                  refine gq_rounds ?_
                  refine gr_succ ?_
                  refine gc_seq ?_
                  refine gc_region ?_
                  refine ne (eo_lss rfl rfl rfl) rfl ?_
                  refine go_nil ?_
                  refine gq_next ?_
                  refine gc_seq ?_
                  refine gc_cond rfl (fun hc2 => ?_) (fun hc2 => ?_)
                  ·
                    replace hc2 := of_decide_eq_true hc2
                    first | exact absurd hc2 (by decide) | exact Bool.noConfusion hc2 | (exfalso; omega)
                  ·
                    replace hc2 := of_decide_eq_false hc2
                    refine gc_exit ?_
                    refine gq_then_exit ?_
                    refine gq_then_exit ?_
                    refine gq_block_hit ?_
                    refine gq_next ?_
                    refine gc_seq ?_
                    have m0 := sq_le (z := 0) (c := 5737500) (by omega)
                    have m1 := sq_le (z := ((((n : Int) - nT f n o.toNat) * (sT f n o.toNat)) - ((nT f n o.toNat) * (sT f n 256 - sT f n o.toNat)))) (c := 5737500) (by omega)
                    have m2 := mul_le2 (a := 0 * 0) (b := (max 1 ((nT f n o.toNat) * ((n : Int) - nT f n o.toNat)))) (A := 5737500 * 5737500) (B := 22500) m0.1 m0.2 (by omega) (by omega)
                    have m3 := mul_le2 (a := ((((n : Int) - nT f n o.toNat) * (sT f n o.toNat)) - ((nT f n o.toNat) * (sT f n 256 - sT f n o.toNat))) * ((((n : Int) - nT f n o.toNat) * (sT f n o.toNat)) - ((nT f n o.toNat) * (sT f n 256 - sT f n o.toNat)))) (b := (max 1 ((nT f n T) * ((n : Int) - nT f n T)))) (A := 5737500 * 5737500) (B := 22500) m1.1 m1.2 (by omega) (by omega)
                    have hz := opt_end (f := f) (n := n) (o := o.toNat) (x := 0 * 0) (q := (max 1 ((nT f n T) * ((n : Int) - nT f n T)))) (y := ((((n : Int) - nT f n o.toNat) * (sT f n o.toNat)) - ((nT f n o.toNat) * (sT f n 256 - sT f n o.toNat))) * ((((n : Int) - nT f n o.toNat) * (sT f n o.toNat)) - ((nT f n o.toNat) * (sT f n 256 - sT f n o.toNat)))) (r := (max 1 ((nT f n o.toNat) * ((n : Int) - nT f n o.toNat)))) hp (by omega) (by omega) (by rw [hTe]; exact wr) wr2
                    rw [hTe] at hz
                    refine gc_draw [] [0, 1, 2, 3, 4, 5, 6, 7, 8, 9, 10, 11, 12, 13, 14, 15, 16, 17] [] [] (by kernel_rfl) (by kernel_rfl) ?_
                    refine gp_nil ?_
                    refine de rfl (eo_indexArr rfl Try.underlying47 sz3 rfl rfl (by omega) (by omega)) rfl ?_
                    refine de rfl (eo_load 1 rfl s3 rfl rfl rfl rfl) rfl ?_
                    refine de rfl (eo_indexArr rfl Try.underlying47 sz3 rfl rfl (by omega) (by omega)) rfl ?_
                    refine de rfl (eo_load 1 rfl s3 rfl rfl rfl rfl) rfl ?_
                    refine de rfl (eo_mul rfl rfl rfl (by omega) (by omega)) rfl ?_
                    refine de rfl (eo_indexArr rfl Try.underlying47 sz3 rfl rfl (by omega) (by omega)) rfl ?_
                    refine de rfl (eo_load 0 rfl s3 rfl rfl rfl rfl) rfl ?_
                    refine de rfl (eo_mul rfl rfl rfl (by omega) (by omega)) rfl ?_
                    refine de rfl (eo_indexArr rfl Try.underlying47 sz3 rfl rfl (by omega) (by omega)) rfl ?_
                    refine de rfl (eo_load 1 rfl s3 rfl rfl rfl rfl) rfl ?_
                    refine de rfl (eo_indexArr rfl Try.underlying47 sz3 rfl rfl (by omega) (by omega)) rfl ?_
                    refine de rfl (eo_load 1 rfl s3 rfl rfl rfl rfl) rfl ?_
                    refine de rfl (eo_mul rfl rfl rfl (by omega) (by omega)) rfl ?_
                    refine de rfl (eo_indexArr rfl Try.underlying47 sz3 rfl rfl (by omega) (by omega)) rfl ?_
                    refine de rfl (eo_load 0 rfl s3 rfl rfl rfl rfl) rfl ?_
                    refine de rfl (eo_mul rfl rfl rfl (by omega) (by omega)) rfl ?_
                    refine de rfl (eo_as rfl rfl) rfl ?_
                    refine de rfl (eo_as rfl rfl) rfl ?_
                    refine ge_nil ?_
                    refine ga_nil ?_
                    refine gi_nil ?_
                    refine gq_nq ?_
                    refine gq_next ?_
                    refine gc_seq ?_
                    refine gc_region ?_
                    refine ne (eo_mv rfl rfl) rfl ?_
                    refine ne (eo_mv rfl rfl) rfl ?_
                    refine ne (eo_geq rfl rfl rfl) rfl ?_
                    refine ne (eo_mv rfl rfl) rfl ?_
                    refine ng rfl rfl (fun h => eo_mv rfl rfl) rfl ?_
                    refine ng rfl rfl (fun h => eo_mv rfl rfl) rfl ?_
                    refine ng rfl rfl (fun h => eo_gtr rfl (ev_if h rfl) (ev_if h rfl)) rfl ?_
                    refine ng rfl rfl (fun h => eo_mv rfl (ev_if h rfl)) rfl ?_
                    refine ngc rfl rfl (fun h => eo_mv rfl rfl) rfl ?_
                    refine ngc rfl rfl (fun h => eo_mv rfl rfl) rfl ?_
                    refine ngc rfl rfl (fun h => eo_geq rfl (ev_if h rfl) (ev_if h rfl)) rfl ?_
                    refine ng rfl rfl (fun h => eo_or rfl (ev_if h rfl) (fun hb => ev_if ⟨h, hb⟩ rfl)) rfl ?_
                    refine ne (eo_and rfl rfl (fun hb => ev_if hb rfl)) rfl ?_
                    refine ne (eo_mv rfl rfl) rfl ?_
                    refine ng rfl rfl (fun h => eo_call rfl en10 rfl (fun W1 hO => alive36_c W1  )) rfl ?_
                    refine ne (eo_and rfl rfl (fun hb => ev_if hb rfl)) rfl ?_
                    refine ne (eo_as rfl rfl) rfl ?_
                    refine go_nil ?_
                    refine gq_next ?_
                    refine gc_ret ?_
                    refine gq_results (res1 rfl rfl) ?_
                    exact fun W1 hO => ⟨ret_bool (show ((decide (((((((n : Int) - nT f n o.toNat) * (sT f n o.toNat)) - ((nT f n o.toNat) * (sT f n 256 - sT f n o.toNat))) * ((((n : Int) - nT f n o.toNat) * (sT f n o.toNat)) - ((nT f n o.toNat) * (sT f n 256 - sT f n o.toNat)))) * (max 1 ((nT f n T) * ((n : Int) - nT f n T)))) ≤ ((0 * 0) * (max 1 ((nT f n o.toNat) * ((n : Int) - nT f n o.toNat))))) && (decide (((((((n : Int) - nT f n o.toNat) * (sT f n o.toNat)) - ((nT f n o.toNat) * (sT f n 256 - sT f n o.toNat))) * ((((n : Int) - nT f n o.toNat) * (sT f n o.toNat)) - ((nT f n o.toNat) * (sT f n 256 - sT f n o.toNat)))) * (max 1 ((nT f n T) * ((n : Int) - nT f n T)))) < ((0 * 0) * (max 1 ((nT f n o.toNat) * ((n : Int) - nT f n o.toNat))))) || decide (((T : Nat) : Int) ≤ o))) && true) = true from by (simp only [Bool.and_true, Bool.and_eq_true, Bool.or_eq_true, decide_eq_true_eq]; omega)), hO.toExt⟩
                ·
                  replace hc5 := of_decide_eq_false hc5
                  have wr2 := opt_no (f := f) (n := n) (t := o.toNat) hp (by omega) (by unfold qT; omega)
                  unfold qT at wr2
                  refine gc_skip ?_
                  refine gq_block_end ?_
                  refine gq_next ?_
                  refine gc_region ?_
                  refine ne (eo_add rfl rfl rfl (by omega) (by omega)) rfl ?_
                  refine ne (eo_mv rfl rfl) rfl ?_
                  refine go_nil ?_
                  refine gq_rounds ?_
                  refine gr_succ ?_
                  refine gc_seq ?_
                  refine gc_region ?_
                  refine ne (eo_lss rfl rfl rfl) rfl ?_
                  refine go_nil ?_
                  refine gq_next ?_
                  refine gc_seq ?_
                  refine gc_cond rfl (fun hc2 => ?_) (fun hc2 => ?_)
                  ·
                    replace hc2 := of_decide_eq_true hc2
                    first | exact absurd hc2 (by decide) | exact Bool.noConfusion hc2 | (exfalso; omega)
                  ·
                    replace hc2 := of_decide_eq_false hc2
                    refine gc_exit ?_
                    refine gq_then_exit ?_
                    refine gq_then_exit ?_
                    refine gq_block_hit ?_
                    refine gq_next ?_
                    refine gc_seq ?_
                    have m0 := sq_le (z := 0) (c := 5737500) (by omega)
                    have m1 := sq_le (z := 0) (c := 5737500) (by omega)
                    have m2 := mul_le2 (a := 0 * 0) (b := (max 1 ((nT f n o.toNat) * ((n : Int) - nT f n o.toNat)))) (A := 5737500 * 5737500) (B := 22500) m0.1 m0.2 (by omega) (by omega)
                    have m3 := mul_le2 (a := 0 * 0) (b := (max 1 ((nT f n T) * ((n : Int) - nT f n T)))) (A := 5737500 * 5737500) (B := 22500) m1.1 m1.2 (by omega) (by omega)
                    have hz := opt_end (f := f) (n := n) (o := o.toNat) (x := 0 * 0) (q := (max 1 ((nT f n T) * ((n : Int) - nT f n T)))) (y := 0 * 0) (r := (max 1 ((nT f n o.toNat) * ((n : Int) - nT f n o.toNat)))) hp (by omega) (by omega) (by rw [hTe]; exact wr) wr2
                    rw [hTe] at hz
                    refine gc_draw [] [0, 1, 2, 3, 4, 5, 6, 7, 8, 9, 10, 11, 12, 13, 14, 15, 16, 17] [] [] (by kernel_rfl) (by kernel_rfl) ?_
                    refine gp_nil ?_
                    refine de rfl (eo_indexArr rfl Try.underlying47 sz3 rfl rfl (by omega) (by omega)) rfl ?_
                    refine de rfl (eo_load 1 rfl s3 rfl rfl rfl rfl) rfl ?_
                    refine de rfl (eo_indexArr rfl Try.underlying47 sz3 rfl rfl (by omega) (by omega)) rfl ?_
                    refine de rfl (eo_load 1 rfl s3 rfl rfl rfl rfl) rfl ?_
                    refine de rfl (eo_mul rfl rfl rfl (by omega) (by omega)) rfl ?_
                    refine de rfl (eo_indexArr rfl Try.underlying47 sz3 rfl rfl (by omega) (by omega)) rfl ?_
                    refine de rfl (eo_load 0 rfl s3 rfl rfl rfl rfl) rfl ?_
                    refine de rfl (eo_mul rfl rfl rfl (by omega) (by omega)) rfl ?_
                    refine de rfl (eo_indexArr rfl Try.underlying47 sz3 rfl rfl (by omega) (by omega)) rfl ?_
                    refine de rfl (eo_load 1 rfl s3 rfl rfl rfl rfl) rfl ?_
                    refine de rfl (eo_indexArr rfl Try.underlying47 sz3 rfl rfl (by omega) (by omega)) rfl ?_
                    refine de rfl (eo_load 1 rfl s3 rfl rfl rfl rfl) rfl ?_
                    refine de rfl (eo_mul rfl rfl rfl (by omega) (by omega)) rfl ?_
                    refine de rfl (eo_indexArr rfl Try.underlying47 sz3 rfl rfl (by omega) (by omega)) rfl ?_
                    refine de rfl (eo_load 0 rfl s3 rfl rfl rfl rfl) rfl ?_
                    refine de rfl (eo_mul rfl rfl rfl (by omega) (by omega)) rfl ?_
                    refine de rfl (eo_as rfl rfl) rfl ?_
                    refine de rfl (eo_as rfl rfl) rfl ?_
                    refine ge_nil ?_
                    refine ga_nil ?_
                    refine gi_nil ?_
                    refine gq_nq ?_
                    refine gq_next ?_
                    refine gc_seq ?_
                    refine gc_region ?_
                    refine ne (eo_mv rfl rfl) rfl ?_
                    refine ne (eo_mv rfl rfl) rfl ?_
                    refine ne (eo_geq rfl rfl rfl) rfl ?_
                    refine ne (eo_mv rfl rfl) rfl ?_
                    refine ng rfl rfl (fun h => eo_mv rfl rfl) rfl ?_
                    refine ng rfl rfl (fun h => eo_mv rfl rfl) rfl ?_
                    refine ng rfl rfl (fun h => eo_gtr rfl (ev_if h rfl) (ev_if h rfl)) rfl ?_
                    refine ng rfl rfl (fun h => eo_mv rfl (ev_if h rfl)) rfl ?_
                    refine ngc rfl rfl (fun h => eo_mv rfl rfl) rfl ?_
                    refine ngc rfl rfl (fun h => eo_mv rfl rfl) rfl ?_
                    refine ngc rfl rfl (fun h => eo_geq rfl (ev_if h rfl) (ev_if h rfl)) rfl ?_
                    refine ng rfl rfl (fun h => eo_or rfl (ev_if h rfl) (fun hb => ev_if ⟨h, hb⟩ rfl)) rfl ?_
                    refine ne (eo_and rfl rfl (fun hb => ev_if hb rfl)) rfl ?_
                    refine ne (eo_mv rfl rfl) rfl ?_
                    refine ng rfl rfl (fun h => eo_call rfl en10 rfl (fun W1 hO => alive36_c W1  )) rfl ?_
                    refine ne (eo_and rfl rfl (fun hb => ev_if hb rfl)) rfl ?_
                    refine ne (eo_as rfl rfl) rfl ?_
                    refine go_nil ?_
                    refine gq_next ?_
                    refine gc_ret ?_
                    refine gq_results (res1 rfl rfl) ?_
                    exact fun W1 hO => ⟨ret_bool (show ((decide (((0 * 0) * (max 1 ((nT f n T) * ((n : Int) - nT f n T)))) ≤ ((0 * 0) * (max 1 ((nT f n o.toNat) * ((n : Int) - nT f n o.toNat))))) && (decide (((0 * 0) * (max 1 ((nT f n T) * ((n : Int) - nT f n T)))) < ((0 * 0) * (max 1 ((nT f n o.toNat) * ((n : Int) - nT f n o.toNat))))) || decide (((T : Nat) : Int) ≤ o))) && true) = true from by (simp only [Bool.and_true, Bool.and_eq_true, Bool.or_eq_true, decide_eq_true_eq]; omega)), hO.toExt⟩
            ·
              replace hc2 := of_decide_eq_false hc2
              first | exact absurd hc2 (by decide) | exact Bool.noConfusion hc2 | (exfalso; omega)
      ·
        replace hc2 := of_decide_eq_false hc2
        first | exact absurd hc2 (by decide) | exact Bool.noConfusion hc2 | (exfalso; omega)

end Go.Proofs.Ytcdhbikginpogaa
