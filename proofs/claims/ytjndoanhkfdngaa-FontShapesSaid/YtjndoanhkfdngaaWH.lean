/-
  The walks of the functions of package font and of the document's answer (part H): what each call returns, at every argument.
-/
import Derived.Test.YtjndoanhkfdngaaWE
namespace Go.Proofs.Ytjndoanhkfdngaa
open Go.RowKit Go.Eng

open Go.Bs
theorem en21 : Ent Try.prog 21 := ent_of Try.func21 (by kernel_rfl) rfl
theorem en7 : Ent Try.prog 7 := ent_of Try.func7 (by kernel_rfl) rfl
theorem en19 : Ent Try.prog 19 := ent_of Try.func19 (by kernel_rfl) rfl

/-- barscan/barscanlaw47.FontShapes -/
theorem lshapes_c (a : Int) (b : Int) (w : World)  (a0 : 0 ≤ a) (a1 : a ≤ 255) (b0 : 0 ≤ b) (b1 : b ≤ 255) :
    Calls Try.prog 5 #[.int .u8 a, .int .u8 b] w (fun e w' => e = .returned (.bool true) ∧ Ext w w') := by
  refine calls_enter (N := ⟨177, []⟩) [] ([]) Try.func5 rfl rfl rfl (Ow.start _) ?_
  refine gc_seq ?_
  refine gc_region ?_
  refine ne (eo_as rfl rfl) rfl ?_
  refine go_nil ?_
  refine gq_next ?_
  refine gc_seq ?_
  refine gc_region ?_
  refine ne (eo_mv rfl rfl) rfl ?_
  refine nx (xo_freshT rfl en13 rfl (fun W1 hO => glyph_x _ W1  (by omega) (by omega))) rfl ?_
  rintro _ H17 ⟨S17, ⟨A17, k17, rfl, hk17, hS17⟩, hH17⟩
  obtain rfl : S17 = H17 := hH17.symm
  refine ne (eo_mv rfl rfl) rfl ?_
  refine ne (eo_extract rfl rfl rfl) rfl ?_
  refine ne (eo_extract rfl rfl rfl) rfl ?_
  refine nx (xo_alloc rfl z25) rfl ?_
  rintro _ _ ⟨g5, rfl, rfl⟩
  refine nu (xo_storeA 0 rfl a25 rfl rfl (ones_cons (by first | rfl | exact AS.one) (ones_cons (by first | rfl | exact AS.one) (ones_cons (by first | rfl | exact AS.one) ones_nil))) rfl rfl rfl rfl) ?_
  rintro _ _ ⟨rfl, rfl⟩
  refine ne (eo_as rfl rfl) rfl ?_
  refine go_nil ?_
  refine gq_next ?_
  refine gc_seq ?_
  refine gc_seq ?_
  refine gc_region ?_
  refine ne (eo_mv rfl rfl) rfl ?_
  refine ne (eo_neq rfl rfl rfl) rfl ?_
  refine go_nil ?_
  refine gq_next ?_
  refine gc_cond rfl (fun hc0 => ?_) (fun hc0 => ?_)
  ·
    replace hc0 := of_decide_eq_true hc0
    refine gc_seq ?_
    refine gc_region ?_
    refine ne (eo_mv rfl rfl) rfl ?_
    refine ne (eo_eql rfl rfl rfl) rfl ?_
    refine ne (eo_mv rfl rfl) rfl ?_
    refine ng rfl rfl (fun h => eo_mv rfl rfl) rfl ?_
    refine ng rfl rfl (fun h => eo_call rfl en21 (evs_cons (ev_if h rfl) evs_nil) (fun W1 hO => word_c _ W1  )) rfl ?_
    refine ng rfl rfl (fun h => eo_not rfl (ev_if h rfl)) rfl ?_
    refine ne (eo_and rfl rfl (fun hb => ev_if hb rfl)) rfl ?_
    refine ne (eo_mv rfl rfl) rfl ?_
    refine ng rfl rfl (fun h => eo_field rfl f25_2 rfl) rfl ?_
    refine ng rfl rfl (fun h => eo_load 0 rfl s23 (ev_if h rfl) rfl rfl rfl) rfl ?_
    refine ng rfl rfl (fun h => eo_len rfl Try.underlying23 (ev_if h rfl)) rfl ?_
    refine ng rfl rfl (fun h => eo_eql rfl (ev_if h rfl) rfl) rfl ?_
    refine ne (eo_and rfl rfl (fun hb => ev_if hb rfl)) rfl ?_
    refine ne (eo_mv rfl rfl) rfl ?_
    refine ng rfl rfl (fun h => eo_call rfl en7 rfl (fun W1 hO => exam47_c W1  )) rfl ?_
    refine ne (eo_and rfl rfl (fun hb => ev_if hb rfl)) rfl ?_
    refine ne (eo_as rfl rfl) rfl ?_
    refine go_nil ?_
    refine gq_next ?_
    refine gc_ret ?_
    refine gq_then_ret ?_
    refine gq_results (res1 rfl rfl) ?_
    exact fun W1 hO => ⟨ret_bool (show (((decide ((glyR a).2 = 6) && (!(wordB a))) && decide ((((glyR a).1.n : Nat) : Int) = 0)) && true) = true from by rw [glyR_no (glyR_err hc0).1, word_known (glyR_err hc0).1]; rfl), hO.toExt⟩
  ·
    replace hc0 := of_decide_eq_false hc0
    have hka := glyR_zero hc0
    have hka8 := known_u8 hka
    have hga := glyR_ok hka
    have hgn : (glyR a).1.n = 35 := by rw [hga]
    have hgf : ∀ j, (glyR a).1.f j = gpx a j := fun j => by rw [hga]
    refine gc_skip ?_
    refine gq_next ?_
    refine gc_seq ?_
    refine gc_seq ?_
    refine gc_region ?_
    refine ne (eo_field rfl f25_0 rfl) rfl ?_
    refine ne (eo_load 0 rfl s3 rfl rfl rfl rfl) rfl ?_
    refine ne (eo_neq rfl rfl rfl) rfl ?_
    refine ne (eo_mv rfl rfl) rfl ?_
    refine ng rfl rfl (fun h => eo_field rfl f25_1 rfl) rfl ?_
    refine ng rfl rfl (fun h => eo_load 0 rfl s3 (ev_if h rfl) rfl rfl rfl) rfl ?_
    refine ng rfl rfl (fun h => eo_neq rfl (ev_if h rfl) rfl) rfl ?_
    refine ne (eo_or rfl rfl (fun hb => ev_if hb rfl)) rfl ?_
    refine ne (eo_mv rfl rfl) rfl ?_
    refine ng rfl rfl (fun h => eo_field rfl f25_2 rfl) rfl ?_
    refine ng rfl rfl (fun h => eo_load 0 rfl s23 (ev_if h rfl) rfl rfl rfl) rfl ?_
    refine ng rfl rfl (fun h => eo_len rfl Try.underlying23 (ev_if h rfl)) rfl ?_
    refine ng rfl rfl (fun h => eo_neq rfl (ev_if h rfl) rfl) rfl ?_
    refine ne (eo_or rfl rfl (fun hb => ev_if hb rfl)) rfl ?_
    refine go_nil ?_
    refine gq_next ?_
    refine gc_cond rfl (fun hc1 => ?_) (fun hc1 => ?_)
    ·
      have hd1 := (or_t hc1).imp (fun h => (or_t h).imp (fun h => of_decide_eq_true h) (fun h => of_decide_eq_true h)) (fun h => of_decide_eq_true h)
      exact Bool.noConfusion (hc1.symm.trans (show ((decide ((glyR a).1.W ≠ 5) || decide ((glyR a).1.H ≠ 7)) || decide ((((glyR a).1.n : Nat) : Int) ≠ 35)) = false from by rw [hga]; rfl))
    ·
      have hd1 := (or_f hc1).imp (fun h => (or_f h).imp (fun h => ne_f h) (fun h => ne_f h)) (fun h => ne_f h)
      refine gc_skip ?_
      refine gq_next ?_
      refine gc_seq ?_
      refine gc_region ?_
      refine ne (eo_as rfl rfl) rfl ?_
      refine go_nil ?_
      refine gq_next ?_
      refine gc_seq ?_
      refine gc_seq ?_
      refine gc_region ?_
      refine ne (eo_mv rfl rfl) rfl ?_
      refine go_nil ?_
      refine gq_next ?_
      refine gc_block ?_
      refine loop2 (fun (y : Nat) (fr : Bool) => y ≤ 7 ∧ fr = colF a y) (fun (y : Nat) (fr : Bool) => 7 - y) (fun (y : Nat) (fr : Bool) => [(0, .int .u8 a), (1, .int .u8 b), (5, .pointer (some ⟨g5, 0, none⟩)), (7, .bool fr), (52, .int .i64 (y : Int))]) (fun (y : Nat) (fr : Bool) => ⟨g5, 25, [.int .i64 ((glyR a).1.W), .int .i64 ((glyR a).1.H), .slice A17 ((glyR a).1.n) k17]⟩ :: S17) 0 false ⟨by omega, rfl⟩ ⟨rfl, rfl, rfl, rfl, rfl, trivial⟩ (List.Sublist.refl _) ?_
      rintro y fr ⟨hy, hfr⟩
      refine gc_seq ?_
      refine gc_region ?_
      refine ne (eo_lss rfl rfl rfl) rfl ?_
      refine go_nil ?_
      refine gq_next ?_
      refine gc_seq ?_
      refine gc_cond rfl (fun hc2 => ?_) (fun hc2 => ?_)
      ·
        replace hc2 := of_decide_eq_true hc2
        refine gc_skip ?_
        refine gq_next ?_
        refine gc_seq ?_
        refine gc_block ?_
        refine gc_seq ?_
        refine gc_region ?_
        refine ne (eo_mv rfl rfl) rfl ?_
        refine ne (eo_as rfl rfl) rfl ?_
        refine go_nil ?_
        refine gq_next ?_
        refine gc_seq ?_
        refine gc_region ?_
        refine ne (eo_field rfl f25_2 rfl) rfl ?_
        refine ne (eo_load 0 rfl s23 rfl rfl rfl rfl) rfl ?_
        refine ne (eo_mv rfl rfl) rfl ?_
        refine ne (eo_mul rfl rfl rfl (by omega) (by omega)) rfl ?_
        refine ne (eo_mv rfl rfl) rfl ?_
        refine ne (eo_mul rfl rfl rfl (by omega) (by omega)) rfl ?_
        refine ne (eo_add rfl rfl rfl (by omega) (by omega)) rfl ?_
        refine ne (eo_slS rfl sl23 rfl rfl rfl (fun W1 hO => (hS17.rd (hO.tl 1 rfl (List.Sublist.refl _)))) (by omega) (by omega) (by omega) (by omega) (by simp; omega)) rfl ?_
        refine ne (eo_as rfl rfl) rfl ?_
        refine go_nil ?_
        refine gq_next ?_
        refine gc_seq ?_
        refine gc_region ?_
        refine ne (eo_mv rfl rfl) rfl ?_
        refine ne (eo_mv rfl rfl) rfl ?_
        refine ng rfl rfl (fun h => eo_mv rfl rfl) rfl ?_
        refine ng rfl rfl (fun h => eo_indexC rfl sl23 (ev_if h rfl) rfl (by omega) (by omega)) rfl ?_
        refine ng rfl rfl (fun h => eo_loadS rfl s4 (ev_if h rfl) (fun W1 hO => Rd.tabb (hS17.rd (hO.tl 1 rfl (List.Sublist.refl _))) (by omega))) rfl ?_
        refine ne (eo_or rfl rfl (fun hb => ev_if hb rfl)) rfl ?_
        refine ne (eo_as rfl rfl) rfl ?_
        refine go_nil ?_
        refine gq_next ?_
        refine gc_seq ?_
        refine gc_region ?_
        refine ne (eo_mv rfl rfl) rfl ?_
        refine ne (eo_call rfl en21 rfl (fun W1 hO => word_c _ W1  )) rfl ?_
        refine ne (eo_mv rfl rfl) rfl ?_
        refine ng rfl rfl (fun h => eo_mv rfl rfl) rfl ?_
        refine ng rfl rfl (fun h => eo_indexC rfl sl23 (ev_if h rfl) rfl (by omega) (by omega)) rfl ?_
        refine ng rfl rfl (fun h => eo_loadS rfl s4 (ev_if h rfl) (fun W1 hO => Rd.tabb (hS17.rd (hO.tl 1 rfl (List.Sublist.refl _))) (by omega))) rfl ?_
        refine ng rfl rfl (fun h => eo_not rfl (ev_if h rfl)) rfl ?_
        refine ne (eo_and rfl rfl (fun hb => ev_if hb rfl)) rfl ?_
        refine ne (eo_mv rfl rfl) rfl ?_
        refine ng rfl rfl (fun h => eo_mv rfl rfl) rfl ?_
        refine ng rfl rfl (fun h => eo_indexC rfl sl23 (ev_if h rfl) rfl (by have hg0 := (and_t h).imp (fun h => h) (fun h => (not_t h)); omega) (by have hg0 := (and_t h).imp (fun h => h) (fun h => (not_t h)); omega)) rfl ?_
        refine ng rfl rfl (fun h => eo_loadS rfl s4 (ev_if h rfl) (fun W1 hO => Rd.tabb (hS17.rd (hO.tl 1 rfl (List.Sublist.refl _))) (by have hg0 := (and_t h).imp (fun h => h) (fun h => (not_t h)); omega))) rfl ?_
        refine ng rfl rfl (fun h => eo_not rfl (ev_if h rfl)) rfl ?_
        refine ne (eo_and rfl rfl (fun hb => ev_if hb rfl)) rfl ?_
        refine ne (eo_mv rfl rfl) rfl ?_
        refine ng rfl rfl (fun h => eo_mv rfl rfl) rfl ?_
        refine ng rfl rfl (fun h => eo_indexC rfl sl23 (ev_if h rfl) rfl (by have hg0 := (and_t h).imp (fun h => (and_t h).imp (fun h => h) (fun h => (not_t h))) (fun h => (not_t h)); omega) (by have hg0 := (and_t h).imp (fun h => (and_t h).imp (fun h => h) (fun h => (not_t h))) (fun h => (not_t h)); omega)) rfl ?_
        refine ng rfl rfl (fun h => eo_loadS rfl s4 (ev_if h rfl) (fun W1 hO => Rd.tabb (hS17.rd (hO.tl 1 rfl (List.Sublist.refl _))) (by have hg0 := (and_t h).imp (fun h => (and_t h).imp (fun h => h) (fun h => (not_t h))) (fun h => (not_t h)); omega))) rfl ?_
        refine ng rfl rfl (fun h => eo_not rfl (ev_if h rfl)) rfl ?_
        refine ne (eo_and rfl rfl (fun hb => ev_if hb rfl)) rfl ?_
        refine ne (eo_mv rfl rfl) rfl ?_
        refine ng rfl rfl (fun h => eo_mv rfl rfl) rfl ?_
        refine ng rfl rfl (fun h => eo_indexC rfl sl23 (ev_if h rfl) rfl (by have hg0 := (and_t h).imp (fun h => (and_t h).imp (fun h => (and_t h).imp (fun h => h) (fun h => (not_t h))) (fun h => (not_t h))) (fun h => (not_t h)); omega) (by have hg0 := (and_t h).imp (fun h => (and_t h).imp (fun h => (and_t h).imp (fun h => h) (fun h => (not_t h))) (fun h => (not_t h))) (fun h => (not_t h)); omega)) rfl ?_
        refine ng rfl rfl (fun h => eo_loadS rfl s4 (ev_if h rfl) (fun W1 hO => Rd.tabb (hS17.rd (hO.tl 1 rfl (List.Sublist.refl _))) (by have hg0 := (and_t h).imp (fun h => (and_t h).imp (fun h => (and_t h).imp (fun h => h) (fun h => (not_t h))) (fun h => (not_t h))) (fun h => (not_t h)); omega))) rfl ?_
        refine ng rfl rfl (fun h => eo_not rfl (ev_if h rfl)) rfl ?_
        refine ne (eo_and rfl rfl (fun hb => ev_if hb rfl)) rfl ?_
        refine ne (eo_mv rfl rfl) rfl ?_
        refine ng rfl rfl (fun h => eo_mv rfl rfl) rfl ?_
        refine ng rfl rfl (fun h => eo_indexC rfl sl23 (ev_if h rfl) rfl (by have hg0 := (and_t h).imp (fun h => (and_t h).imp (fun h => (and_t h).imp (fun h => (and_t h).imp (fun h => h) (fun h => (not_t h))) (fun h => (not_t h))) (fun h => (not_t h))) (fun h => (not_t h)); omega) (by have hg0 := (and_t h).imp (fun h => (and_t h).imp (fun h => (and_t h).imp (fun h => (and_t h).imp (fun h => h) (fun h => (not_t h))) (fun h => (not_t h))) (fun h => (not_t h))) (fun h => (not_t h)); omega)) rfl ?_
        refine ng rfl rfl (fun h => eo_loadS rfl s4 (ev_if h rfl) (fun W1 hO => Rd.tabb (hS17.rd (hO.tl 1 rfl (List.Sublist.refl _))) (by have hg0 := (and_t h).imp (fun h => (and_t h).imp (fun h => (and_t h).imp (fun h => (and_t h).imp (fun h => h) (fun h => (not_t h))) (fun h => (not_t h))) (fun h => (not_t h))) (fun h => (not_t h)); omega))) rfl ?_
        refine ng rfl rfl (fun h => eo_not rfl (ev_if h rfl)) rfl ?_
        refine ne (eo_and rfl rfl (fun hb => ev_if hb rfl)) rfl ?_
        refine go_nil ?_
        refine gq_next ?_
        refine gc_cond rfl (fun hc3 => ?_) (fun hc3 => ?_)
        ·
          have hd3 := (and_t hc3).imp (fun h => (and_t h).imp (fun h => (and_t h).imp (fun h => (and_t h).imp (fun h => (and_t h).imp (fun h => h) (fun h => (not_t h))) (fun h => (not_t h))) (fun h => (not_t h))) (fun h => (not_t h))) (fun h => (not_t h))
          exfalso
          obtain ⟨⟨⟨⟨⟨hw, q0⟩, q1⟩, q2⟩, q3⟩, q4⟩ := hd3
          have z0 : gpx a (5 * y + 0) = false := by
            rw [hgf] at q0
            rw [← q0]
            first | rfl | (congr 1; omega)
          have z1 : gpx a (5 * y + 1) = false := by
            rw [hgf] at q1
            rw [← q1]
            first | rfl | (congr 1; omega)
          have z2 : gpx a (5 * y + 2) = false := by
            rw [hgf] at q2
            rw [← q2]
            first | rfl | (congr 1; omega)
          have z3 : gpx a (5 * y + 3) = false := by
            rw [hgf] at q3
            rw [← q3]
            first | rfl | (congr 1; omega)
          have z4 : gpx a (5 * y + 4) = false := by
            rw [hgf] at q4
            rw [← q4]
            first | rfl | (congr 1; omega)
          rcases shape_row hka hw (show y < 7 by omega) with h | h | h | h | h
          · exact Bool.noConfusion (h.symm.trans z0)
          · exact Bool.noConfusion (h.symm.trans z1)
          · exact Bool.noConfusion (h.symm.trans z2)
          · exact Bool.noConfusion (h.symm.trans z3)
          · exact Bool.noConfusion (h.symm.trans z4)
        ·
          have hd3 := (and_f hc3).imp (fun h => (and_f h).imp (fun h => (and_f h).imp (fun h => (and_f h).imp (fun h => (and_f h).imp (fun h => h) (fun h => (not_f h))) (fun h => (not_f h))) (fun h => (not_f h))) (fun h => (not_f h))) (fun h => (not_f h))
          refine gc_skip ?_
          refine gq_block_end ?_
          refine gq_next ?_
          refine gc_region ?_
          refine ne (eo_add rfl rfl rfl (by omega) (by omega)) rfl ?_
          refine ne (eo_mv rfl rfl) rfl ?_
          refine go_nil ?_
          exact round2 (y + 1) (fr || (((glyR a).1.f) ((((5 * (y : Int))).toNat + 0)))) ⟨by omega, by rw [hfr, hgf]; exact congrArg (fun z => colF a y || gpx a z) (by omega)⟩ (by omega) ⟨rfl, rfl, rfl, rfl, rfl, trivial⟩ (List.Sublist.refl _)
      ·
        replace hc2 := of_decide_eq_false hc2
        refine gc_exit ?_
        refine gq_then_exit ?_
        refine gq_then_exit ?_
        refine gq_block_hit ?_
        refine gq_next ?_
        refine gc_seq ?_
        refine gc_seq ?_
        refine gc_region ?_
        refine ne (eo_mv rfl rfl) rfl ?_
        refine ne (eo_mv rfl rfl) rfl ?_
        refine ne (eo_eql rfl rfl rfl) rfl ?_
        refine ne (eo_beql rfl rfl rfl Try.underlying4) rfl ?_
        refine go_nil ?_
        refine gq_next ?_
        refine gc_cond rfl (fun hc4 => ?_) (fun hc4 => ?_)
        ·
          rw [hfr, show y = 7 by omega, shape_col hka] at hc4
          exact absurd hc4 (by cases decide (a = 32) <;> decide)
        ·
          refine gc_skip ?_
          refine gq_next ?_
          refine gc_seq ?_
          refine gc_region ?_
          refine ne (eo_mv rfl rfl) rfl ?_
          refine ne (eo_mv rfl rfl) rfl ?_
          refine ne (eo_call rfl en15 rfl (fun W1 hO => dist_c _ _ W1  (by omega) (by omega) (by omega) (by omega))) rfl ?_
          refine ne (eo_mv rfl rfl) rfl ?_
          refine ne (eo_extract rfl rfl rfl) rfl ?_
          refine ne (eo_extract rfl rfl rfl) rfl ?_
          refine ne (eo_as rfl rfl) rfl ?_
          refine ne (eo_as rfl rfl) rfl ?_
          refine go_nil ?_
          refine gq_next ?_
          refine gc_seq ?_
          refine gc_region ?_
          refine ne (eo_mv rfl rfl) rfl ?_
          refine ne (eo_mv rfl rfl) rfl ?_
          refine ne (eo_call rfl en15 rfl (fun W1 hO => dist_c _ _ W1  (by omega) (by omega) (by omega) (by omega))) rfl ?_
          refine ne (eo_mv rfl rfl) rfl ?_
          refine ne (eo_extract rfl rfl rfl) rfl ?_
          refine ne (eo_extract rfl rfl rfl) rfl ?_
          refine ne (eo_as rfl rfl) rfl ?_
          refine ne (eo_as rfl rfl) rfl ?_
          refine go_nil ?_
          refine gq_next ?_
          refine gc_seq ?_
          refine gc_seq ?_
          refine gc_region ?_
          refine ne (eo_mv rfl rfl) rfl ?_
          refine ne (eo_neq rfl rfl rfl) rfl ?_
          refine go_nil ?_
          refine gq_next ?_
          refine gc_cond rfl (fun hc5 => ?_) (fun hc5 => ?_)
          ·
            replace hc5 := of_decide_eq_true hc5
            refine gc_seq ?_
            refine gc_region ?_
            refine ne (eo_mv rfl rfl) rfl ?_
            refine ne (eo_eql rfl rfl rfl) rfl ?_
            refine ne (eo_mv rfl rfl) rfl ?_
            refine ng rfl rfl (fun h => eo_mv rfl rfl) rfl ?_
            refine ng rfl rfl (fun h => eo_mv rfl rfl) rfl ?_
            refine ng rfl rfl (fun h => eo_eql rfl (ev_if h rfl) (ev_if h rfl)) rfl ?_
            refine ne (eo_and rfl rfl (fun hb => ev_if hb rfl)) rfl ?_
            refine ne (eo_mv rfl rfl) rfl ?_
            refine ng rfl rfl (fun h => eo_mv rfl rfl) rfl ?_
            refine ng rfl rfl (fun h => eo_call rfl en21 (evs_cons (ev_if h rfl) evs_nil) (fun W1 hO => word_c _ W1  )) rfl ?_
            refine ng rfl rfl (fun h => eo_not rfl (ev_if h rfl)) rfl ?_
            refine ne (eo_and rfl rfl (fun hb => ev_if hb rfl)) rfl ?_
            refine ne (eo_mv rfl rfl) rfl ?_
            refine ng rfl rfl (fun h => eo_call rfl en7 rfl (fun W1 hO => exam47_c W1  )) rfl ?_
            refine ne (eo_and rfl rfl (fun hb => ev_if hb rfl)) rfl ?_
            refine ne (eo_as rfl rfl) rfl ?_
            refine go_nil ?_
            refine gq_next ?_
            refine gc_ret ?_
            refine gq_then_ret ?_
            refine gq_results (res1 rfl rfl) ?_
            exact fun W1 hO => ⟨ret_bool (show (((decide ((distR a b).2 = 6) && decide ((distR b a).2 = (distR a b).2)) && (!(wordB b))) && true) = true from by have hkb := dist_err hka hc5; rw [distR_no (.inr hkb), distR_no (.inl hkb), word_known hkb]; rfl), hO.toExt⟩
          ·
            replace hc5 := of_decide_eq_false hc5
            refine gc_skip ?_
            refine gq_next ?_
            refine gc_seq ?_
            refine gc_region ?_
            refine ne (eo_call rfl en19 rfl (fun W1 hO => close_c W1  )) rfl ?_
            refine ne (eo_as rfl rfl) rfl ?_
            refine go_nil ?_
            refine gq_next ?_
            refine gc_seq ?_
            refine gc_seq ?_
            refine gc_region ?_
            refine ne (eo_mv rfl rfl) rfl ?_
            refine ne (eo_mv rfl rfl) rfl ?_
            refine ne (eo_eql rfl rfl rfl) rfl ?_
            refine go_nil ?_
            refine gq_next ?_
            refine gc_cond rfl (fun hc6 => ?_) (fun hc6 => ?_)
            ·
              replace hc6 := of_decide_eq_true hc6
              refine gc_seq ?_
              refine gc_region ?_
              refine ne (eo_mv rfl rfl) rfl ?_
              refine ne (eo_eql rfl rfl rfl) rfl ?_
              refine ne (eo_mv rfl rfl) rfl ?_
              refine ng rfl rfl (fun h => eo_call rfl en7 rfl (fun W1 hO => exam47_c W1  )) rfl ?_
              refine ne (eo_and rfl rfl (fun hb => ev_if hb rfl)) rfl ?_
              refine ne (eo_as rfl rfl) rfl ?_
              refine go_nil ?_
              refine gq_next ?_
              refine gc_ret ?_
              refine gq_then_ret ?_
              refine gq_results (res1 rfl rfl) ?_
              exact fun W1 hO => ⟨ret_bool (show (decide ((distR a b).1 = 0) && true) = true from by subst hc6; rw [distR_ok hka hka, dist_self]; rfl), hO.toExt⟩
            ·
              replace hc6 := of_decide_eq_false hc6
              refine gc_skip ?_
              refine gq_next ?_
              refine gc_seq ?_
              refine gc_region ?_
              refine ne (eo_mv rfl rfl) rfl ?_
              refine ne (eo_eql rfl rfl rfl) rfl ?_
              refine ne (eo_mv rfl rfl) rfl ?_
              refine ng rfl rfl (fun h => eo_mv rfl rfl) rfl ?_
              refine ng rfl rfl (fun h => eo_mv rfl rfl) rfl ?_
              refine ng rfl rfl (fun h => eo_eql rfl (ev_if h rfl) (ev_if h rfl)) rfl ?_
              refine ne (eo_and rfl rfl (fun hb => ev_if hb rfl)) rfl ?_
              refine ne (eo_mv rfl rfl) rfl ?_
              refine ng rfl rfl (fun h => eo_mv rfl rfl) rfl ?_
              refine ng rfl rfl (fun h => eo_geq rfl (ev_if h rfl) rfl) rfl ?_
              refine ne (eo_and rfl rfl (fun hb => ev_if hb rfl)) rfl ?_
              refine ne (eo_mv rfl rfl) rfl ?_
              refine ng rfl rfl (fun h => eo_mv rfl rfl) rfl ?_
              refine ng rfl rfl (fun h => eo_mv rfl rfl) rfl ?_
              refine ng rfl rfl (fun h => eo_geq rfl (ev_if h rfl) (ev_if h rfl)) rfl ?_
              refine ne (eo_and rfl rfl (fun hb => ev_if hb rfl)) rfl ?_
              refine ne (eo_mv rfl rfl) rfl ?_
              refine ng rfl rfl (fun h => eo_mv rfl rfl) rfl ?_
              refine ng rfl rfl (fun h => eo_geq rfl (ev_if h rfl) rfl) rfl ?_
              refine ng rfl rfl (fun h => eo_mv rfl (ev_if h rfl)) rfl ?_
              refine ngc rfl rfl (fun h => eo_mv rfl rfl) rfl ?_
              refine ngc rfl rfl (fun h => eo_call rfl en21 (evs_cons (ev_if h rfl) evs_nil) (fun W1 hO => word_c _ W1  )) rfl ?_
              refine ngc rfl rfl (fun h => eo_not rfl (ev_if h rfl)) rfl ?_
              refine ng rfl rfl (fun h => eo_or rfl (ev_if h rfl) (fun hb => ev_if ⟨h, hb⟩ rfl)) rfl ?_
              refine ng rfl rfl (fun h => eo_mv rfl (ev_if h rfl)) rfl ?_
              refine ngc rfl rfl (fun h => eo_mv rfl rfl) rfl ?_
              refine ngc rfl rfl (fun h => eo_call rfl en21 (evs_cons (ev_if h rfl) evs_nil) (fun W1 hO => word_c _ W1  )) rfl ?_
              refine ngc rfl rfl (fun h => eo_not rfl (ev_if h rfl)) rfl ?_
              refine ng rfl rfl (fun h => eo_or rfl (ev_if h rfl) (fun hb => ev_if ⟨h, hb⟩ rfl)) rfl ?_
              refine ne (eo_and rfl rfl (fun hb => ev_if hb rfl)) rfl ?_
              refine ne (eo_mv rfl rfl) rfl ?_
              refine ng rfl rfl (fun h => eo_call rfl en7 rfl (fun W1 hO => exam47_c W1  )) rfl ?_
              refine ne (eo_and rfl rfl (fun hb => ev_if hb rfl)) rfl ?_
              refine ne (eo_as rfl rfl) rfl ?_
              refine go_nil ?_
              refine gq_next ?_
              refine gc_ret ?_
              refine gq_results (res1 rfl rfl) ?_
              exact fun W1 hO => ⟨ret_bool (show (((((decide ((distR b a).2 = 0) && decide ((distR a b).1 = (distR b a).1)) && decide (2 ≤ (cloI 62))) && decide ((cloI 62) ≤ (distR a b).1)) && ((decide (4 ≤ (distR a b).1) || (!(wordB a))) || (!(wordB b)))) && true) = true from by have hkb := dist_zero hc5; have h := shape_pair hka hkb hc6; have h2 := clo_two; rw [distR_ok hka hkb, distR_ok hkb hka, dist_sym (a := b) (b := a)]; rcases h.2 with k | k | k <;> simp [k, h.1, h2]), hO.toExt⟩

end Go.Proofs.Ytjndoanhkfdngaa
