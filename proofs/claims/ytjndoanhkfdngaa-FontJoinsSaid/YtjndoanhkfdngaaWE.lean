/-
  The walks of the functions of package font and of the document's answer (part E): what each call returns, at every argument.
-/
import Derived.Test.YtjndoanhkfdngaaWD
namespace Go.Proofs.Ytjndoanhkfdngaa
open Go.RowKit Go.Eng

open Go.Bs
theorem en8 : Ent Try.prog 8 := ent_of Try.func8 (by kernel_rfl) rfl
theorem en26 : Ent Try.prog 26 := ent_of Try.func26 (by kernel_rfl) rfl

/-- barscan/barscanlaw47.examples -/
theorem exam47_c  (w : World)   :
    Calls Try.prog 7 #[] w (fun e w' => e = .returned (.bool true) ∧ Ext w w') := by
  have hab : (ByteArray.mk #[65, 66]).size = 2 := rfl
  have hsz : (ByteArray.mk #[48, 49, 49, 49, 48, 48, 49, 49, 49, 49, 48]).size = 11 := rfl
  have hn77 : (drwR (ByteArray.mk #[65, 66]) 1).1.n = 77 := by kernel_rfl
  have hall : ((List.range 11).all fun p => ((drwR (ByteArray.mk #[65, 66]) 1).1.f p == decide (rnI (ByteArray.mk #[48, 49, 49, 49, 48, 48, 49, 49, 49, 49, 48]) p = 49)) && (rnW (ByteArray.mk #[48, 49, 49, 49, 48, 48, 49, 49, 49, 49, 48]) p == 1)) = true := by kernel_rfl
  have hp1 : ∀ p, p < 11 → (drwR (ByteArray.mk #[65, 66]) 1).1.f p = decide (rnI (ByteArray.mk #[48, 49, 49, 49, 48, 48, 49, 49, 49, 49, 48]) p = 49) ∧ rnW (ByteArray.mk #[48, 49, 49, 49, 48, 48, 49, 49, 49, 49, 48]) p = 1 := fun p hp => by
    have := List.all_eq_true.1 hall p (List.mem_range.2 hp)
    simpa using this
  refine calls_enter (N := ⟨95, []⟩) [] ([]) Try.func7 rfl rfl rfl (Ow.start _) ?_
  refine gc_seq ?_
  refine gc_region ?_
  refine ne (eo_as rfl rfl) rfl ?_
  refine go_nil ?_
  refine gq_next ?_
  refine gc_seq ?_
  refine gc_region ?_
  refine ne (eo_call rfl en10 rfl (fun W1 hO => width_c _ _ W1  (by omega))) rfl ?_
  refine ne (eo_mv rfl rfl) rfl ?_
  refine ne (eo_extract rfl rfl rfl) rfl ?_
  refine ne (eo_extract rfl rfl rfl) rfl ?_
  refine ne (eo_as rfl rfl) rfl ?_
  refine ne (eo_as rfl rfl) rfl ?_
  refine go_nil ?_
  refine gq_next ?_
  refine gc_seq ?_
  refine gc_region ?_
  refine nx (xo_freshT rfl en8 rfl (fun W1 hO => draw_x _ _ W1  (by omega))) rfl ?_
  rintro _ H18 ⟨S18, ⟨A18, k18, rfl, hk18, hS18⟩, hH18⟩
  obtain rfl : S18 = H18 := hH18.symm
  refine ne (eo_mv rfl rfl) rfl ?_
  refine ne (eo_extract rfl rfl rfl) rfl ?_
  refine ne (eo_extract rfl rfl rfl) rfl ?_
  refine nx (xo_alloc rfl z25) rfl ?_
  rintro _ _ ⟨g3, rfl, rfl⟩
  refine nu (xo_storeA 0 rfl a25 rfl rfl (ones_cons (by first | rfl | exact AS.one) (ones_cons (by first | rfl | exact AS.one) (ones_cons (by first | rfl | exact AS.one) ones_nil))) rfl rfl rfl rfl) ?_
  rintro _ _ ⟨rfl, rfl⟩
  refine ne (eo_as rfl rfl) rfl ?_
  refine go_nil ?_
  refine gq_next ?_
  refine gc_seq ?_
  refine gc_region ?_
  refine ne (eo_call rfl en15 rfl (fun W1 hO => dist_c _ _ W1  (by omega) (by omega) (by omega) (by omega))) rfl ?_
  refine ne (eo_mv rfl rfl) rfl ?_
  refine ne (eo_extract rfl rfl rfl) rfl ?_
  refine ne (eo_extract rfl rfl rfl) rfl ?_
  refine ne (eo_as rfl rfl) rfl ?_
  refine ne (eo_as rfl rfl) rfl ?_
  refine go_nil ?_
  refine gq_next ?_
  refine gc_seq ?_
  refine gc_region ?_
  refine ne (eo_call rfl en15 rfl (fun W1 hO => dist_c _ _ W1  (by omega) (by omega) (by omega) (by omega))) rfl ?_
  refine ne (eo_mv rfl rfl) rfl ?_
  refine ne (eo_extract rfl rfl rfl) rfl ?_
  refine ne (eo_extract rfl rfl rfl) rfl ?_
  refine ne (eo_as rfl rfl) rfl ?_
  refine ne (eo_as rfl rfl) rfl ?_
  refine go_nil ?_
  refine gq_next ?_
  refine gc_seq ?_
  refine gc_region ?_
  refine nx (xo_freshT rfl en13 rfl (fun W1 hO => glyph_x _ W1  (by omega) (by omega))) rfl ?_
  rintro _ _ ⟨S30, ⟨A30, k30, rfl, hk30, hS30⟩, rfl⟩
  refine ne (eo_mv rfl rfl) rfl ?_
  refine ne (eo_extract rfl rfl rfl) rfl ?_
  refine ne (eo_extract rfl rfl rfl) rfl ?_
  refine nx (xo_alloc rfl z25) rfl ?_
  rintro _ _ ⟨g9, rfl, rfl⟩
  refine nu (xo_storeA 0 rfl a25 rfl rfl (ones_cons (by first | rfl | exact AS.one) (ones_cons (by first | rfl | exact AS.one) (ones_cons (by first | rfl | exact AS.one) ones_nil))) rfl rfl rfl rfl) ?_
  rintro _ _ ⟨rfl, rfl⟩
  refine ne (eo_as rfl rfl) rfl ?_
  refine go_nil ?_
  refine gq_next ?_
  refine gc_seq ?_
  refine gc_seq ?_
  refine gc_region ?_
  refine ne (eo_mv rfl rfl) rfl ?_
  refine ne (eo_neq rfl rfl rfl) rfl ?_
  refine ne (eo_mv rfl rfl) rfl ?_
  refine ng rfl rfl (fun h => eo_mv rfl rfl) rfl ?_
  refine ng rfl rfl (fun h => eo_neq rfl (ev_if h rfl) rfl) rfl ?_
  refine ne (eo_or rfl rfl (fun hb => ev_if hb rfl)) rfl ?_
  refine ne (eo_mv rfl rfl) rfl ?_
  refine ng rfl rfl (fun h => eo_mv rfl rfl) rfl ?_
  refine ng rfl rfl (fun h => eo_neq rfl (ev_if h rfl) rfl) rfl ?_
  refine ne (eo_or rfl rfl (fun hb => ev_if hb rfl)) rfl ?_
  refine ne (eo_mv rfl rfl) rfl ?_
  refine ng rfl rfl (fun h => eo_mv rfl rfl) rfl ?_
  refine ng rfl rfl (fun h => eo_neq rfl (ev_if h rfl) rfl) rfl ?_
  refine ne (eo_or rfl rfl (fun hb => ev_if hb rfl)) rfl ?_
  refine ne (eo_mv rfl rfl) rfl ?_
  refine ng rfl rfl (fun h => eo_mv rfl rfl) rfl ?_
  refine ng rfl rfl (fun h => eo_neq rfl (ev_if h rfl) rfl) rfl ?_
  refine ne (eo_or rfl rfl (fun hb => ev_if hb rfl)) rfl ?_
  refine ne (eo_mv rfl rfl) rfl ?_
  refine ng rfl rfl (fun h => eo_mv rfl rfl) rfl ?_
  refine ng rfl rfl (fun h => eo_neq rfl (ev_if h rfl) rfl) rfl ?_
  refine ne (eo_or rfl rfl (fun hb => ev_if hb rfl)) rfl ?_
  refine ne (eo_mv rfl rfl) rfl ?_
  refine ng rfl rfl (fun h => eo_field rfl f25_0 rfl) rfl ?_
  refine ng rfl rfl (fun h => eo_load 1 rfl s3 (ev_if h rfl) rfl rfl rfl) rfl ?_
  refine ng rfl rfl (fun h => eo_neq rfl (ev_if h rfl) rfl) rfl ?_
  refine ne (eo_or rfl rfl (fun hb => ev_if hb rfl)) rfl ?_
  refine ne (eo_mv rfl rfl) rfl ?_
  refine ng rfl rfl (fun h => eo_field rfl f25_1 rfl) rfl ?_
  refine ng rfl rfl (fun h => eo_load 1 rfl s3 (ev_if h rfl) rfl rfl rfl) rfl ?_
  refine ng rfl rfl (fun h => eo_neq rfl (ev_if h rfl) rfl) rfl ?_
  refine ne (eo_or rfl rfl (fun hb => ev_if hb rfl)) rfl ?_
  refine ne (eo_mv rfl rfl) rfl ?_
  refine ng rfl rfl (fun h => eo_field rfl f25_2 rfl) rfl ?_
  refine ng rfl rfl (fun h => eo_load 1 rfl s23 (ev_if h rfl) rfl rfl rfl) rfl ?_
  refine ng rfl rfl (fun h => eo_len rfl Try.underlying23 (ev_if h rfl)) rfl ?_
  refine ng rfl rfl (fun h => eo_neq rfl (ev_if h rfl) rfl) rfl ?_
  refine ne (eo_or rfl rfl (fun hb => ev_if hb rfl)) rfl ?_
  refine ne (eo_mv rfl rfl) rfl ?_
  refine ng rfl rfl (fun h => eo_mv rfl rfl) rfl ?_
  refine ng rfl rfl (fun h => eo_neq rfl (ev_if h rfl) rfl) rfl ?_
  refine ne (eo_or rfl rfl (fun hb => ev_if hb rfl)) rfl ?_
  refine ne (eo_mv rfl rfl) rfl ?_
  refine ng rfl rfl (fun h => eo_mv rfl rfl) rfl ?_
  refine ng rfl rfl (fun h => eo_neq rfl (ev_if h rfl) rfl) rfl ?_
  refine ne (eo_or rfl rfl (fun hb => ev_if hb rfl)) rfl ?_
  refine go_nil ?_
  refine gq_next ?_
  refine gc_cond rfl (fun hc0 => ?_) (fun hc0 => ?_)
  ·
    have hd0 := (or_t hc0).imp (fun h => (or_t h).imp (fun h => (or_t h).imp (fun h => (or_t h).imp (fun h => (or_t h).imp (fun h => (or_t h).imp (fun h => (or_t h).imp (fun h => (or_t h).imp (fun h => (or_t h).imp (fun h => (or_t h).imp (fun h => of_decide_eq_true h) (fun h => of_decide_eq_true h)) (fun h => of_decide_eq_true h)) (fun h => of_decide_eq_true h)) (fun h => of_decide_eq_true h)) (fun h => of_decide_eq_true h)) (fun h => of_decide_eq_true h)) (fun h => of_decide_eq_true h)) (fun h => of_decide_eq_true h)) (fun h => of_decide_eq_true h)) (fun h => of_decide_eq_true h)
    exact Bool.noConfusion (hc0.symm.trans (show _ = false from by kernel_rfl))
  ·
    have hd0 := (or_f hc0).imp (fun h => (or_f h).imp (fun h => (or_f h).imp (fun h => (or_f h).imp (fun h => (or_f h).imp (fun h => (or_f h).imp (fun h => (or_f h).imp (fun h => (or_f h).imp (fun h => (or_f h).imp (fun h => (or_f h).imp (fun h => ne_f h) (fun h => ne_f h)) (fun h => ne_f h)) (fun h => ne_f h)) (fun h => ne_f h)) (fun h => ne_f h)) (fun h => ne_f h)) (fun h => ne_f h)) (fun h => ne_f h)) (fun h => ne_f h)) (fun h => ne_f h)
    refine gc_skip ?_
    refine gq_next ?_
    refine gc_seq ?_
    refine gc_seq ?_
    refine gc_region ?_
    refine go_rangeS rfl Try.underlying9 rfl ?_
    intro it79 Wi79 hit79 hni79 hBi79
    refine go_nil ?_
    refine gq_next ?_
    refine gc_block ?_
    refine loopS1 (fun (p : Nat) => p ≤ 11) (fun (p : Nat) => p) (fun (p : Nat) => [(3, .pointer (some ⟨g3, 0, none⟩)), (79, .pointer (some ⟨it79, 0, none⟩))]) (fun (p : Nat) => ⟨g9, 25, [.int .i64 ((glyR 97).1.W), .int .i64 ((glyR 97).1.H), .slice A30 ((glyR 97).1.n) k30]⟩ :: ⟨g3, 25, [.int .i64 ((drwR (ByteArray.mk #[65, 66]) 1).1.W), .int .i64 ((drwR (ByteArray.mk #[65, 66]) 1).1.H), .slice A18 ((drwR (ByteArray.mk #[65, 66]) 1).1.n) k18]⟩ :: (S18 ++ S30)) 0 hit79 hni79 (by omega) ⟨rfl, rfl, trivial⟩ (List.Sublist.refl _) ?_
    intro p hp
    intro Wr0 hir0 hnr0 hBr0
    refine gc_seq ?_
    refine gc_region ?_
    by_cases hps80 : p < (ByteArray.mk #[48, 49, 49, 49, 48, 48, 49, 49, 49, 49, 48]).size
    ·
      refine go_nextS hir0 hnr0 rfl hps80 rfl ?_
      intro Wn80 hin80 hBn80 hnn80
      refine ne (eo_extract rfl rfl rfl) rfl ?_
      refine go_nil ?_
      refine gq_next ?_
      refine gc_seq ?_
      refine gc_cond rfl (fun hc1 => ?_) (fun hc1 => ?_)
      ·
        refine gc_skip ?_
        refine gq_next ?_
        refine gc_block ?_
        refine gc_seq ?_
        refine gc_region ?_
        refine ne (eo_extract rfl rfl rfl) rfl ?_
        refine ne (eo_extract rfl rfl rfl) rfl ?_
        refine ne (eo_as rfl rfl) rfl ?_
        refine ne (eo_as rfl rfl) rfl ?_
        refine go_nil ?_
        refine gq_next ?_
        refine gc_seq ?_
        refine gc_region ?_
        refine ne (eo_field rfl f25_2 rfl) rfl ?_
        refine ne (eo_load 1 rfl s23 rfl rfl rfl rfl) rfl ?_
        refine ne (eo_mv rfl rfl) rfl ?_
        refine ne (eo_indexS rfl sl23 rfl rfl (fun W1 hO => (hS18.rd (hO.tl 2 rfl (List.sublist_append_left _ _)))) (by simp) (by omega) (by omega)) rfl ?_
        refine ne (eo_loadS rfl s4 rfl (fun W1 hO => Rd.tabb (hS18.rd (hO.tl 2 rfl (List.sublist_append_left _ _))) (by omega))) rfl ?_
        refine ne (eo_mv rfl rfl) rfl ?_
        refine ne (eo_eql rfl rfl rfl) rfl ?_
        refine ne (eo_bneq rfl rfl rfl Try.underlying4) rfl ?_
        refine go_nil ?_
        refine gq_next ?_
        refine gc_cond rfl (fun hc2 => ?_) (fun hc2 => ?_)
        ·
          exact Bool.noConfusion (hc2.symm.trans (by rw [bne_eq_false_iff_eq]; exact (hp1 p (by omega)).1))
        ·
          refine gc_skip ?_
          refine gq_block_end ?_
          exact roundS1 hin80 hnn80 (fun W4 H4 k4 => (hBr0 _ _ (hBn80 _ _ k4))) (p + 1) (by show p + 1 = _; rw [(hp1 p (by omega)).2]) (by omega) (by omega) ⟨rfl, rfl, trivial⟩ (List.Sublist.refl _)
      ·
        first | exact absurd hc1 (by decide) | exact Bool.noConfusion hc1 | (exfalso; omega)
    ·
      refine go_nextE hir0 hnr0 rfl hps80 rfl ?_
      refine ne (eo_extract rfl rfl rfl) rfl ?_
      refine go_nil ?_
      refine gq_next ?_
      refine gc_seq ?_
      refine gc_cond rfl (fun hc1 => ?_) (fun hc1 => ?_)
      ·
        first | exact absurd hc1 (by decide) | exact Bool.noConfusion hc1 | (exfalso; omega)
      ·
        refine gc_exit ?_
        refine gq_then_exit ?_
        refine gq_then_exit ?_
        refine gq_block_hit ?_
        refine gq_next ?_
        refine gc_seq ?_
        refine gc_region ?_
        refine nx (xo_freshT rfl en17 rfl (fun W1 hO => chars_x W1)) rfl ?_
        rintro _ _ ⟨S92, ⟨A92, k92, rfl, hk92, hS92⟩, rfl⟩
        refine ne (eo_len rfl Try.underlying35 rfl) rfl ?_
        refine ne (eo_eql rfl rfl rfl) rfl ?_
        refine ne (eo_as rfl rfl) rfl ?_
        refine go_nil ?_
        refine gq_next ?_
        refine gc_ret ?_
        refine gq_results (res1 rfl rfl) ?_
        exact fun W1 hO9 => have hO := (hBi79 _ _ (hBr0 _ _ (Ow.more1 hO9))); ⟨ret_bool (by decide), hO.toExt⟩

/-- barscan/barscanlaw47.same -/
theorem same47_c (W H : Int) (A : Option Addr) (n c : Nat) (f : Nat → Bool) (W1 H1 : Int) (A1 : Option Addr) (n1 c1 : Nat) (f1 : Nat → Bool) (w : World) (hr : Rd w A (tab n (bv f))) (hr1 : Rd w A1 (tab n1 (bv f1))) (hn : n ≤ 140737488355328) :
    Calls Try.prog 12 #[.agg #[.int .i64 W, .int .i64 H, .slice A n c], .agg #[.int .i64 W1, .int .i64 H1, .slice A1 n1 c1]] w (fun e w' => e = .returned (.bool (eqM W H n f W1 H1 n1 f1)) ∧ Ext w w') := by
  refine calls_enter (N := ⟨8, []⟩) [] ([]) Try.func12 rfl rfl rfl (Ow.start _) ?_
  refine gc_seq ?_
  refine gc_region ?_
  refine nx (xo_boxA rfl rfl) rfl ?_
  rintro _ _ ⟨g2, rfl, rfl⟩
  refine nx (xo_boxA rfl rfl) rfl ?_
  rintro _ _ ⟨g3, rfl, rfl⟩
  refine ne (eo_as rfl rfl) rfl ?_
  refine go_nil ?_
  refine gq_next ?_
  refine gc_seq ?_
  refine gc_region ?_
  refine ne (eo_loadA 1 rfl a25 rfl rfl rfl rfl) rfl ?_
  refine ne (eo_loadA 0 rfl a25 rfl rfl rfl rfl) rfl ?_
  refine ne (eo_call rfl en26 rfl (fun W1 hO => requal_c _ _ _ _ _ _ _ _ _ _ _ _ W1 (by omega) (hr.old0 hO) (hr1.old0 hO))) rfl ?_
  refine ne (eo_as rfl rfl) rfl ?_
  refine go_nil ?_
  refine gq_next ?_
  refine gc_ret ?_
  refine gq_results (res1 rfl rfl) ?_
  exact fun W1 hO => ⟨rfl, hO.toExt⟩

/-- barscan/barscanlaw47.word -/
theorem word_c (c : Int) (w : World)   :
    Calls Try.prog 21 #[.int .u8 c] w (fun e w' => e = .returned (.bool (wordB c)) ∧ Ext w w') := by
  refine calls_enter (N := ⟨17, []⟩) [] ([]) Try.func21 rfl rfl rfl (Ow.start _) ?_
  refine gc_seq ?_
  refine gc_region ?_
  refine ne (eo_as rfl rfl) rfl ?_
  refine go_nil ?_
  refine gq_next ?_
  refine gc_seq ?_
  refine gc_region ?_
  refine ne (eo_mv rfl rfl) rfl ?_
  refine ne (eo_geq rfl rfl rfl) rfl ?_
  refine ne (eo_mv rfl rfl) rfl ?_
  refine ng rfl rfl (fun h => eo_mv rfl rfl) rfl ?_
  refine ng rfl rfl (fun h => eo_leq rfl (ev_if h rfl) rfl) rfl ?_
  refine ne (eo_and rfl rfl (fun hb => ev_if hb rfl)) rfl ?_
  refine ne (eo_mv rfl rfl) rfl ?_
  refine ng rfl rfl (fun h => eo_mv rfl rfl) rfl ?_
  refine ng rfl rfl (fun h => eo_geq rfl (ev_if h rfl) rfl) rfl ?_
  refine ng rfl rfl (fun h => eo_mv rfl (ev_if h rfl)) rfl ?_
  refine ngc rfl rfl (fun h => eo_mv rfl rfl) rfl ?_
  refine ngc rfl rfl (fun h => eo_leq rfl (ev_if h rfl) rfl) rfl ?_
  refine ng rfl rfl (fun h => eo_and rfl (ev_if h rfl) (fun hb => ev_if ⟨h, hb⟩ rfl)) rfl ?_
  refine ne (eo_or rfl rfl (fun hb => ev_if hb rfl)) rfl ?_
  refine ne (eo_as rfl rfl) rfl ?_
  refine go_nil ?_
  refine gq_next ?_
  refine gc_ret ?_
  refine gq_results (res1 rfl rfl) ?_
  exact fun W1 hO => ⟨rfl, hO.toExt⟩

end Go.Proofs.Ytjndoanhkfdngaa
