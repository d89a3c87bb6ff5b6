/-
  The walks of the functions of package printing and of the document's answer (part E): what each call returns, at every argument.
-/
import Derived.Test.YtibooikbbcilcaaWD
namespace Go.Proofs.Ytibooikbbcilcaa
open Go.RowKit Go.Eng

open Go.Bs
theorem en42 : Ent Try.prog 42 := ent_of Try.func42 (by kernel_rfl) rfl
theorem en34 : Ent Try.prog 34 := ent_of Try.func34 (by kernel_rfl) rfl
theorem b38_01 (x0 : Int) (x1 : Int) (W : World) : (Instr.build 38 #[(0, .int .i64 x0), (1, .int .i64 x1)]).run Try.prog W = .ok (.agg #[.int .i64 x0, .int .i64 x1]) W := by kernel_rfl
theorem en15 : Ent Try.prog 15 := ent_of Try.func15 (by kernel_rfl) rfl
theorem en11 : Ent Try.prog 11 := ent_of Try.func11 (by kernel_rfl) rfl

/-- barscan/barscanlaw43.same -/
theorem same43_c (W H : Int) (A : Option Addr) (n c : Nat) (f : Nat → Bool) (W1 H1 : Int) (A1 : Option Addr) (n1 c1 : Nat) (f1 : Nat → Bool) (w : World) (hr : Rd w A (tab n (bv f))) (hr1 : Rd w A1 (tab n1 (bv f1))) (hn : n ≤ 140737488355328) :
    Calls Try.prog 21 #[.agg #[.int .i64 W, .int .i64 H, .slice A n c], .agg #[.int .i64 W1, .int .i64 H1, .slice A1 n1 c1]] w (fun e w' => e = .returned (.bool (eqM W H n f W1 H1 n1 f1)) ∧ Ext w w') := by
  refine calls_enter (N := ⟨8, []⟩) [] ([]) Try.func21 rfl rfl rfl (Ow.start _) ?_
  refine gc_seq ?_
  refine gc_region ?_
  refine nx (xo_boxA rfl rfl) rfl ?_
  rintro _ _ ⟨g2, rfl, rfl⟩
  refine nx (xo_boxA rfl rfl) rfl ?_
  rintro _ _ ⟨g3, rfl, rfl⟩
  refine ne (eo_as rfl rfl) rfl ?_
  refine go_nil ?_
  refine gq_next ?_
  refine gc_seq ?_
  refine gc_region ?_
  refine ne (eo_loadA 1 rfl a33 rfl rfl rfl rfl) rfl ?_
  refine ne (eo_loadA 0 rfl a33 rfl rfl rfl rfl) rfl ?_
  refine ne (eo_call rfl en42 rfl (fun W1 hO => requal_c _ _ _ _ _ _ _ _ _ _ _ _ W1 (by omega) (hr.old0 hO) (hr1.old0 hO))) rfl ?_
  refine ne (eo_as rfl rfl) rfl ?_
  refine go_nil ?_
  refine gq_next ?_
  refine gc_ret ?_
  refine gq_results (res1 rfl rfl) ?_
  exact fun W1 hO => ⟨rfl, hO.toExt⟩

/-- barscan/barscanlaw43.equal -/
theorem equal43_c (W H : Int) (A : Option Addr) (n c : Nat) (f : Nat → Int) (W1 H1 : Int) (A1 : Option Addr) (n1 c1 : Nat) (f1 : Nat → Int) (w : World) (hr : Rd w A (tab n (iv .u8 f))) (hr1 : Rd w A1 (tab n1 (iv .u8 f1))) (hn : n ≤ 140737488355328) :
    Calls Try.prog 13 #[.agg #[.int .i64 W, .int .i64 H, .slice A n c], .agg #[.int .i64 W1, .int .i64 H1, .slice A1 n1 c1]] w (fun e w' => e = .returned (.bool (eqM W H n f W1 H1 n1 f1)) ∧ Ext w w') := by
  refine calls_enter (N := ⟨8, []⟩) [] ([]) Try.func13 rfl rfl rfl (Ow.start _) ?_
  refine gc_seq ?_
  refine gc_region ?_
  refine nx (xo_boxA rfl rfl) rfl ?_
  rintro _ _ ⟨g2, rfl, rfl⟩
  refine nx (xo_boxA rfl rfl) rfl ?_
  rintro _ _ ⟨g3, rfl, rfl⟩
  refine ne (eo_as rfl rfl) rfl ?_
  refine go_nil ?_
  refine gq_next ?_
  refine gc_seq ?_
  refine gc_region ?_
  refine ne (eo_loadA 1 rfl a24 rfl rfl rfl rfl) rfl ?_
  refine ne (eo_loadA 0 rfl a24 rfl rfl rfl rfl) rfl ?_
  refine ne (eo_call rfl en34 rfl (fun W1 hO => requalim_c _ _ _ _ _ _ _ _ _ _ _ _ W1 (by omega) (hr.old0 hO) (hr1.old0 hO))) rfl ?_
  refine ne (eo_as rfl rfl) rfl ?_
  refine go_nil ?_
  refine gq_next ?_
  refine gc_ret ?_
  refine gq_results (res1 rfl rfl) ?_
  exact fun W1 hO => ⟨rfl, hO.toExt⟩

/-- barscan/barscanlaw43.modest -/
theorem modest_c (s q : Int) (w : World)   :
    Calls Try.prog 22 #[.agg #[.int .i64 s, .int .i64 q]] w (fun e w' => e = .returned (.bool ((decide (s ≤ 8) || decide (64 < s)) && (decide (q ≤ 8) || decide (64 < q)))) ∧ Ext w w') := by
  refine calls_enter (N := ⟨21, []⟩) [] ([]) Try.func22 rfl rfl rfl (Ow.start _) ?_
  refine gc_seq ?_
  refine gc_region ?_
  refine nx (xo_boxA rfl rfl) rfl ?_
  rintro _ _ ⟨g1, rfl, rfl⟩
  refine ne (eo_as rfl rfl) rfl ?_
  refine go_nil ?_
  refine gq_next ?_
  refine gc_seq ?_
  refine gc_region ?_
  refine ne (eo_field rfl f38_0 rfl) rfl ?_
  refine ne (eo_load 0 rfl s3 rfl rfl rfl rfl) rfl ?_
  refine ne (eo_leq rfl rfl rfl) rfl ?_
  refine ne (eo_mv rfl rfl) rfl ?_
  refine ng rfl rfl (fun h => eo_field rfl f38_0 rfl) rfl ?_
  refine ng rfl rfl (fun h => eo_load 0 rfl s3 (ev_if h rfl) rfl rfl rfl) rfl ?_
  refine ng rfl rfl (fun h => eo_gtr rfl (ev_if h rfl) rfl) rfl ?_
  refine ne (eo_or rfl rfl (fun hb => ev_if hb rfl)) rfl ?_
  refine ne (eo_mv rfl rfl) rfl ?_
  refine ng rfl rfl (fun h => eo_field rfl f38_1 rfl) rfl ?_
  refine ng rfl rfl (fun h => eo_load 0 rfl s3 (ev_if h rfl) rfl rfl rfl) rfl ?_
  refine ng rfl rfl (fun h => eo_leq rfl (ev_if h rfl) rfl) rfl ?_
  refine ng rfl rfl (fun h => eo_mv rfl (ev_if h rfl)) rfl ?_
  refine ngc rfl rfl (fun h => eo_field rfl f38_1 rfl) rfl ?_
  refine ngc rfl rfl (fun h => eo_load 0 rfl s3 (ev_if h rfl) rfl rfl rfl) rfl ?_
  refine ngc rfl rfl (fun h => eo_gtr rfl (ev_if h rfl) rfl) rfl ?_
  refine ng rfl rfl (fun h => eo_or rfl (ev_if h rfl) (fun hb => ev_if ⟨h, hb⟩ rfl)) rfl ?_
  refine ne (eo_and rfl rfl (fun hb => ev_if hb rfl)) rfl ?_
  refine ne (eo_as rfl rfl) rfl ?_
  refine go_nil ?_
  refine gq_next ?_
  refine gc_ret ?_
  refine gq_results (res1 rfl rfl) ?_
  exact fun W1 hO => ⟨rfl, hO.toExt⟩

/-- barscan/barscanlaw43.ints -/
theorem ints_c (A : Option Addr) (n c : Nat) (f : Nat → Int) (A1 : Option Addr) (n1 c1 : Nat) (f1 : Nat → Int) (w : World) (hr : Rd w A (tab n (iv .i64 f))) (hr1 : Rd w A1 (tab n1 (iv .i64 f1))) (hn : n ≤ 140737488355328) :
    Calls Try.prog 20 #[.slice A n c, .slice A1 n1 c1] w (fun e w' => e = .returned (.bool (eqT n f n1 f1)) ∧ Ext w w') := by
  refine calls_enter (N := ⟨26, []⟩) [] ([]) Try.func20 rfl rfl rfl (Ow.start _) ?_
  refine gc_seq ?_
  refine gc_region ?_
  refine ne (eo_as rfl rfl) rfl ?_
  refine go_nil ?_
  refine gq_next ?_
  refine gc_seq ?_
  refine gc_seq ?_
  refine gc_region ?_
  refine ne (eo_mv rfl rfl) rfl ?_
  refine ne (eo_len rfl Try.underlying41 rfl) rfl ?_
  refine ne (eo_mv rfl rfl) rfl ?_
  refine ne (eo_len rfl Try.underlying41 rfl) rfl ?_
  refine ne (eo_neq rfl rfl rfl) rfl ?_
  refine go_nil ?_
  refine gq_next ?_
  refine gc_cond rfl (fun hc0 => ?_) (fun hc0 => ?_)
  ·
    replace hc0 := of_decide_eq_true hc0
    refine gc_seq ?_
    refine gc_region ?_
    refine ne (eo_as rfl rfl) rfl ?_
    refine go_nil ?_
    refine gq_next ?_
    refine gc_ret ?_
    refine gq_then_ret ?_
    refine gq_results (res1 rfl rfl) ?_
    exact fun W1 hO => ⟨ret_bool (eqT_len (by omega)).symm, hO.toExt⟩
  ·
    replace hc0 := of_decide_eq_false hc0
    refine gc_skip ?_
    refine gq_next ?_
    refine gc_seq ?_
    refine gc_seq ?_
    refine gc_region ?_
    refine ne (eo_mv rfl rfl) rfl ?_
    refine ne (eo_len rfl Try.underlying41 rfl) rfl ?_
    refine ne (eo_mv rfl rfl) rfl ?_
    refine go_nil ?_
    refine gq_next ?_
    refine gc_block ?_
    refine loop1 (fun (k : Nat) => k ≤ n ∧ ∀ i, i < k → f i = f1 i) (fun (k : Nat) => n - k) (fun (k : Nat) => [(0, .slice A n c), (1, .slice A1 n1 c1), (12, .int .i64 ((n : Nat) : Int)), (13, .int .i64 (k : Int))]) (fun (k : Nat) => []) 0 ⟨by omega, fun i hi => absurd hi (by omega)⟩ ⟨rfl, rfl, rfl, rfl, trivial⟩ (List.Sublist.refl _) ?_
    rintro k ⟨hk, hI⟩
    refine gc_seq ?_
    refine gc_region ?_
    refine ne (eo_lss rfl rfl rfl) rfl ?_
    refine go_nil ?_
    refine gq_next ?_
    refine gc_seq ?_
    refine gc_cond rfl (fun hc1 => ?_) (fun hc1 => ?_)
    ·
      replace hc1 := of_decide_eq_true hc1
      refine gc_skip ?_
      refine gq_next ?_
      refine gc_seq ?_
      refine gc_block ?_
      refine gc_seq ?_
      refine gc_region ?_
      refine ne (eo_mv rfl rfl) rfl ?_
      refine ne (eo_as rfl rfl) rfl ?_
      refine go_nil ?_
      refine gq_next ?_
      refine gc_seq ?_
      refine gc_draw [] [0, 1, 2, 3, 4, 5, 6, 7, 8] [] [] (by kernel_rfl) (by kernel_rfl) ?_
      refine gp_nil ?_
      refine de rfl (eo_mv rfl rfl) rfl ?_
      refine de rfl (eo_mv rfl rfl) rfl ?_
      refine de rfl (eo_indexR rfl sl41 rfl rfl hr (by simp) (by omega) (by omega)) rfl ?_
      refine de rfl (eo_load_old rfl s3 rfl (Rd.tabi hr (by omega)) (by simp)) rfl ?_
      refine de rfl (eo_mv rfl rfl) rfl ?_
      refine de rfl (eo_mv rfl rfl) rfl ?_
      refine de rfl (eo_indexR rfl sl41 rfl rfl hr1 (by simp) (by omega) (by omega)) rfl ?_
      refine de rfl (eo_load_old rfl s3 rfl (Rd.tabi hr1 (by omega)) (by simp)) rfl ?_
      refine de rfl (eo_neq rfl rfl rfl) rfl ?_
      refine ge_nil ?_
      refine ga_nil ?_
      refine gi_nil ?_
      refine gq_nq ?_
      refine gq_next ?_
      refine gc_cond rfl (fun hc2 => ?_) (fun hc2 => ?_)
      ·
        replace hc2 := of_decide_eq_true hc2
        refine gc_seq ?_
        refine gc_region ?_
        refine ne (eo_as rfl rfl) rfl ?_
        refine go_nil ?_
        refine gq_next ?_
        refine gc_ret ?_
        refine gq_block_ret ?_
        refine gq_then_ret ?_
        refine gq_then_ret ?_
        refine gq_block_ret ?_
        refine gq_then_ret ?_
        refine gq_results (res1 rfl rfl) ?_
        exact fun W1 hO => ⟨ret_bool (eqT_differ k (by omega) hc2).symm, hO.toExt⟩
      ·
        replace hc2 := of_decide_eq_false hc2
        refine gc_skip ?_
        refine gq_block_end ?_
        refine gq_next ?_
        refine gc_region ?_
        refine ne (eo_add rfl rfl rfl (by omega) (by omega)) rfl ?_
        refine ne (eo_mv rfl rfl) rfl ?_
        refine go_nil ?_
        exact round1 (k + 1) ⟨by omega, upto_succ hI (Decidable.not_not.1 hc2)⟩ (by omega) ⟨rfl, rfl, rfl, rfl, trivial⟩ (List.Sublist.refl _)
    ·
      replace hc1 := of_decide_eq_false hc1
      refine gc_exit ?_
      refine gq_then_exit ?_
      refine gq_then_exit ?_
      refine gq_block_hit ?_
      refine gq_next ?_
      refine gc_seq ?_
      refine gc_region ?_
      refine ne (eo_as rfl rfl) rfl ?_
      refine go_nil ?_
      refine gq_next ?_
      refine gc_ret ?_
      refine gq_results (res1 rfl rfl) ?_
      exact fun W1 hO => ⟨ret_bool (eqT_yes (by omega) (fun i hi => hI i (by omega))).symm, hO.toExt⟩

/-- barscan/barscanlaw43.valid -/
theorem valid43_c (W H : Int) (A : Option Addr) (n c : Nat) (f : Nat → Bool) (most : Int) (w : World) (hr : Rd w A (tab n (bv f)))  :
    Calls Try.prog 14 #[.agg #[.int .i64 W, .int .i64 H, .slice A n c], .int .i64 most] w (fun e w' => e = .returned (.bool (val43 W H n most)) ∧ Ext w w') := by
  refine calls_enter (N := ⟨48, []⟩) [] ([]) Try.func14 rfl rfl rfl (Ow.start _) ?_
  refine gc_seq ?_
  refine gc_region ?_
  refine nx (xo_boxA rfl rfl) rfl ?_
  rintro _ _ ⟨g2, rfl, rfl⟩
  refine ne (eo_as rfl rfl) rfl ?_
  refine go_nil ?_
  refine gq_next ?_
  refine gc_seq ?_
  refine gc_region ?_
  refine ne (eo_mv rfl rfl) rfl ?_
  refine ne (eo_min rfl rfl rfl) rfl ?_
  refine ne (eo_as rfl rfl) rfl ?_
  refine go_nil ?_
  refine gq_next ?_
  refine gc_seq ?_
  refine gc_region ?_
  refine ne (eo_field rfl f33_0 rfl) rfl ?_
  refine ne (eo_load 0 rfl s3 rfl rfl rfl rfl) rfl ?_
  refine ne (eo_geq rfl rfl rfl) rfl ?_
  refine ne (eo_mv rfl rfl) rfl ?_
  refine ng rfl rfl (fun h => eo_field rfl f33_0 rfl) rfl ?_
  refine ng rfl rfl (fun h => eo_load 0 rfl s3 (ev_if h rfl) rfl rfl rfl) rfl ?_
  refine ng rfl rfl (fun h => eo_mv rfl rfl) rfl ?_
  refine ng rfl rfl (fun h => eo_leq rfl (ev_if h rfl) (ev_if h rfl)) rfl ?_
  refine ne (eo_and rfl rfl (fun hb => ev_if hb rfl)) rfl ?_
  refine ne (eo_mv rfl rfl) rfl ?_
  refine ng rfl rfl (fun h => eo_field rfl f33_1 rfl) rfl ?_
  refine ng rfl rfl (fun h => eo_load 0 rfl s3 (ev_if h rfl) rfl rfl rfl) rfl ?_
  refine ng rfl rfl (fun h => eo_geq rfl (ev_if h rfl) rfl) rfl ?_
  refine ne (eo_and rfl rfl (fun hb => ev_if hb rfl)) rfl ?_
  refine ne (eo_mv rfl rfl) rfl ?_
  refine ng rfl rfl (fun h => eo_field rfl f33_1 rfl) rfl ?_
  refine ng rfl rfl (fun h => eo_load 0 rfl s3 (ev_if h rfl) rfl rfl rfl) rfl ?_
  refine ng rfl rfl (fun h => eo_mv rfl rfl) rfl ?_
  refine ng rfl rfl (fun h => eo_leq rfl (ev_if h rfl) (ev_if h rfl)) rfl ?_
  refine ne (eo_and rfl rfl (fun hb => ev_if hb rfl)) rfl ?_
  refine ne (eo_mv rfl rfl) rfl ?_
  refine ng rfl rfl (fun h => eo_field rfl f33_0 rfl) rfl ?_
  refine ng rfl rfl (fun h => eo_load 0 rfl s3 (ev_if h rfl) rfl rfl rfl) rfl ?_
  refine ng rfl rfl (fun h => eo_field rfl f33_1 rfl) rfl ?_
  refine ng rfl rfl (fun h => eo_load 0 rfl s3 (ev_if h rfl) rfl rfl rfl) rfl ?_
  refine ng rfl rfl (fun h => eo_mul rfl (ev_if h rfl) (ev_if h rfl) (by have hg0 := (and_t h).imp (fun h => (and_t h).imp (fun h => (and_t h).imp (fun h => of_decide_eq_true h) (fun h => of_decide_eq_true h)) (fun h => of_decide_eq_true h)) (fun h => of_decide_eq_true h); first | omega | (have hm := mul_in (a := W) (b := H) (by omega) (by omega) (by omega) (by omega); omega)) (by have hg0 := (and_t h).imp (fun h => (and_t h).imp (fun h => (and_t h).imp (fun h => of_decide_eq_true h) (fun h => of_decide_eq_true h)) (fun h => of_decide_eq_true h)) (fun h => of_decide_eq_true h); first | omega | (have hm := mul_in (a := W) (b := H) (by omega) (by omega) (by omega) (by omega); omega))) rfl ?_
  refine ng rfl rfl (fun h => eo_mv rfl rfl) rfl ?_
  refine ng rfl rfl (fun h => eo_leq rfl (ev_if h rfl) (ev_if h rfl)) rfl ?_
  refine ne (eo_and rfl rfl (fun hb => ev_if hb rfl)) rfl ?_
  refine ne (eo_mv rfl rfl) rfl ?_
  refine ng rfl rfl (fun h => eo_field rfl f33_2 rfl) rfl ?_
  refine ng rfl rfl (fun h => eo_load 0 rfl s31 (ev_if h rfl) rfl rfl rfl) rfl ?_
  refine ng rfl rfl (fun h => eo_len rfl Try.underlying31 (ev_if h rfl)) rfl ?_
  refine ng rfl rfl (fun h => eo_field rfl f33_0 rfl) rfl ?_
  refine ng rfl rfl (fun h => eo_load 0 rfl s3 (ev_if h rfl) rfl rfl rfl) rfl ?_
  refine ng rfl rfl (fun h => eo_field rfl f33_1 rfl) rfl ?_
  refine ng rfl rfl (fun h => eo_load 0 rfl s3 (ev_if h rfl) rfl rfl rfl) rfl ?_
  refine ng rfl rfl (fun h => eo_mul rfl (ev_if h rfl) (ev_if h rfl) (by have hg0 := (and_t h).imp (fun h => (and_t h).imp (fun h => (and_t h).imp (fun h => (and_t h).imp (fun h => of_decide_eq_true h) (fun h => of_decide_eq_true h)) (fun h => of_decide_eq_true h)) (fun h => of_decide_eq_true h)) (fun h => of_decide_eq_true h); first | omega | (have hm := mul_in (a := W) (b := H) (by omega) (by omega) (by omega) (by omega); omega)) (by have hg0 := (and_t h).imp (fun h => (and_t h).imp (fun h => (and_t h).imp (fun h => (and_t h).imp (fun h => of_decide_eq_true h) (fun h => of_decide_eq_true h)) (fun h => of_decide_eq_true h)) (fun h => of_decide_eq_true h)) (fun h => of_decide_eq_true h); first | omega | (have hm := mul_in (a := W) (b := H) (by omega) (by omega) (by omega) (by omega); omega))) rfl ?_
  refine ng rfl rfl (fun h => eo_eql rfl (ev_if h rfl) (ev_if h rfl)) rfl ?_
  refine ne (eo_and rfl rfl (fun hb => ev_if hb rfl)) rfl ?_
  refine ne (eo_as rfl rfl) rfl ?_
  refine go_nil ?_
  refine gq_next ?_
  refine gc_ret ?_
  refine gq_results (res1 rfl rfl) ?_
  exact fun W1 hO => ⟨ret_bool (by simp [val43, Bool.and_assoc]), hO.toExt⟩

/-- barscan/barscanlaw43.examples -/
theorem exam43_c  (w : World)   :
    Calls Try.prog 10 #[] w (fun e w' => e = .returned (.bool true) ∧ Ext w w') := by
  refine calls_enter (N := ⟨134, []⟩) [] ([]) Try.func10 rfl rfl rfl (Ow.start _) ?_
  refine gc_seq ?_
  refine gc_region ?_
  refine ne (eo_as rfl rfl) rfl ?_
  refine go_nil ?_
  refine gq_next ?_
  refine gc_seq ?_
  refine gc_region ?_
  refine nx (xo_lit1 rfl Try.underlying31 e4 rfl (by first | rfl | exact AS.one)) rfl ?_
  rintro _ _ ⟨g10, rfl, rfl⟩
  refine ne (eo_build rfl rfl (b33_012 _ _ _ _ _)) rfl ?_
  refine ne (eo_build rfl rfl (b38_01 _ _)) rfl ?_
  refine nx (xo_freshT rfl en15 rfl (fun W1 hO => render_x _ _ _ _ _ _ _ _ W1 (show Rd _ _ (tab 1 (bv (litF false [true]))) from Rd.own_all hO (i := 0) rfl) )) rfl ?_
  rintro _ _ ⟨S13, ⟨A13, k13, rfl, hk13, hS13⟩, rfl⟩
  refine ne (eo_mv rfl rfl) rfl ?_
  refine ne (eo_extract rfl rfl rfl) rfl ?_
  refine ne (eo_extract rfl rfl rfl) rfl ?_
  refine nx (xo_alloc rfl z33) rfl ?_
  rintro _ _ ⟨g1, rfl, rfl⟩
  refine nu (xo_storeA 0 rfl a33 rfl rfl (ones_cons (by first | rfl | exact AS.one) (ones_cons (by first | rfl | exact AS.one) (ones_cons (by first | rfl | exact AS.one) ones_nil))) rfl rfl rfl rfl) ?_
  rintro _ _ ⟨rfl, rfl⟩
  refine ne (eo_as rfl rfl) rfl ?_
  refine go_nil ?_
  refine gq_next ?_
  refine gc_seq ?_
  refine gc_region ?_
  refine nx (xo_lit1 rfl Try.underlying22 e5 rfl (by first | rfl | exact AS.one)) rfl ?_
  rintro _ _ ⟨g17, rfl, rfl⟩
  refine ne (eo_build rfl rfl (b24_012 _ _ _ _ _)) rfl ?_
  refine nx (xo_freshT rfl en11 rfl (fun W1 hO => blur_x _ _ _ _ _ _ _ W1 (show Rd _ _ (tab 1 (iv .u8 (litF 0 [0]))) from Rd.own_all hO (i := 0) rfl) (fun i hi => by obtain rfl : i = 0 := Nat.lt_one_iff.1 hi; decide))) rfl ?_
  rintro _ _ ⟨S19, ⟨A19, k19, rfl, hk19, hS19⟩, rfl⟩
  refine ne (eo_mv rfl rfl) rfl ?_
  refine ne (eo_extract rfl rfl rfl) rfl ?_
  refine ne (eo_extract rfl rfl rfl) rfl ?_
  refine nx (xo_alloc rfl z24) rfl ?_
  rintro _ _ ⟨g3, rfl, rfl⟩
  refine nu (xo_storeA 0 rfl a24 rfl rfl (ones_cons (by first | rfl | exact AS.one) (ones_cons (by first | rfl | exact AS.one) (ones_cons (by first | rfl | exact AS.one) ones_nil))) rfl rfl rfl rfl) ?_
  rintro _ _ ⟨rfl, rfl⟩
  refine ne (eo_as rfl rfl) rfl ?_
  refine go_nil ?_
  refine gq_next ?_
  refine gc_seq ?_
  refine gc_region ?_
  refine nx (xo_freshT rfl en16 rfl (fun W1 hO => places_x _ _ _ _ W1  (by omega) (by omega))) rfl ?_
  rintro _ _ ⟨S23, ⟨A23, k23, rfl, hk23, hS23⟩, rfl⟩
  refine ne (eo_mv rfl rfl) rfl ?_
  refine ne (eo_extract rfl rfl rfl) rfl ?_
  refine ne (eo_extract rfl rfl rfl) rfl ?_
  refine ne (eo_as rfl rfl) rfl ?_
  refine ne (eo_as rfl rfl) rfl ?_
  refine go_nil ?_
  refine gq_next ?_
  refine gc_seq ?_
  refine gc_region ?_
  refine nx (xo_lit1 rfl Try.underlying22 e5 rfl (by first | rfl | exact AS.one)) rfl ?_
  rintro _ _ ⟨g27, rfl, rfl⟩
  refine ne (eo_build rfl rfl (b24_012 _ _ _ _ _)) rfl ?_
  refine nx (xo_freshT rfl en11 rfl (fun W1 hO => blur_x _ _ _ _ _ _ _ W1 (show Rd _ _ (tab 1 (iv .u8 (litF 0 [0]))) from Rd.own_all hO (i := 0) rfl) (fun i hi => by obtain rfl : i = 0 := Nat.lt_one_iff.1 hi; decide))) rfl ?_
  rintro _ _ ⟨S29, ⟨A29, k29, rfl, hk29, hS29⟩, rfl⟩
  refine ne (eo_mv rfl rfl) rfl ?_
  refine ne (eo_extract rfl rfl rfl) rfl ?_
  refine ne (eo_extract rfl rfl rfl) rfl ?_
  refine nx (xo_alloc rfl z24) rfl ?_
  rintro _ _ ⟨g7, rfl, rfl⟩
  refine nu (xo_storeA 0 rfl a24 rfl rfl (ones_cons (by first | rfl | exact AS.one) (ones_cons (by first | rfl | exact AS.one) (ones_cons (by first | rfl | exact AS.one) ones_nil))) rfl rfl rfl rfl) ?_
  rintro _ _ ⟨rfl, rfl⟩
  refine ne (eo_as rfl rfl) rfl ?_
  refine go_nil ?_
  refine gq_next ?_
  refine gc_seq ?_
  refine gc_seq ?_
  refine gc_region ?_
  refine ne (eo_mv rfl rfl) rfl ?_
  refine ne (eo_neq rfl rfl rfl) rfl ?_
  refine ne (eo_mv rfl rfl) rfl ?_
  refine ng rfl rfl (fun h => eo_mv rfl rfl) rfl ?_
  refine ng rfl rfl (fun h => eo_neq rfl (ev_if h rfl) rfl) rfl ?_
  refine ne (eo_or rfl rfl (fun hb => ev_if hb rfl)) rfl ?_
  refine ne (eo_mv rfl rfl) rfl ?_
  refine ng rfl rfl (fun h => eo_mv rfl rfl) rfl ?_
  refine ng rfl rfl (fun h => eo_neq rfl (ev_if h rfl) rfl) rfl ?_
  refine ne (eo_or rfl rfl (fun hb => ev_if hb rfl)) rfl ?_
  refine ne (eo_mv rfl rfl) rfl ?_
  refine ng rfl rfl (fun h => eo_mv rfl rfl) rfl ?_
  refine ng rfl rfl (fun h => eo_neq rfl (ev_if h rfl) rfl) rfl ?_
  refine ne (eo_or rfl rfl (fun hb => ev_if hb rfl)) rfl ?_
  refine ne (eo_mv rfl rfl) rfl ?_
  refine ng rfl rfl (fun h => eo_field rfl f33_0 rfl) rfl ?_
  refine ng rfl rfl (fun h => eo_load 4 rfl s3 (ev_if h rfl) rfl rfl rfl) rfl ?_
  refine ng rfl rfl (fun h => eo_neq rfl (ev_if h rfl) rfl) rfl ?_
  refine ne (eo_or rfl rfl (fun hb => ev_if hb rfl)) rfl ?_
  refine ne (eo_mv rfl rfl) rfl ?_
  refine ng rfl rfl (fun h => eo_field rfl f33_1 rfl) rfl ?_
  refine ng rfl rfl (fun h => eo_load 4 rfl s3 (ev_if h rfl) rfl rfl rfl) rfl ?_
  refine ng rfl rfl (fun h => eo_neq rfl (ev_if h rfl) rfl) rfl ?_
  refine ne (eo_or rfl rfl (fun hb => ev_if hb rfl)) rfl ?_
  refine ne (eo_mv rfl rfl) rfl ?_
  refine ng rfl rfl (fun h => eo_field rfl f33_2 rfl) rfl ?_
  refine ng rfl rfl (fun h => eo_load 4 rfl s31 (ev_if h rfl) rfl rfl rfl) rfl ?_
  refine ng rfl rfl (fun h => eo_len rfl Try.underlying31 (ev_if h rfl)) rfl ?_
  refine ng rfl rfl (fun h => eo_neq rfl (ev_if h rfl) rfl) rfl ?_
  refine ne (eo_or rfl rfl (fun hb => ev_if hb rfl)) rfl ?_
  refine ne (eo_mv rfl rfl) rfl ?_
  refine ng rfl rfl (fun h => eo_field rfl f24_2 rfl) rfl ?_
  refine ng rfl rfl (fun h => eo_load 2 rfl s22 (ev_if h rfl) rfl rfl rfl) rfl ?_
  refine ng rfl rfl (fun h => eo_len rfl Try.underlying22 (ev_if h rfl)) rfl ?_
  refine ng rfl rfl (fun h => eo_neq rfl (ev_if h rfl) rfl) rfl ?_
  refine ne (eo_or rfl rfl (fun hb => ev_if hb rfl)) rfl ?_
  refine ne (eo_mv rfl rfl) rfl ?_
  refine ng rfl rfl (fun h => eo_mv rfl rfl) rfl ?_
  refine ng rfl rfl (fun h => eo_len rfl Try.underlying41 (ev_if h rfl)) rfl ?_
  refine ng rfl rfl (fun h => eo_neq rfl (ev_if h rfl) rfl) rfl ?_
  refine ne (eo_or rfl rfl (fun hb => ev_if hb rfl)) rfl ?_
  refine go_nil ?_
  refine gq_next ?_
  refine gc_cond rfl (fun hc0 => ?_) (fun hc0 => ?_)
  ·
    have hd0 := (or_t hc0).imp (fun h => (or_t h).imp (fun h => (or_t h).imp (fun h => (or_t h).imp (fun h => (or_t h).imp (fun h => (or_t h).imp (fun h => (or_t h).imp (fun h => (or_t h).imp (fun h => of_decide_eq_true h) (fun h => of_decide_eq_true h)) (fun h => of_decide_eq_true h)) (fun h => of_decide_eq_true h)) (fun h => of_decide_eq_true h)) (fun h => of_decide_eq_true h)) (fun h => of_decide_eq_true h)) (fun h => of_decide_eq_true h)) (fun h => of_decide_eq_true h)
    exact Bool.noConfusion (hc0.symm.trans (show _ = false from by kernel_rfl))
  ·
    have hd0 := (or_f hc0).imp (fun h => (or_f h).imp (fun h => (or_f h).imp (fun h => (or_f h).imp (fun h => (or_f h).imp (fun h => (or_f h).imp (fun h => (or_f h).imp (fun h => (or_f h).imp (fun h => ne_f h) (fun h => ne_f h)) (fun h => ne_f h)) (fun h => ne_f h)) (fun h => ne_f h)) (fun h => ne_f h)) (fun h => ne_f h)) (fun h => ne_f h)) (fun h => ne_f h)
    have q0 : (placesR 4 1 4 7).1.2 (0 : Int).toNat = 2 := by kernel_rfl
    have q1 : (placesR 4 1 4 7).1.2 (1 : Int).toNat = 1 := by kernel_rfl
    have q2 : (placesR 4 1 4 7).1.2 (2 : Int).toNat = 3 := by kernel_rfl
    have q3 : (placesR 4 1 4 7).1.2 (3 : Int).toNat = 0 := by kernel_rfl
    refine gc_skip ?_
    refine gq_next ?_
    refine gc_seq ?_
    refine gc_draw [] [0, 1, 2, 3, 4, 5, 6, 7, 8, 9, 10, 11, 12, 13, 14, 15, 16, 17, 18, 19, 20, 21, 22, 23, 24, 25, 26, 27, 28, 29, 30, 31, 32, 33, 34, 35, 36, 37, 38, 39, 40, 41, 42, 43, 44, 45, 46, 47, 48, 49, 50, 51, 52, 53, 54, 55, 56, 57, 58, 59, 60, 61] [] [] (by kernel_rfl) (by kernel_rfl) ?_
    refine gp_nil ?_
    refine de rfl (eo_field rfl f33_2 rfl) rfl ?_
    refine de rfl (eo_load 4 rfl s31 rfl rfl rfl rfl) rfl ?_
    refine de rfl (eo_indexS rfl sl31 rfl rfl (fun W1 hO => (hS13.rd (hO.tl 6 rfl (((List.sublist_append_left _ _).trans (List.sublist_append_left _ _)).trans (List.sublist_append_left _ _))))) (by simp) (by omega) (by omega)) rfl ?_
    refine de rfl (eo_loadS rfl s4 rfl (fun W1 hO => Rd.tabb (hS13.rd (hO.tl 6 rfl (((List.sublist_append_left _ _).trans (List.sublist_append_left _ _)).trans (List.sublist_append_left _ _)))) (by omega))) rfl ?_
    refine de rfl (eo_mv rfl rfl) rfl ?_
    refine dg rfl rfl rfl (fun h => eo_field rfl f33_2 rfl) rfl ?_
    refine dg rfl rfl rfl (fun h => eo_load 4 rfl s31 (ev_if h rfl) rfl rfl rfl) rfl ?_
    refine dg rfl rfl rfl (fun h => eo_indexS rfl sl31 (ev_if h rfl) rfl (fun W1 hO => (hS13.rd (hO.tl 6 rfl (((List.sublist_append_left _ _).trans (List.sublist_append_left _ _)).trans (List.sublist_append_left _ _))))) (by simp) (by omega) (by omega)) rfl ?_
    refine dg rfl rfl rfl (fun h => eo_loadS rfl s4 (ev_if h rfl) (fun W1 hO => Rd.tabb (hS13.rd (hO.tl 6 rfl (((List.sublist_append_left _ _).trans (List.sublist_append_left _ _)).trans (List.sublist_append_left _ _)))) (by omega))) rfl ?_
    refine de rfl (eo_and rfl rfl (fun hb => ev_if hb rfl)) rfl ?_
    refine de rfl (eo_mv rfl rfl) rfl ?_
    refine dg rfl rfl rfl (fun h => eo_field rfl f33_2 rfl) rfl ?_
    refine dg rfl rfl rfl (fun h => eo_load 4 rfl s31 (ev_if h rfl) rfl rfl rfl) rfl ?_
    refine dg rfl rfl rfl (fun h => eo_indexS rfl sl31 (ev_if h rfl) rfl (fun W1 hO => (hS13.rd (hO.tl 6 rfl (((List.sublist_append_left _ _).trans (List.sublist_append_left _ _)).trans (List.sublist_append_left _ _))))) (by simp) (by have hg0 := (and_t h).imp (fun h => h) (fun h => h); omega) (by have hg0 := (and_t h).imp (fun h => h) (fun h => h); omega)) rfl ?_
    refine dg rfl rfl rfl (fun h => eo_loadS rfl s4 (ev_if h rfl) (fun W1 hO => Rd.tabb (hS13.rd (hO.tl 6 rfl (((List.sublist_append_left _ _).trans (List.sublist_append_left _ _)).trans (List.sublist_append_left _ _)))) (by have hg0 := (and_t h).imp (fun h => h) (fun h => h); omega))) rfl ?_
    refine de rfl (eo_and rfl rfl (fun hb => ev_if hb rfl)) rfl ?_
    refine de rfl (eo_mv rfl rfl) rfl ?_
    refine dg rfl rfl rfl (fun h => eo_field rfl f33_2 rfl) rfl ?_
    refine dg rfl rfl rfl (fun h => eo_load 4 rfl s31 (ev_if h rfl) rfl rfl rfl) rfl ?_
    refine dg rfl rfl rfl (fun h => eo_indexS rfl sl31 (ev_if h rfl) rfl (fun W1 hO => (hS13.rd (hO.tl 6 rfl (((List.sublist_append_left _ _).trans (List.sublist_append_left _ _)).trans (List.sublist_append_left _ _))))) (by simp) (by have hg0 := (and_t h).imp (fun h => (and_t h).imp (fun h => h) (fun h => h)) (fun h => h); omega) (by have hg0 := (and_t h).imp (fun h => (and_t h).imp (fun h => h) (fun h => h)) (fun h => h); omega)) rfl ?_
    refine dg rfl rfl rfl (fun h => eo_loadS rfl s4 (ev_if h rfl) (fun W1 hO => Rd.tabb (hS13.rd (hO.tl 6 rfl (((List.sublist_append_left _ _).trans (List.sublist_append_left _ _)).trans (List.sublist_append_left _ _)))) (by have hg0 := (and_t h).imp (fun h => (and_t h).imp (fun h => h) (fun h => h)) (fun h => h); omega))) rfl ?_
    refine de rfl (eo_and rfl rfl (fun hb => ev_if hb rfl)) rfl ?_
    refine de rfl (eo_mv rfl rfl) rfl ?_
    refine dg rfl rfl rfl (fun h => eo_field rfl f33_2 rfl) rfl ?_
    refine dg rfl rfl rfl (fun h => eo_load 4 rfl s31 (ev_if h rfl) rfl rfl rfl) rfl ?_
    refine dg rfl rfl rfl (fun h => eo_indexS rfl sl31 (ev_if h rfl) rfl (fun W1 hO => (hS13.rd (hO.tl 6 rfl (((List.sublist_append_left _ _).trans (List.sublist_append_left _ _)).trans (List.sublist_append_left _ _))))) (by simp) (by have hg0 := (and_t h).imp (fun h => (and_t h).imp (fun h => (and_t h).imp (fun h => h) (fun h => h)) (fun h => h)) (fun h => h); omega) (by have hg0 := (and_t h).imp (fun h => (and_t h).imp (fun h => (and_t h).imp (fun h => h) (fun h => h)) (fun h => h)) (fun h => h); omega)) rfl ?_
    refine dg rfl rfl rfl (fun h => eo_loadS rfl s4 (ev_if h rfl) (fun W1 hO => Rd.tabb (hS13.rd (hO.tl 6 rfl (((List.sublist_append_left _ _).trans (List.sublist_append_left _ _)).trans (List.sublist_append_left _ _)))) (by have hg0 := (and_t h).imp (fun h => (and_t h).imp (fun h => (and_t h).imp (fun h => h) (fun h => h)) (fun h => h)) (fun h => h); omega))) rfl ?_
    refine dg rfl rfl rfl (fun h => eo_not rfl (ev_if h rfl)) rfl ?_
    refine de rfl (eo_and rfl rfl (fun hb => ev_if hb rfl)) rfl ?_
    refine de rfl (eo_mv rfl rfl) rfl ?_
    refine dg rfl rfl rfl (fun h => eo_field rfl f33_2 rfl) rfl ?_
    refine dg rfl rfl rfl (fun h => eo_load 4 rfl s31 (ev_if h rfl) rfl rfl rfl) rfl ?_
    refine dg rfl rfl rfl (fun h => eo_indexS rfl sl31 (ev_if h rfl) rfl (fun W1 hO => (hS13.rd (hO.tl 6 rfl (((List.sublist_append_left _ _).trans (List.sublist_append_left _ _)).trans (List.sublist_append_left _ _))))) (by simp) (by have hg0 := (and_t h).imp (fun h => (and_t h).imp (fun h => (and_t h).imp (fun h => (and_t h).imp (fun h => h) (fun h => h)) (fun h => h)) (fun h => h)) (fun h => (not_t h)); omega) (by have hg0 := (and_t h).imp (fun h => (and_t h).imp (fun h => (and_t h).imp (fun h => (and_t h).imp (fun h => h) (fun h => h)) (fun h => h)) (fun h => h)) (fun h => (not_t h)); omega)) rfl ?_
    refine dg rfl rfl rfl (fun h => eo_loadS rfl s4 (ev_if h rfl) (fun W1 hO => Rd.tabb (hS13.rd (hO.tl 6 rfl (((List.sublist_append_left _ _).trans (List.sublist_append_left _ _)).trans (List.sublist_append_left _ _)))) (by have hg0 := (and_t h).imp (fun h => (and_t h).imp (fun h => (and_t h).imp (fun h => (and_t h).imp (fun h => h) (fun h => h)) (fun h => h)) (fun h => h)) (fun h => (not_t h)); omega))) rfl ?_
    refine dg rfl rfl rfl (fun h => eo_not rfl (ev_if h rfl)) rfl ?_
    refine de rfl (eo_and rfl rfl (fun hb => ev_if hb rfl)) rfl ?_
    refine de rfl (eo_mv rfl rfl) rfl ?_
    refine dg rfl rfl rfl (fun h => eo_field rfl f24_2 rfl) rfl ?_
    refine dg rfl rfl rfl (fun h => eo_load 2 rfl s22 (ev_if h rfl) rfl rfl rfl) rfl ?_
    refine dg rfl rfl rfl (fun h => eo_indexS rfl sl22 (ev_if h rfl) rfl (fun W1 hO => (hS19.rd (hO.tl 6 rfl (((List.sublist_append_right _ _).trans (List.sublist_append_left _ _)).trans (List.sublist_append_left _ _))))) (by simp) (by have hg0 := (and_t h).imp (fun h => (and_t h).imp (fun h => (and_t h).imp (fun h => (and_t h).imp (fun h => (and_t h).imp (fun h => h) (fun h => h)) (fun h => h)) (fun h => h)) (fun h => (not_t h))) (fun h => (not_t h)); omega) (by have hg0 := (and_t h).imp (fun h => (and_t h).imp (fun h => (and_t h).imp (fun h => (and_t h).imp (fun h => (and_t h).imp (fun h => h) (fun h => h)) (fun h => h)) (fun h => h)) (fun h => (not_t h))) (fun h => (not_t h)); omega)) rfl ?_
    refine dg rfl rfl rfl (fun h => eo_loadS rfl s5 (ev_if h rfl) (fun W1 hO => Rd.tabi (hS19.rd (hO.tl 6 rfl (((List.sublist_append_right _ _).trans (List.sublist_append_left _ _)).trans (List.sublist_append_left _ _)))) (by have hg0 := (and_t h).imp (fun h => (and_t h).imp (fun h => (and_t h).imp (fun h => (and_t h).imp (fun h => (and_t h).imp (fun h => h) (fun h => h)) (fun h => h)) (fun h => h)) (fun h => (not_t h))) (fun h => (not_t h)); omega))) rfl ?_
    refine dg rfl rfl rfl (fun h => eo_eql rfl (ev_if h rfl) rfl) rfl ?_
    refine de rfl (eo_and rfl rfl (fun hb => ev_if hb rfl)) rfl ?_
    refine de rfl (eo_mv rfl rfl) rfl ?_
    refine dg rfl rfl rfl (fun h => eo_mv rfl rfl) rfl ?_
    refine dg rfl rfl rfl (fun h => eo_indexS rfl sl41 (ev_if h rfl) rfl (fun W1 hO => (hS23.rd (hO.tl 6 rfl ((List.sublist_append_right _ _).trans (List.sublist_append_left _ _))))) (by simp) (by have hg0 := (and_t h).imp (fun h => (and_t h).imp (fun h => (and_t h).imp (fun h => (and_t h).imp (fun h => (and_t h).imp (fun h => (and_t h).imp (fun h => h) (fun h => h)) (fun h => h)) (fun h => h)) (fun h => (not_t h))) (fun h => (not_t h))) (fun h => of_decide_eq_true h); omega) (by have hg0 := (and_t h).imp (fun h => (and_t h).imp (fun h => (and_t h).imp (fun h => (and_t h).imp (fun h => (and_t h).imp (fun h => (and_t h).imp (fun h => h) (fun h => h)) (fun h => h)) (fun h => h)) (fun h => (not_t h))) (fun h => (not_t h))) (fun h => of_decide_eq_true h); omega)) rfl ?_
    refine dg rfl rfl rfl (fun h => eo_loadS rfl s3 (ev_if h rfl) (fun W1 hO => Rd.tabi (hS23.rd (hO.tl 6 rfl ((List.sublist_append_right _ _).trans (List.sublist_append_left _ _)))) (by have hg0 := (and_t h).imp (fun h => (and_t h).imp (fun h => (and_t h).imp (fun h => (and_t h).imp (fun h => (and_t h).imp (fun h => (and_t h).imp (fun h => h) (fun h => h)) (fun h => h)) (fun h => h)) (fun h => (not_t h))) (fun h => (not_t h))) (fun h => of_decide_eq_true h); omega))) rfl ?_
    refine dg rfl rfl rfl (fun h => eo_mv rfl rfl) rfl ?_
    refine dg rfl rfl rfl (fun h => eo_indexS rfl sl41 (ev_if h rfl) rfl (fun W1 hO => (hS23.rd (hO.tl 6 rfl ((List.sublist_append_right _ _).trans (List.sublist_append_left _ _))))) (by simp) (by have hg0 := (and_t h).imp (fun h => (and_t h).imp (fun h => (and_t h).imp (fun h => (and_t h).imp (fun h => (and_t h).imp (fun h => (and_t h).imp (fun h => h) (fun h => h)) (fun h => h)) (fun h => h)) (fun h => (not_t h))) (fun h => (not_t h))) (fun h => of_decide_eq_true h); omega) (by have hg0 := (and_t h).imp (fun h => (and_t h).imp (fun h => (and_t h).imp (fun h => (and_t h).imp (fun h => (and_t h).imp (fun h => (and_t h).imp (fun h => h) (fun h => h)) (fun h => h)) (fun h => h)) (fun h => (not_t h))) (fun h => (not_t h))) (fun h => of_decide_eq_true h); omega)) rfl ?_
    refine dg rfl rfl rfl (fun h => eo_loadS rfl s3 (ev_if h rfl) (fun W1 hO => Rd.tabi (hS23.rd (hO.tl 6 rfl ((List.sublist_append_right _ _).trans (List.sublist_append_left _ _)))) (by have hg0 := (and_t h).imp (fun h => (and_t h).imp (fun h => (and_t h).imp (fun h => (and_t h).imp (fun h => (and_t h).imp (fun h => (and_t h).imp (fun h => h) (fun h => h)) (fun h => h)) (fun h => h)) (fun h => (not_t h))) (fun h => (not_t h))) (fun h => of_decide_eq_true h); omega))) rfl ?_
    refine dg rfl rfl rfl (fun h => eo_add rfl (ev_if h rfl) (ev_if h rfl) (by have hg0 := (and_t h).imp (fun h => (and_t h).imp (fun h => (and_t h).imp (fun h => (and_t h).imp (fun h => (and_t h).imp (fun h => (and_t h).imp (fun h => h) (fun h => h)) (fun h => h)) (fun h => h)) (fun h => (not_t h))) (fun h => (not_t h))) (fun h => of_decide_eq_true h); omega) (by have hg0 := (and_t h).imp (fun h => (and_t h).imp (fun h => (and_t h).imp (fun h => (and_t h).imp (fun h => (and_t h).imp (fun h => (and_t h).imp (fun h => h) (fun h => h)) (fun h => h)) (fun h => h)) (fun h => (not_t h))) (fun h => (not_t h))) (fun h => of_decide_eq_true h); omega)) rfl ?_
    refine dg rfl rfl rfl (fun h => eo_mv rfl rfl) rfl ?_
    refine dg rfl rfl rfl (fun h => eo_indexS rfl sl41 (ev_if h rfl) rfl (fun W1 hO => (hS23.rd (hO.tl 6 rfl ((List.sublist_append_right _ _).trans (List.sublist_append_left _ _))))) (by simp) (by have hg0 := (and_t h).imp (fun h => (and_t h).imp (fun h => (and_t h).imp (fun h => (and_t h).imp (fun h => (and_t h).imp (fun h => (and_t h).imp (fun h => h) (fun h => h)) (fun h => h)) (fun h => h)) (fun h => (not_t h))) (fun h => (not_t h))) (fun h => of_decide_eq_true h); omega) (by have hg0 := (and_t h).imp (fun h => (and_t h).imp (fun h => (and_t h).imp (fun h => (and_t h).imp (fun h => (and_t h).imp (fun h => (and_t h).imp (fun h => h) (fun h => h)) (fun h => h)) (fun h => h)) (fun h => (not_t h))) (fun h => (not_t h))) (fun h => of_decide_eq_true h); omega)) rfl ?_
    refine dg rfl rfl rfl (fun h => eo_loadS rfl s3 (ev_if h rfl) (fun W1 hO => Rd.tabi (hS23.rd (hO.tl 6 rfl ((List.sublist_append_right _ _).trans (List.sublist_append_left _ _)))) (by have hg0 := (and_t h).imp (fun h => (and_t h).imp (fun h => (and_t h).imp (fun h => (and_t h).imp (fun h => (and_t h).imp (fun h => (and_t h).imp (fun h => h) (fun h => h)) (fun h => h)) (fun h => h)) (fun h => (not_t h))) (fun h => (not_t h))) (fun h => of_decide_eq_true h); omega))) rfl ?_
    refine dg rfl rfl rfl (fun h => eo_add rfl (ev_if h rfl) (ev_if h rfl) (by have hg0 := (and_t h).imp (fun h => (and_t h).imp (fun h => (and_t h).imp (fun h => (and_t h).imp (fun h => (and_t h).imp (fun h => (and_t h).imp (fun h => h) (fun h => h)) (fun h => h)) (fun h => h)) (fun h => (not_t h))) (fun h => (not_t h))) (fun h => of_decide_eq_true h); omega) (by have hg0 := (and_t h).imp (fun h => (and_t h).imp (fun h => (and_t h).imp (fun h => (and_t h).imp (fun h => (and_t h).imp (fun h => (and_t h).imp (fun h => h) (fun h => h)) (fun h => h)) (fun h => h)) (fun h => (not_t h))) (fun h => (not_t h))) (fun h => of_decide_eq_true h); omega)) rfl ?_
    refine dg rfl rfl rfl (fun h => eo_mv rfl rfl) rfl ?_
    refine dg rfl rfl rfl (fun h => eo_indexS rfl sl41 (ev_if h rfl) rfl (fun W1 hO => (hS23.rd (hO.tl 6 rfl ((List.sublist_append_right _ _).trans (List.sublist_append_left _ _))))) (by simp) (by have hg0 := (and_t h).imp (fun h => (and_t h).imp (fun h => (and_t h).imp (fun h => (and_t h).imp (fun h => (and_t h).imp (fun h => (and_t h).imp (fun h => h) (fun h => h)) (fun h => h)) (fun h => h)) (fun h => (not_t h))) (fun h => (not_t h))) (fun h => of_decide_eq_true h); omega) (by have hg0 := (and_t h).imp (fun h => (and_t h).imp (fun h => (and_t h).imp (fun h => (and_t h).imp (fun h => (and_t h).imp (fun h => (and_t h).imp (fun h => h) (fun h => h)) (fun h => h)) (fun h => h)) (fun h => (not_t h))) (fun h => (not_t h))) (fun h => of_decide_eq_true h); omega)) rfl ?_
    refine dg rfl rfl rfl (fun h => eo_loadS rfl s3 (ev_if h rfl) (fun W1 hO => Rd.tabi (hS23.rd (hO.tl 6 rfl ((List.sublist_append_right _ _).trans (List.sublist_append_left _ _)))) (by have hg0 := (and_t h).imp (fun h => (and_t h).imp (fun h => (and_t h).imp (fun h => (and_t h).imp (fun h => (and_t h).imp (fun h => (and_t h).imp (fun h => h) (fun h => h)) (fun h => h)) (fun h => h)) (fun h => (not_t h))) (fun h => (not_t h))) (fun h => of_decide_eq_true h); omega))) rfl ?_
    refine dg rfl rfl rfl (fun h => eo_add rfl (ev_if h rfl) (ev_if h rfl) (by have hg0 := (and_t h).imp (fun h => (and_t h).imp (fun h => (and_t h).imp (fun h => (and_t h).imp (fun h => (and_t h).imp (fun h => (and_t h).imp (fun h => h) (fun h => h)) (fun h => h)) (fun h => h)) (fun h => (not_t h))) (fun h => (not_t h))) (fun h => of_decide_eq_true h); omega) (by have hg0 := (and_t h).imp (fun h => (and_t h).imp (fun h => (and_t h).imp (fun h => (and_t h).imp (fun h => (and_t h).imp (fun h => (and_t h).imp (fun h => h) (fun h => h)) (fun h => h)) (fun h => h)) (fun h => (not_t h))) (fun h => (not_t h))) (fun h => of_decide_eq_true h); omega)) rfl ?_
    refine dg rfl rfl rfl (fun h => eo_eql rfl (ev_if h rfl) rfl) rfl ?_
    refine de rfl (eo_and rfl rfl (fun hb => ev_if hb rfl)) rfl ?_
    refine de rfl (eo_as rfl rfl) rfl ?_
    refine ge_nil ?_
    refine ga_nil ?_
    refine gi_nil ?_
    refine gq_nq ?_
    refine gq_next ?_
    refine gc_ret ?_
    refine gq_results (res1 rfl rfl) ?_
    exact fun W1 hO => ⟨ret_bool (by kernel_rfl), hO.toExt⟩

end Go.Proofs.Ytibooikbbcilcaa
