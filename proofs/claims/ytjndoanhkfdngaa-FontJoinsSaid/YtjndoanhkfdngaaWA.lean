/-
  The walks of the functions of package font and of the document's answer (part A): what each call returns, at every argument.
-/
import Derived.Test.YtjndoanhkfdngaaProg
import Derived.Test.YtjndoanhkfdngaaFo
namespace Go.Proofs.Ytjndoanhkfdngaa
open Go.RowKit Go.Eng

open Go.Bs
theorem f25_0 : FieldAt Try.prog 25 0 0 := ⟨_, _, 0, Try.underlying25, rfl, by kernel_rfl, rfl⟩
theorem s3 : TyS Try.prog 3 := ⟨⟨_, Try.underlying3, rfl⟩, by kernel_rfl⟩
theorem f25_1 : FieldAt Try.prog 25 1 1 := ⟨_, _, 0, Try.underlying25, rfl, by kernel_rfl, rfl⟩
theorem en30 : Ent Try.prog 30 := ent_of Try.func30 (by kernel_rfl) rfl
theorem f25_2 : FieldAt Try.prog 25 2 2 := ⟨_, _, 0, Try.underlying25, rfl, by kernel_rfl, rfl⟩
theorem s23 : TyS Try.prog 23 := ⟨⟨_, Try.underlying23, rfl⟩, by kernel_rfl⟩
theorem sl23 : TySl Try.prog 23 4 1 := ⟨Try.underlying23, by kernel_rfl⟩
theorem s4 : TyS Try.prog 4 := ⟨⟨_, Try.underlying4, rfl⟩, by kernel_rfl⟩
theorem a25 : TyA Try.prog 25 3 := ⟨⟨_, Try.underlying25, rfl⟩, by kernel_rfl⟩
theorem en29 : Ent Try.prog 29 := ent_of Try.func29 (by kernel_rfl) rfl
theorem z25 : TyZ Try.prog 25 [.int .i64 0, .int .i64 0, .slice none 0 0] := .inl (by kernel_rfl)
theorem e4 : TyE Try.prog 4 (.bool false) 1 := ⟨rfl, by kernel_rfl⟩
theorem b25_012 (x0 : Int) (x1 : Int) (x2A : Option Addr) (x2n x2c : Nat) (W : World) : (Instr.build 25 #[(0, .int .i64 x0), (1, .int .i64 x1), (2, .slice x2A x2n x2c)]).run Try.prog W = .ok (.agg #[.int .i64 x0, .int .i64 x1, .slice x2A x2n x2c]) W := by kernel_rfl

/-- barscan/raster.possible -/
theorem possible_c (a b : Int) (w : World) :
    Calls Try.prog 30 #[.int .i64 a, .int .i64 b] w fun e w' => e = .returned (.bool (fitsB a b)) ∧ Ext w w' := by
  refine calls_enter (N := ⟨25, []⟩) ([]) ([]) Try.func30 rfl rfl rfl (Ow.start _) ?_
  refine gc_seq ?_
  refine gc_region ?_
  refine ne (eo_as rfl rfl) rfl ?_
  refine go_nil ?_
  refine gq_next ?_
  refine gc_seq ?_
  refine gc_region ?_
  refine ne (eo_mv rfl rfl) rfl ?_
  refine ne (eo_geq rfl rfl rfl) rfl ?_
  refine ne (eo_mv rfl rfl) rfl ?_
  refine ng rfl rfl (fun h => eo_mv rfl rfl) rfl ?_
  refine ng rfl rfl (fun h => eo_leq rfl (ev_if h rfl) rfl) rfl ?_
  refine ne (eo_and rfl rfl (fun hb => ev_if hb rfl)) rfl ?_
  refine ne (eo_mv rfl rfl) rfl ?_
  refine ng rfl rfl (fun h => eo_mv rfl rfl) rfl ?_
  refine ng rfl rfl (fun h => eo_geq rfl (ev_if h rfl) rfl) rfl ?_
  refine ne (eo_and rfl rfl (fun hb => ev_if hb rfl)) rfl ?_
  refine ne (eo_mv rfl rfl) rfl ?_
  refine ng rfl rfl (fun h => eo_mv rfl rfl) rfl ?_
  refine ng rfl rfl (fun h => eo_leq rfl (ev_if h rfl) rfl) rfl ?_
  refine ne (eo_and rfl rfl (fun hb => ev_if hb rfl)) rfl ?_
  refine ne (eo_mv rfl rfl) rfl ?_
  refine ng rfl rfl (fun h => eo_mv rfl rfl) rfl ?_
  refine ng rfl rfl (fun h => eo_mv rfl rfl) rfl ?_
  refine ng rfl rfl (fun h => eo_mul rfl (ev_if h rfl) (ev_if h rfl) (mul_lo h) (mul_hi h)) rfl ?_
  refine ng rfl rfl (fun h => eo_leq rfl (ev_if h rfl) rfl) rfl ?_
  refine ne (eo_and rfl rfl (fun hb => ev_if hb rfl)) rfl ?_
  refine ne (eo_as rfl rfl) rfl ?_
  refine go_nil ?_
  refine gq_next ?_
  refine gc_ret ?_
  refine gq_results (res1 rfl rfl) ?_
  exact fun W hO => ⟨ret_bool (by simp [fitsB, Bool.and_assoc]), hO.toExt⟩

/-- barscan/raster.Check -/
theorem check_c (W H : Int) (A : Option Addr) (n c : Nat) (w : World) :
    Calls Try.prog 29 #[.agg #[.int .i64 W, .int .i64 H, .slice A n c]] w fun e w' => e = .returned (.int .i64 (chk W H n)) ∧ Ext w w' := by
  refine calls_enter (N := ⟨20, []⟩) ([]) ([]) Try.func29 rfl rfl rfl (Ow.start _) ?_
  refine gc_seq ?_
  refine gc_region ?_
  refine nx (xo_boxA rfl rfl) rfl ?_
  rintro _ _ ⟨g1, rfl, rfl⟩
  refine ne (eo_as rfl rfl) rfl ?_
  refine go_nil ?_
  refine gq_next ?_
  refine gc_seq ?_
  refine gc_seq ?_
  refine gc_region ?_
  refine ne (eo_field rfl f25_0 rfl) rfl ?_
  refine ne (by first | exact eo_load 0 rfl s3 rfl rfl rfl rfl | exact eo_load 1 rfl s3 rfl rfl rfl rfl | exact eo_load 2 rfl s3 rfl rfl rfl rfl | exact eo_load 3 rfl s3 rfl rfl rfl rfl | exact eo_load 4 rfl s3 rfl rfl rfl rfl | exact eo_load 5 rfl s3 rfl rfl rfl rfl) rfl ?_
  refine ne (eo_field rfl f25_1 rfl) rfl ?_
  refine ne (by first | exact eo_load 0 rfl s3 rfl rfl rfl rfl | exact eo_load 1 rfl s3 rfl rfl rfl rfl | exact eo_load 2 rfl s3 rfl rfl rfl rfl | exact eo_load 3 rfl s3 rfl rfl rfl rfl | exact eo_load 4 rfl s3 rfl rfl rfl rfl | exact eo_load 5 rfl s3 rfl rfl rfl rfl) rfl ?_
  refine ne (eo_call rfl en30 rfl (fun W _ => possible_c _ _ W)) rfl ?_
  refine ne (eo_not rfl rfl) rfl ?_
  refine ne (eo_mv rfl rfl) rfl ?_
  refine ng rfl rfl (fun h => eo_field rfl f25_2 rfl) rfl ?_
  refine ng rfl rfl (fun h => by first | exact eo_load 0 rfl s23 (ev_if h rfl) rfl rfl rfl | exact eo_load 1 rfl s23 (ev_if h rfl) rfl rfl rfl | exact eo_load 2 rfl s23 (ev_if h rfl) rfl rfl rfl | exact eo_load 3 rfl s23 (ev_if h rfl) rfl rfl rfl | exact eo_load 4 rfl s23 (ev_if h rfl) rfl rfl rfl | exact eo_load 5 rfl s23 (ev_if h rfl) rfl rfl rfl) rfl ?_
  refine ng rfl rfl (fun h => eo_len rfl Try.underlying23 (ev_if h rfl)) rfl ?_
  refine ng rfl rfl (fun h => eo_field rfl f25_0 rfl) rfl ?_
  refine ng rfl rfl (fun h => by first | exact eo_load 0 rfl s3 (ev_if h rfl) rfl rfl rfl | exact eo_load 1 rfl s3 (ev_if h rfl) rfl rfl rfl | exact eo_load 2 rfl s3 (ev_if h rfl) rfl rfl rfl | exact eo_load 3 rfl s3 (ev_if h rfl) rfl rfl rfl | exact eo_load 4 rfl s3 (ev_if h rfl) rfl rfl rfl | exact eo_load 5 rfl s3 (ev_if h rfl) rfl rfl rfl) rfl ?_
  refine ng rfl rfl (fun h => eo_field rfl f25_1 rfl) rfl ?_
  refine ng rfl rfl (fun h => by first | exact eo_load 0 rfl s3 (ev_if h rfl) rfl rfl rfl | exact eo_load 1 rfl s3 (ev_if h rfl) rfl rfl rfl | exact eo_load 2 rfl s3 (ev_if h rfl) rfl rfl rfl | exact eo_load 3 rfl s3 (ev_if h rfl) rfl rfl rfl | exact eo_load 4 rfl s3 (ev_if h rfl) rfl rfl rfl | exact eo_load 5 rfl s3 (ev_if h rfl) rfl rfl rfl) rfl ?_
  refine ng rfl rfl (fun h => eo_mul rfl (ev_if h rfl) (ev_if h rfl) (nfits_lo h) (nfits_hi h)) rfl ?_
  refine ng rfl rfl (fun h => eo_neq rfl (ev_if h rfl) (ev_if h rfl)) rfl ?_
  refine ne (eo_or rfl rfl (fun hb => ev_if hb rfl)) rfl ?_
  refine go_nil ?_
  refine gq_next ?_
  refine gc_cond rfl (fun hc19 => ?_) (fun hc19 => ?_)
  ·
    refine gc_seq ?_
    refine gc_region ?_
    refine ne (eo_as rfl rfl) rfl ?_
    refine go_nil ?_
    refine gq_next ?_
    refine gc_ret ?_
    refine gq_then_ret ?_
    refine gq_results (res1 rfl rfl) ?_
    first
      | exact fun W' hO => ⟨ret_int (chk_no (vld_no hc19)).symm, hO.toExt⟩
      | exact fun W' hO => ⟨ret_int (chk_ok (vld_yes hc19)).symm, hO.toExt⟩
  ·
    refine gc_skip ?_
    refine gq_next ?_
    refine gc_seq ?_
    refine gc_region ?_
    refine ne (eo_as rfl rfl) rfl ?_
    refine go_nil ?_
    refine gq_next ?_
    refine gc_ret ?_
    refine gq_results (res1 rfl rfl) ?_
    first
      | exact fun W' hO => ⟨ret_int (chk_no (vld_no hc19)).symm, hO.toExt⟩
      | exact fun W' hO => ⟨ret_int (chk_ok (vld_yes hc19)).symm, hO.toExt⟩

/-- barscan/raster.At -/
theorem at_c (W H x y : Int) (A : Option Addr) (n c : Nat) (f : Nat → Bool) (w : World) (hr : Rd w A (tab n (bv f))) :
    Calls Try.prog 22 #[.agg #[.int .i64 W, .int .i64 H, .slice A n c], .int .i64 x, .int .i64 y] w fun e w' => e = .returned (.bool (atB W H n f x y)) ∧ Ext w w' := by
  refine calls_enter (N := ⟨40, []⟩) ([]) ([]) Try.func22 rfl rfl rfl (Ow.start _) ?_
  refine gc_seq ?_
  refine gc_region ?_
  refine nx (xo_boxA rfl rfl) rfl ?_
  rintro _ _ ⟨g3, rfl, rfl⟩
  refine ne (eo_as rfl rfl) rfl ?_
  refine go_nil ?_
  refine gq_next ?_
  refine gc_seq ?_
  refine gc_seq ?_
  refine gc_region ?_
  refine ne (by first | exact eo_loadA 0 rfl a25 rfl rfl rfl rfl | exact eo_loadA 1 rfl a25 rfl rfl rfl rfl | exact eo_loadA 2 rfl a25 rfl rfl rfl rfl | exact eo_loadA 3 rfl a25 rfl rfl rfl rfl | exact eo_loadA 4 rfl a25 rfl rfl rfl rfl | exact eo_loadA 5 rfl a25 rfl rfl rfl rfl) rfl ?_
  refine ne (eo_call rfl en29 rfl (fun W _ => check_c _ _ _ _ _ W)) rfl ?_
  refine ne (eo_neq rfl rfl rfl) rfl ?_
  refine ne (eo_mv rfl rfl) rfl ?_
  refine ng rfl rfl (fun h => eo_mv rfl rfl) rfl ?_
  refine ng rfl rfl (fun h => eo_lss rfl (ev_if h rfl) rfl) rfl ?_
  refine ne (eo_or rfl rfl (fun hb => ev_if hb rfl)) rfl ?_
  refine ne (eo_mv rfl rfl) rfl ?_
  refine ng rfl rfl (fun h => eo_mv rfl rfl) rfl ?_
  refine ng rfl rfl (fun h => eo_field rfl f25_0 rfl) rfl ?_
  refine ng rfl rfl (fun h => by first | exact eo_load 0 rfl s3 (ev_if h rfl) rfl rfl rfl | exact eo_load 1 rfl s3 (ev_if h rfl) rfl rfl rfl | exact eo_load 2 rfl s3 (ev_if h rfl) rfl rfl rfl | exact eo_load 3 rfl s3 (ev_if h rfl) rfl rfl rfl | exact eo_load 4 rfl s3 (ev_if h rfl) rfl rfl rfl | exact eo_load 5 rfl s3 (ev_if h rfl) rfl rfl rfl) rfl ?_
  refine ng rfl rfl (fun h => eo_geq rfl (ev_if h rfl) (ev_if h rfl)) rfl ?_
  refine ne (eo_or rfl rfl (fun hb => ev_if hb rfl)) rfl ?_
  refine ne (eo_mv rfl rfl) rfl ?_
  refine ng rfl rfl (fun h => eo_mv rfl rfl) rfl ?_
  refine ng rfl rfl (fun h => eo_lss rfl (ev_if h rfl) rfl) rfl ?_
  refine ne (eo_or rfl rfl (fun hb => ev_if hb rfl)) rfl ?_
  refine ne (eo_mv rfl rfl) rfl ?_
  refine ng rfl rfl (fun h => eo_mv rfl rfl) rfl ?_
  refine ng rfl rfl (fun h => eo_field rfl f25_1 rfl) rfl ?_
  refine ng rfl rfl (fun h => by first | exact eo_load 0 rfl s3 (ev_if h rfl) rfl rfl rfl | exact eo_load 1 rfl s3 (ev_if h rfl) rfl rfl rfl | exact eo_load 2 rfl s3 (ev_if h rfl) rfl rfl rfl | exact eo_load 3 rfl s3 (ev_if h rfl) rfl rfl rfl | exact eo_load 4 rfl s3 (ev_if h rfl) rfl rfl rfl | exact eo_load 5 rfl s3 (ev_if h rfl) rfl rfl rfl) rfl ?_
  refine ng rfl rfl (fun h => eo_geq rfl (ev_if h rfl) (ev_if h rfl)) rfl ?_
  refine ne (eo_or rfl rfl (fun hb => ev_if hb rfl)) rfl ?_
  refine go_nil ?_
  refine gq_next ?_
  refine gc_cond rfl (fun hc29 => ?_) (fun hc29 => ?_)
  ·
    refine gc_seq ?_
    refine gc_region ?_
    refine ne (eo_as rfl rfl) rfl ?_
    refine go_nil ?_
    refine gq_next ?_
    refine gc_ret ?_
    refine gq_then_ret ?_
    refine gq_results (res1 rfl rfl) ?_
    first
      | exact fun W' hO => ⟨ret_bool (at_no hc29).symm, hO.toExt⟩
      | exact fun W' hO => ⟨ret_bool (at_yes hc29).symm, hO.toExt⟩
  ·
    refine gc_skip ?_
    refine gq_next ?_
    refine gc_seq ?_
    have hq := at_facts hc29
    obtain ⟨hv, hx0, hx1, hy0, hy1, hb0, hb1, hb2⟩ := hq
    refine gc_region ?_
    refine ne (eo_field rfl f25_2 rfl) rfl ?_
    refine ne (by first | exact eo_load 0 rfl s23 rfl rfl rfl rfl | exact eo_load 1 rfl s23 rfl rfl rfl rfl | exact eo_load 2 rfl s23 rfl rfl rfl rfl | exact eo_load 3 rfl s23 rfl rfl rfl rfl | exact eo_load 4 rfl s23 rfl rfl rfl rfl | exact eo_load 5 rfl s23 rfl rfl rfl rfl) rfl ?_
    refine ne (eo_mv rfl rfl) rfl ?_
    refine ne (eo_field rfl f25_0 rfl) rfl ?_
    refine ne (by first | exact eo_load 0 rfl s3 rfl rfl rfl rfl | exact eo_load 1 rfl s3 rfl rfl rfl rfl | exact eo_load 2 rfl s3 rfl rfl rfl rfl | exact eo_load 3 rfl s3 rfl rfl rfl rfl | exact eo_load 4 rfl s3 rfl rfl rfl rfl | exact eo_load 5 rfl s3 rfl rfl rfl rfl) rfl ?_
    refine ne (eo_mul rfl rfl rfl (by omega) (by omega)) rfl ?_
    refine ne (eo_mv rfl rfl) rfl ?_
    refine ne (eo_add rfl rfl rfl (by omega) (by omega)) rfl ?_
    refine ne (by first | exact eo_indexR rfl sl23 rfl rfl hr (by simp) (by omega) (by omega) | exact eo_index0 rfl sl23 rfl rfl (by omega) (by omega) | exact eo_index rfl sl23 rfl rfl (by omega) (by omega)) rfl ?_
    refine ne (by first | exact eo_load_old rfl s4 rfl (Rd.tabb hr (by omega)) (by simp) | exact eo_getb 0 rfl s4 rfl rfl (by omega) | exact eo_getb 1 rfl s4 rfl rfl (by omega) | exact eo_getb 2 rfl s4 rfl rfl (by omega) | exact eo_getb 3 rfl s4 rfl rfl (by omega) | exact eo_getb 4 rfl s4 rfl rfl (by omega) | exact eo_getb 5 rfl s4 rfl rfl (by omega)) rfl ?_
    refine ne (eo_as rfl rfl) rfl ?_
    refine go_nil ?_
    refine gq_next ?_
    refine gc_ret ?_
    refine gq_results (res1 rfl rfl) ?_
    first
      | exact fun W' hO => ⟨ret_bool (at_no hc29).symm, hO.toExt⟩
      | exact fun W' hO => ⟨ret_bool (at_yes hc29).symm, hO.toExt⟩

/-- barscan/raster.blank -/
theorem blank_c (a b : Int) (w : World) (hf : fitsB a b = true) :
    Calls Try.prog 31 #[.int .i64 a, .int .i64 b] w fun e w' => ∃ v Hn, e = .returned v ∧ RM 4 a b (a * b).toNat (fun _ => false) v Hn ∧ Ow [] w w' Hn := by
  have hb := fits_bd hf
  refine calls_enter (N := ⟨12, []⟩) ([]) ([]) Try.func31 rfl rfl rfl (Ow.start _) ?_
  refine gc_seq ?_
  refine gc_region ?_
  refine nx (xo_alloc rfl z25) rfl ?_
  rintro _ _ ⟨g4, rfl, rfl⟩
  refine go_nil ?_
  refine gq_next ?_
  refine gc_seq ?_
  refine gc_region ?_
  refine ne (eo_mv rfl rfl) rfl ?_
  refine ne (eo_mv rfl rfl) rfl ?_
  refine ne (eo_mv rfl rfl) rfl ?_
  refine ne (eo_mv rfl rfl) rfl ?_
  refine ne (eo_mul rfl rfl rfl (by omega) (by omega)) rfl ?_
  refine nx (xo_makeb rfl Try.underlying23 e4 rfl rfl (by omega) (by omega) (by omega)) rfl ?_
  rintro _ _ ⟨g10, rfl, rfl⟩
  refine ne (eo_build rfl rfl (b25_012 _ _ _ _ _)) rfl ?_
  refine nu (by first | exact xo_storeA 0 rfl a25 rfl rfl (ones_cons (by first | rfl | exact AS.one) (ones_cons (by first | rfl | exact AS.one) (ones_cons (by first | rfl | exact AS.one) ones_nil))) rfl rfl rfl rfl | exact xo_storeA 1 rfl a25 rfl rfl (ones_cons (by first | rfl | exact AS.one) (ones_cons (by first | rfl | exact AS.one) (ones_cons (by first | rfl | exact AS.one) ones_nil))) rfl rfl rfl rfl | exact xo_storeA 2 rfl a25 rfl rfl (ones_cons (by first | rfl | exact AS.one) (ones_cons (by first | rfl | exact AS.one) (ones_cons (by first | rfl | exact AS.one) ones_nil))) rfl rfl rfl rfl | exact xo_storeA 3 rfl a25 rfl rfl (ones_cons (by first | rfl | exact AS.one) (ones_cons (by first | rfl | exact AS.one) (ones_cons (by first | rfl | exact AS.one) ones_nil))) rfl rfl rfl rfl | exact xo_storeA 4 rfl a25 rfl rfl (ones_cons (by first | rfl | exact AS.one) (ones_cons (by first | rfl | exact AS.one) (ones_cons (by first | rfl | exact AS.one) ones_nil))) rfl rfl rfl rfl | exact xo_storeA 5 rfl a25 rfl rfl (ones_cons (by first | rfl | exact AS.one) (ones_cons (by first | rfl | exact AS.one) (ones_cons (by first | rfl | exact AS.one) ones_nil))) rfl rfl rfl rfl) ?_
  rintro _ _ ⟨rfl, rfl⟩
  refine go_nil ?_
  refine gq_next ?_
  refine gc_ret ?_
  refine gq_results (by first | exact resC 0 rfl a25 rfl rfl rfl rfl | exact resC 1 rfl a25 rfl rfl rfl rfl | exact resC 2 rfl a25 rfl rfl rfl rfl | exact resC 3 rfl a25 rfl rfl rfl rfl | exact resC 4 rfl a25 rfl rfl rfl rfl | exact resC 5 rfl a25 rfl rfl rfl rfl) ?_
  first
    | exact fun W' hO => ⟨_, _, rfl, ⟨_, _, _, rfl, rfl, by omega⟩, hO.pick 0 rfl⟩
    | exact fun W' hO => ⟨_, _, rfl, ⟨_, _, _, rfl, rfl, by omega⟩, hO.pick 1 rfl⟩
    | exact fun W' hO => ⟨_, _, rfl, ⟨_, _, _, rfl, rfl, by omega⟩, hO.pick 2 rfl⟩
    | exact fun W' hO => ⟨_, _, rfl, ⟨_, _, _, rfl, rfl, by omega⟩, hO.pick 3 rfl⟩
    | exact fun W' hO => ⟨_, _, rfl, ⟨_, _, _, rfl, rfl, by omega⟩, hO.pick 4 rfl⟩
    | exact fun W' hO => ⟨_, _, rfl, ⟨_, _, _, rfl, rfl, by omega⟩, hO.pick 5 rfl⟩

/-- barscan/barscanref31.Equal -/
theorem requal_c (W H W' H' : Int) (A A' : Option Addr) (n c n' c' : Nat) (f f' : Nat → Bool) (w : World) (hn : n ≤ 140737488355328) (hr : Rd w A (tab n (bv f))) (hr' : Rd w A' (tab n' (bv f'))) :
    Calls Try.prog 26 #[.agg #[.int .i64 W, .int .i64 H, .slice A n c], .agg #[.int .i64 W', .int .i64 H', .slice A' n' c']] w fun e w' => e = .returned (.bool (eqM W H n f W' H' n' f')) ∧ Ext w w' := by
  refine calls_enter (N := ⟨45, []⟩) ([]) ([]) Try.func26 rfl rfl rfl (Ow.start _) ?_
  refine gc_seq ?_
  refine gc_region ?_
  refine nx (xo_boxA rfl rfl) rfl ?_
  rintro _ _ ⟨g2, rfl, rfl⟩
  refine nx (xo_boxA rfl rfl) rfl ?_
  rintro _ _ ⟨g3, rfl, rfl⟩
  refine ne (eo_as rfl rfl) rfl ?_
  refine go_nil ?_
  refine gq_next ?_
  refine gc_seq ?_
  refine gc_seq ?_
  refine gc_region ?_
  refine ne (eo_field rfl f25_0 rfl) rfl ?_
  refine ne (by first | exact eo_load 0 rfl s3 rfl rfl rfl rfl | exact eo_load 1 rfl s3 rfl rfl rfl rfl | exact eo_load 2 rfl s3 rfl rfl rfl rfl | exact eo_load 3 rfl s3 rfl rfl rfl rfl | exact eo_load 4 rfl s3 rfl rfl rfl rfl | exact eo_load 5 rfl s3 rfl rfl rfl rfl) rfl ?_
  refine ne (eo_field rfl f25_0 rfl) rfl ?_
  refine ne (by first | exact eo_load 0 rfl s3 rfl rfl rfl rfl | exact eo_load 1 rfl s3 rfl rfl rfl rfl | exact eo_load 2 rfl s3 rfl rfl rfl rfl | exact eo_load 3 rfl s3 rfl rfl rfl rfl | exact eo_load 4 rfl s3 rfl rfl rfl rfl | exact eo_load 5 rfl s3 rfl rfl rfl rfl) rfl ?_
  refine ne (eo_neq rfl rfl rfl) rfl ?_
  refine ne (eo_mv rfl rfl) rfl ?_
  refine ng rfl rfl (fun h => eo_field rfl f25_1 rfl) rfl ?_
  refine ng rfl rfl (fun h => by first | exact eo_load 0 rfl s3 (ev_if h rfl) rfl rfl rfl | exact eo_load 1 rfl s3 (ev_if h rfl) rfl rfl rfl | exact eo_load 2 rfl s3 (ev_if h rfl) rfl rfl rfl | exact eo_load 3 rfl s3 (ev_if h rfl) rfl rfl rfl | exact eo_load 4 rfl s3 (ev_if h rfl) rfl rfl rfl | exact eo_load 5 rfl s3 (ev_if h rfl) rfl rfl rfl) rfl ?_
  refine ng rfl rfl (fun h => eo_field rfl f25_1 rfl) rfl ?_
  refine ng rfl rfl (fun h => by first | exact eo_load 0 rfl s3 (ev_if h rfl) rfl rfl rfl | exact eo_load 1 rfl s3 (ev_if h rfl) rfl rfl rfl | exact eo_load 2 rfl s3 (ev_if h rfl) rfl rfl rfl | exact eo_load 3 rfl s3 (ev_if h rfl) rfl rfl rfl | exact eo_load 4 rfl s3 (ev_if h rfl) rfl rfl rfl | exact eo_load 5 rfl s3 (ev_if h rfl) rfl rfl rfl) rfl ?_
  refine ng rfl rfl (fun h => eo_neq rfl (ev_if h rfl) (ev_if h rfl)) rfl ?_
  refine ne (eo_or rfl rfl (fun hb => ev_if hb rfl)) rfl ?_
  refine ne (eo_mv rfl rfl) rfl ?_
  refine ng rfl rfl (fun h => eo_field rfl f25_2 rfl) rfl ?_
  refine ng rfl rfl (fun h => by first | exact eo_load 0 rfl s23 (ev_if h rfl) rfl rfl rfl | exact eo_load 1 rfl s23 (ev_if h rfl) rfl rfl rfl | exact eo_load 2 rfl s23 (ev_if h rfl) rfl rfl rfl | exact eo_load 3 rfl s23 (ev_if h rfl) rfl rfl rfl | exact eo_load 4 rfl s23 (ev_if h rfl) rfl rfl rfl | exact eo_load 5 rfl s23 (ev_if h rfl) rfl rfl rfl) rfl ?_
  refine ng rfl rfl (fun h => eo_len rfl Try.underlying23 (ev_if h rfl)) rfl ?_
  refine ng rfl rfl (fun h => eo_field rfl f25_2 rfl) rfl ?_
  refine ng rfl rfl (fun h => by first | exact eo_load 0 rfl s23 (ev_if h rfl) rfl rfl rfl | exact eo_load 1 rfl s23 (ev_if h rfl) rfl rfl rfl | exact eo_load 2 rfl s23 (ev_if h rfl) rfl rfl rfl | exact eo_load 3 rfl s23 (ev_if h rfl) rfl rfl rfl | exact eo_load 4 rfl s23 (ev_if h rfl) rfl rfl rfl | exact eo_load 5 rfl s23 (ev_if h rfl) rfl rfl rfl) rfl ?_
  refine ng rfl rfl (fun h => eo_len rfl Try.underlying23 (ev_if h rfl)) rfl ?_
  refine ng rfl rfl (fun h => eo_neq rfl (ev_if h rfl) (ev_if h rfl)) rfl ?_
  refine ne (eo_or rfl rfl (fun hb => ev_if hb rfl)) rfl ?_
  refine go_nil ?_
  refine gq_next ?_
  refine gc_cond rfl (fun hc26 => ?_) (fun hc26 => ?_)
  ·
    refine gc_seq ?_
    refine gc_region ?_
    refine ne (eo_as rfl rfl) rfl ?_
    refine go_nil ?_
    refine gq_next ?_
    refine gc_ret ?_
    refine gq_then_ret ?_
    refine gq_results (res1 rfl rfl) ?_
    first
      | exact fun W hO => ⟨ret_bool (eqM_test hc26).symm, hO.toExt⟩
      | exact fun W hO => ⟨ret_bool (eqM_differ k (by omega) (by simpa [bne] using hc44)).symm, hO.toExt⟩
      | exact fun W hO => ⟨ret_bool (eqM_yes e1 e2 e3 (fun i hi => hI i (by omega))).symm, hO.toExt⟩
  ·
    obtain ⟨e1, e2, e3⟩ := eqM_same hc26
    refine gc_skip ?_
    refine gq_next ?_
    refine gc_seq ?_
    refine gc_seq ?_
    refine gc_region ?_
    refine ne (eo_as rfl rfl) rfl ?_
    refine go_nil ?_
    refine gq_next ?_
    refine gc_block ?_
    refine loop1 (fun (k : Nat) => k ≤ n ∧ ∀ i, i < k → f i = f' i) (fun (k : Nat) => n - k) (fun (k : Nat) => [(2, .pointer (some ⟨g2, 0, none⟩)), (3, .pointer (some ⟨g3, 0, none⟩)), (5, .int .i64 k)]) (fun (k : Nat) => [⟨g3, 25, [.int .i64 W', .int .i64 H', .slice A' n' c']⟩, ⟨g2, 25, [.int .i64 W, .int .i64 H, .slice A n c]⟩]) 0 ⟨by omega, fun i hi => absurd hi (by omega)⟩ ⟨rfl, rfl, rfl, trivial⟩ (by first | exact List.Sublist.refl _ | exact List.Sublist.cons _ (List.Sublist.refl _) | exact List.Sublist.cons _ (List.Sublist.cons _ (List.Sublist.refl _)) | exact List.Sublist.cons _ (List.Sublist.cons _ (List.Sublist.cons _ (List.Sublist.refl _))) | exact List.Sublist.cons_cons _ (List.Sublist.cons _ (List.Sublist.refl _))) ?_
    rintro k ⟨hk, hI⟩
    refine gc_seq ?_
    refine gc_seq ?_
    refine gc_region ?_
    refine ne (eo_mv rfl rfl) rfl ?_
    refine ne (eo_field rfl f25_2 rfl) rfl ?_
    refine ne (by first | exact eo_load 0 rfl s23 rfl rfl rfl rfl | exact eo_load 1 rfl s23 rfl rfl rfl rfl | exact eo_load 2 rfl s23 rfl rfl rfl rfl | exact eo_load 3 rfl s23 rfl rfl rfl rfl | exact eo_load 4 rfl s23 rfl rfl rfl rfl | exact eo_load 5 rfl s23 rfl rfl rfl rfl) rfl ?_
    refine ne (eo_len rfl Try.underlying23 rfl) rfl ?_
    refine ne (eo_lss rfl rfl rfl) rfl ?_
    refine go_nil ?_
    refine gq_next ?_
    refine gc_cond rfl (fun hc31 => ?_) (fun hc31 => ?_)
    ·
      replace hc31 := of_decide_eq_true hc31
      refine gc_skip ?_
      refine gq_next ?_
      refine gc_seq ?_
      refine gc_block ?_
      refine gc_seq ?_
      refine gc_draw [] [0, 1, 2, 3, 4, 5, 6, 7, 8, 9, 10] [] [] (by kernel_rfl) (by kernel_rfl) ?_
      refine gp_nil ?_
      refine de rfl (eo_field rfl f25_2 rfl) rfl ?_
      refine de rfl (by first | exact eo_load 0 rfl s23 rfl rfl rfl rfl | exact eo_load 1 rfl s23 rfl rfl rfl rfl | exact eo_load 2 rfl s23 rfl rfl rfl rfl | exact eo_load 3 rfl s23 rfl rfl rfl rfl | exact eo_load 4 rfl s23 rfl rfl rfl rfl | exact eo_load 5 rfl s23 rfl rfl rfl rfl) rfl ?_
      refine de rfl (eo_mv rfl rfl) rfl ?_
      refine de rfl (by first | exact eo_indexR rfl sl23 rfl rfl hr (by simp) (by omega) (by omega) | exact eo_index0 rfl sl23 rfl rfl (by omega) (by omega) | exact eo_index rfl sl23 rfl rfl (by omega) (by omega)) rfl ?_
      refine de rfl (by first | exact eo_load_old rfl s4 rfl (Rd.tabb hr (k := k) (by omega)) (by simp) | exact eo_getb 0 rfl s4 rfl rfl (by omega) | exact eo_getb 1 rfl s4 rfl rfl (by omega) | exact eo_getb 2 rfl s4 rfl rfl (by omega) | exact eo_getb 3 rfl s4 rfl rfl (by omega) | exact eo_getb 4 rfl s4 rfl rfl (by omega) | exact eo_getb 5 rfl s4 rfl rfl (by omega)) rfl ?_
      refine de rfl (eo_field rfl f25_2 rfl) rfl ?_
      refine de rfl (by first | exact eo_load 0 rfl s23 rfl rfl rfl rfl | exact eo_load 1 rfl s23 rfl rfl rfl rfl | exact eo_load 2 rfl s23 rfl rfl rfl rfl | exact eo_load 3 rfl s23 rfl rfl rfl rfl | exact eo_load 4 rfl s23 rfl rfl rfl rfl | exact eo_load 5 rfl s23 rfl rfl rfl rfl) rfl ?_
      refine de rfl (eo_mv rfl rfl) rfl ?_
      refine de rfl (by first | exact eo_indexR rfl sl23 rfl rfl hr' (by simp) (by omega) (by omega) | exact eo_index0 rfl sl23 rfl rfl (by omega) (by omega) | exact eo_index rfl sl23 rfl rfl (by omega) (by omega)) rfl ?_
      refine de rfl (by first | exact eo_load_old rfl s4 rfl (Rd.tabb hr' (k := k) (by omega)) (by simp) | exact eo_getb 0 rfl s4 rfl rfl (by omega) | exact eo_getb 1 rfl s4 rfl rfl (by omega) | exact eo_getb 2 rfl s4 rfl rfl (by omega) | exact eo_getb 3 rfl s4 rfl rfl (by omega) | exact eo_getb 4 rfl s4 rfl rfl (by omega) | exact eo_getb 5 rfl s4 rfl rfl (by omega)) rfl ?_
      refine de rfl (eo_bneq rfl rfl rfl Try.underlying4) rfl ?_
      refine ge_nil ?_
      refine ga_nil ?_
      refine gi_nil ?_
      refine gq_nq ?_
      refine gq_next ?_
      refine gc_cond rfl (fun hc44 => ?_) (fun hc44 => ?_)
      ·
        refine gc_seq ?_
        refine gc_region ?_
        refine ne (eo_as rfl rfl) rfl ?_
        refine go_nil ?_
        refine gq_next ?_
        refine gc_ret ?_
        refine gq_block_ret ?_
        refine gq_then_ret ?_
        refine gq_then_ret ?_
        refine gq_block_ret ?_
        refine gq_then_ret ?_
        refine gq_results (res1 rfl rfl) ?_
        first
          | exact fun W hO => ⟨ret_bool (eqM_test hc26).symm, hO.toExt⟩
          | exact fun W hO => ⟨ret_bool (eqM_differ k (by omega) (by simpa [bne] using hc44)).symm, hO.toExt⟩
          | exact fun W hO => ⟨ret_bool (eqM_yes e1 e2 e3 (fun i hi => hI i (by omega))).symm, hO.toExt⟩
      ·
        refine gc_skip ?_
        refine gq_block_end ?_
        refine gq_next ?_
        refine gc_region ?_
        refine ne (eo_mv rfl rfl) rfl ?_
        refine ne (eo_add rfl rfl rfl (by omega) (by omega)) rfl ?_
        refine ne (eo_as rfl rfl) rfl ?_
        refine go_nil ?_
        exact round1 (k + 1) ⟨by omega, upto_succ hI (by simpa [bne] using hc44)⟩ (by omega) ⟨rfl, rfl, rfl, trivial⟩ (by first | exact List.Sublist.refl _ | exact List.Sublist.cons _ (List.Sublist.refl _) | exact List.Sublist.cons _ (List.Sublist.cons _ (List.Sublist.refl _)) | exact List.Sublist.cons _ (List.Sublist.cons _ (List.Sublist.cons _ (List.Sublist.refl _))) | exact List.Sublist.cons_cons _ (List.Sublist.cons _ (List.Sublist.refl _)))
    ·
      replace hc31 := of_decide_eq_false hc31
      refine gc_exit ?_
      refine gq_then_exit ?_
      refine gq_then_exit ?_
      refine gq_block_hit ?_
      refine gq_next ?_
      refine gc_seq ?_
      refine gc_region ?_
      refine ne (eo_as rfl rfl) rfl ?_
      refine go_nil ?_
      refine gq_next ?_
      refine gc_ret ?_
      refine gq_results (res1 rfl rfl) ?_
      first
        | exact fun W hO => ⟨ret_bool (eqM_test hc26).symm, hO.toExt⟩
        | exact fun W hO => ⟨ret_bool (eqM_differ k (by omega) (by simpa [bne] using hc44)).symm, hO.toExt⟩
        | exact fun W hO => ⟨ret_bool (eqM_yes e1 e2 e3 (fun i hi => hI i (by omega))).symm, hO.toExt⟩

end Go.Proofs.Ytjndoanhkfdngaa
