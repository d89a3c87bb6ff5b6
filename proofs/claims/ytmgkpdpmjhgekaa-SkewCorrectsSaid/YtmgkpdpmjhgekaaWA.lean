/-
  The walks of the functions of package skew and of the document's answer (part A): what each call returns, at every argument.
-/
import Derived.Test.YtmgkpdpmjhgekaaProg
import Derived.Test.YtmgkpdpmjhgekaaSk
namespace Go.Proofs.Ytmgkpdpmjhgekaa
open Go.RowKit Go.Eng

open Go.Bs
theorem f24_0 : FieldAt Try.prog 24 0 0 := ⟨_, _, 0, Try.underlying24, rfl, by kernel_rfl, rfl⟩
theorem s3 : TyS Try.prog 3 := ⟨⟨_, Try.underlying3, rfl⟩, by kernel_rfl⟩
theorem f24_1 : FieldAt Try.prog 24 1 1 := ⟨_, _, 0, Try.underlying24, rfl, by kernel_rfl, rfl⟩
theorem en42 : Ent Try.prog 42 := ent_of Try.func42 (by kernel_rfl) rfl
theorem f24_2 : FieldAt Try.prog 24 2 2 := ⟨_, _, 0, Try.underlying24, rfl, by kernel_rfl, rfl⟩
theorem s22 : TyS Try.prog 22 := ⟨⟨_, Try.underlying22, rfl⟩, by kernel_rfl⟩
theorem en45 : Ent Try.prog 45 := ent_of Try.func45 (by kernel_rfl) rfl
theorem a24 : TyA Try.prog 24 3 := ⟨⟨_, Try.underlying24, rfl⟩, by kernel_rfl⟩
theorem en40 : Ent Try.prog 40 := ent_of Try.func40 (by kernel_rfl) rfl
theorem sl22 : TySl Try.prog 22 4 1 := ⟨Try.underlying22, by kernel_rfl⟩
theorem s4 : TyS Try.prog 4 := ⟨⟨_, Try.underlying4, rfl⟩, by kernel_rfl⟩
theorem z24 : TyZ Try.prog 24 [.int .i64 0, .int .i64 0, .slice none 0 0] := .inl (by kernel_rfl)
theorem e4 : TyE Try.prog 4 (.bool false) 1 := ⟨rfl, by kernel_rfl⟩
theorem b24_012 (x0 : Int) (x1 : Int) (x2A : Option Addr) (x2n x2c : Nat) (W : World) : (Instr.build 24 #[(0, .int .i64 x0), (1, .int .i64 x1), (2, .slice x2A x2n x2c)]).run Try.prog W = .ok (.agg #[.int .i64 x0, .int .i64 x1, .slice x2A x2n x2c]) W := by kernel_rfl
theorem b24_  (W : World) : (Instr.build 24 #[]).run Try.prog W = .ok (.agg #[.int .i64 0, .int .i64 0, .slice none 0 0]) W := by kernel_rfl
theorem f57_2 : FieldAt Try.prog 57 2 2 := ⟨_, _, 0, Try.underlying57, rfl, by kernel_rfl, rfl⟩
theorem f57_3 : FieldAt Try.prog 57 3 3 := ⟨_, _, 0, Try.underlying57, rfl, by kernel_rfl, rfl⟩
theorem b24_01 (x0 : Int) (x1 : Int) (W : World) : (Instr.build 24 #[(0, .int .i64 x0), (1, .int .i64 x1)]).run Try.prog W = .ok (.agg #[.int .i64 x0, .int .i64 x1, .slice none 0 0]) W := by kernel_rfl
theorem f57_0 : FieldAt Try.prog 57 0 0 := ⟨_, _, 0, Try.underlying57, rfl, by kernel_rfl, rfl⟩
theorem en47 : Ent Try.prog 47 := ent_of Try.func47 (by kernel_rfl) rfl
theorem f57_1 : FieldAt Try.prog 57 1 1 := ⟨_, _, 0, Try.underlying57, rfl, by kernel_rfl, rfl⟩
theorem en41 : Ent Try.prog 41 := ent_of Try.func41 (by kernel_rfl) rfl

/-- barscan/raster.possible -/
theorem possible_c (a b : Int) (w : World) :
    Calls Try.prog 42 #[.int .i64 a, .int .i64 b] w fun e w' => e = .returned (.bool (fitsB a b)) ∧ Ext w w' := by
  refine calls_enter (N := ⟨25, []⟩) ([]) ([]) Try.func42 rfl rfl rfl (Ow.start _) ?_
  refine gc_seq ?_
  refine gc_region ?_
  refine ne (eo_as rfl rfl) rfl ?_
  refine go_nil ?_
  refine gq_next ?_
  refine gc_seq ?_
  refine gc_region ?_
  refine ne (eo_mv rfl rfl) rfl ?_
  refine ne (eo_geq rfl rfl rfl) rfl ?_
  refine ne (eo_mv rfl rfl) rfl ?_
  refine ng rfl rfl (fun h => eo_mv rfl rfl) rfl ?_
  refine ng rfl rfl (fun h => eo_leq rfl (ev_if h rfl) rfl) rfl ?_
  refine ne (eo_and rfl rfl (fun hb => ev_if hb rfl)) rfl ?_
  refine ne (eo_mv rfl rfl) rfl ?_
  refine ng rfl rfl (fun h => eo_mv rfl rfl) rfl ?_
  refine ng rfl rfl (fun h => eo_geq rfl (ev_if h rfl) rfl) rfl ?_
  refine ne (eo_and rfl rfl (fun hb => ev_if hb rfl)) rfl ?_
  refine ne (eo_mv rfl rfl) rfl ?_
  refine ng rfl rfl (fun h => eo_mv rfl rfl) rfl ?_
  refine ng rfl rfl (fun h => eo_leq rfl (ev_if h rfl) rfl) rfl ?_
  refine ne (eo_and rfl rfl (fun hb => ev_if hb rfl)) rfl ?_
  refine ne (eo_mv rfl rfl) rfl ?_
  refine ng rfl rfl (fun h => eo_mv rfl rfl) rfl ?_
  refine ng rfl rfl (fun h => eo_mv rfl rfl) rfl ?_
  refine ng rfl rfl (fun h => eo_mul rfl (ev_if h rfl) (ev_if h rfl) (mul_lo h) (mul_hi h)) rfl ?_
  refine ng rfl rfl (fun h => eo_leq rfl (ev_if h rfl) rfl) rfl ?_
  refine ne (eo_and rfl rfl (fun hb => ev_if hb rfl)) rfl ?_
  refine ne (eo_as rfl rfl) rfl ?_
  refine go_nil ?_
  refine gq_next ?_
  refine gc_ret ?_
  refine gq_results (res1 rfl rfl) ?_
  exact fun W hO => ⟨ret_bool (by simp [fitsB, Bool.and_assoc]), hO.toExt⟩

/-- barscan/barscanref31.fits -/
theorem fits_c (a b : Int) (w : World) :
    Calls Try.prog 45 #[.int .i64 a, .int .i64 b] w fun e w' => e = .returned (.bool (fitsB a b)) ∧ Ext w w' := by
  refine calls_enter (N := ⟨25, []⟩) ([]) ([]) Try.func45 rfl rfl rfl (Ow.start _) ?_
  refine gc_seq ?_
  refine gc_region ?_
  refine ne (eo_as rfl rfl) rfl ?_
  refine go_nil ?_
  refine gq_next ?_
  refine gc_seq ?_
  refine gc_region ?_
  refine ne (eo_mv rfl rfl) rfl ?_
  refine ne (eo_geq rfl rfl rfl) rfl ?_
  refine ne (eo_mv rfl rfl) rfl ?_
  refine ng rfl rfl (fun h => eo_mv rfl rfl) rfl ?_
  refine ng rfl rfl (fun h => eo_leq rfl (ev_if h rfl) rfl) rfl ?_
  refine ne (eo_and rfl rfl (fun hb => ev_if hb rfl)) rfl ?_
  refine ne (eo_mv rfl rfl) rfl ?_
  refine ng rfl rfl (fun h => eo_mv rfl rfl) rfl ?_
  refine ng rfl rfl (fun h => eo_geq rfl (ev_if h rfl) rfl) rfl ?_
  refine ne (eo_and rfl rfl (fun hb => ev_if hb rfl)) rfl ?_
  refine ne (eo_mv rfl rfl) rfl ?_
  refine ng rfl rfl (fun h => eo_mv rfl rfl) rfl ?_
  refine ng rfl rfl (fun h => eo_leq rfl (ev_if h rfl) rfl) rfl ?_
  refine ne (eo_and rfl rfl (fun hb => ev_if hb rfl)) rfl ?_
  refine ne (eo_mv rfl rfl) rfl ?_
  refine ng rfl rfl (fun h => eo_mv rfl rfl) rfl ?_
  refine ng rfl rfl (fun h => eo_mv rfl rfl) rfl ?_
  refine ng rfl rfl (fun h => eo_mul rfl (ev_if h rfl) (ev_if h rfl) (mul_lo h) (mul_hi h)) rfl ?_
  refine ng rfl rfl (fun h => eo_leq rfl (ev_if h rfl) rfl) rfl ?_
  refine ne (eo_and rfl rfl (fun hb => ev_if hb rfl)) rfl ?_
  refine ne (eo_as rfl rfl) rfl ?_
  refine go_nil ?_
  refine gq_next ?_
  refine gc_ret ?_
  refine gq_results (res1 rfl rfl) ?_
  exact fun W hO => ⟨ret_bool (by simp [fitsB, Bool.and_assoc]), hO.toExt⟩

/-- barscan/barscanref31.near -/
theorem rnear_c (n : Int) (w : World) :
    Calls Try.prog 47 #[.int .i64 n] w fun e w' => e = .returned (.int .i64 (nearI 10000 n)) ∧ Ext w w' := by
  refine calls_enter (N := ⟨6, []⟩) ([]) ([]) Try.func47 rfl rfl rfl (Ow.start _) ?_
  refine gc_seq ?_
  refine gc_region ?_
  refine ne (eo_as rfl rfl) rfl ?_
  refine go_nil ?_
  refine gq_next ?_
  refine gc_seq ?_
  refine gc_region ?_
  refine ne (eo_mv rfl rfl) rfl ?_
  refine ne (eo_min rfl rfl rfl) rfl ?_
  refine ne (eo_max rfl rfl rfl) rfl ?_
  refine ne (eo_as rfl rfl) rfl ?_
  refine go_nil ?_
  refine gq_next ?_
  refine gc_ret ?_
  refine gq_results (res1 rfl rfl) ?_
  exact fun W hO => ⟨ret_int (by unfold nearI; omega), hO.toExt⟩

/-- barscan/raster.Check -/
theorem check_c (W H : Int) (A : Option Addr) (n c : Nat) (w : World) :
    Calls Try.prog 30 #[.agg #[.int .i64 W, .int .i64 H, .slice A n c]] w fun e w' => e = .returned (.int .i64 (chk W H n)) ∧ Ext w w' := by
  refine calls_enter (N := ⟨20, []⟩) ([]) ([]) Try.func30 rfl rfl rfl (Ow.start _) ?_
  refine gc_seq ?_
  refine gc_region ?_
  refine nx (xo_boxA rfl rfl) rfl ?_
  rintro _ _ ⟨g1, rfl, rfl⟩
  refine ne (eo_as rfl rfl) rfl ?_
  refine go_nil ?_
  refine gq_next ?_
  refine gc_seq ?_
  refine gc_seq ?_
  refine gc_region ?_
  refine ne (eo_field rfl f24_0 rfl) rfl ?_
  refine ne (by first | exact eo_load 0 rfl s3 rfl rfl rfl rfl | exact eo_load 1 rfl s3 rfl rfl rfl rfl | exact eo_load 2 rfl s3 rfl rfl rfl rfl | exact eo_load 3 rfl s3 rfl rfl rfl rfl | exact eo_load 4 rfl s3 rfl rfl rfl rfl | exact eo_load 5 rfl s3 rfl rfl rfl rfl) rfl ?_
  refine ne (eo_field rfl f24_1 rfl) rfl ?_
  refine ne (by first | exact eo_load 0 rfl s3 rfl rfl rfl rfl | exact eo_load 1 rfl s3 rfl rfl rfl rfl | exact eo_load 2 rfl s3 rfl rfl rfl rfl | exact eo_load 3 rfl s3 rfl rfl rfl rfl | exact eo_load 4 rfl s3 rfl rfl rfl rfl | exact eo_load 5 rfl s3 rfl rfl rfl rfl) rfl ?_
  refine ne (eo_call rfl en42 rfl (fun W _ => possible_c _ _ W)) rfl ?_
  refine ne (eo_not rfl rfl) rfl ?_
  refine ne (eo_mv rfl rfl) rfl ?_
  refine ng rfl rfl (fun h => eo_field rfl f24_2 rfl) rfl ?_
  refine ng rfl rfl (fun h => by first | exact eo_load 0 rfl s22 (ev_if h rfl) rfl rfl rfl | exact eo_load 1 rfl s22 (ev_if h rfl) rfl rfl rfl | exact eo_load 2 rfl s22 (ev_if h rfl) rfl rfl rfl | exact eo_load 3 rfl s22 (ev_if h rfl) rfl rfl rfl | exact eo_load 4 rfl s22 (ev_if h rfl) rfl rfl rfl | exact eo_load 5 rfl s22 (ev_if h rfl) rfl rfl rfl) rfl ?_
  refine ng rfl rfl (fun h => eo_len rfl Try.underlying22 (ev_if h rfl)) rfl ?_
  refine ng rfl rfl (fun h => eo_field rfl f24_0 rfl) rfl ?_
  refine ng rfl rfl (fun h => by first | exact eo_load 0 rfl s3 (ev_if h rfl) rfl rfl rfl | exact eo_load 1 rfl s3 (ev_if h rfl) rfl rfl rfl | exact eo_load 2 rfl s3 (ev_if h rfl) rfl rfl rfl | exact eo_load 3 rfl s3 (ev_if h rfl) rfl rfl rfl | exact eo_load 4 rfl s3 (ev_if h rfl) rfl rfl rfl | exact eo_load 5 rfl s3 (ev_if h rfl) rfl rfl rfl) rfl ?_
  refine ng rfl rfl (fun h => eo_field rfl f24_1 rfl) rfl ?_
  refine ng rfl rfl (fun h => by first | exact eo_load 0 rfl s3 (ev_if h rfl) rfl rfl rfl | exact eo_load 1 rfl s3 (ev_if h rfl) rfl rfl rfl | exact eo_load 2 rfl s3 (ev_if h rfl) rfl rfl rfl | exact eo_load 3 rfl s3 (ev_if h rfl) rfl rfl rfl | exact eo_load 4 rfl s3 (ev_if h rfl) rfl rfl rfl | exact eo_load 5 rfl s3 (ev_if h rfl) rfl rfl rfl) rfl ?_
  refine ng rfl rfl (fun h => eo_mul rfl (ev_if h rfl) (ev_if h rfl) (nfits_lo h) (nfits_hi h)) rfl ?_
  refine ng rfl rfl (fun h => eo_neq rfl (ev_if h rfl) (ev_if h rfl)) rfl ?_
  refine ne (eo_or rfl rfl (fun hb => ev_if hb rfl)) rfl ?_
  refine go_nil ?_
  refine gq_next ?_
  refine gc_cond rfl (fun hc19 => ?_) (fun hc19 => ?_)
  ·
    refine gc_seq ?_
    refine gc_region ?_
    refine ne (eo_as rfl rfl) rfl ?_
    refine go_nil ?_
    refine gq_next ?_
    refine gc_ret ?_
    refine gq_then_ret ?_
    refine gq_results (res1 rfl rfl) ?_
    first
      | exact fun W' hO => ⟨ret_int (chk_no (vld_no hc19)).symm, hO.toExt⟩
      | exact fun W' hO => ⟨ret_int (chk_ok (vld_yes hc19)).symm, hO.toExt⟩
  ·
    refine gc_skip ?_
    refine gq_next ?_
    refine gc_seq ?_
    refine gc_region ?_
    refine ne (eo_as rfl rfl) rfl ?_
    refine go_nil ?_
    refine gq_next ?_
    refine gc_ret ?_
    refine gq_results (res1 rfl rfl) ?_
    first
      | exact fun W' hO => ⟨ret_int (chk_no (vld_no hc19)).symm, hO.toExt⟩
      | exact fun W' hO => ⟨ret_int (chk_ok (vld_yes hc19)).symm, hO.toExt⟩

/-- barscan/barscanref31.Valid -/
theorem valid_c (W H : Int) (A : Option Addr) (n c : Nat) (w : World) :
    Calls Try.prog 40 #[.agg #[.int .i64 W, .int .i64 H, .slice A n c]] w fun e w' => e = .returned (.bool (vldB W H n)) ∧ Ext w w' := by
  refine calls_enter (N := ⟨19, []⟩) ([]) ([]) Try.func40 rfl rfl rfl (Ow.start _) ?_
  refine gc_seq ?_
  refine gc_region ?_
  refine nx (xo_boxA rfl rfl) rfl ?_
  rintro _ _ ⟨g1, rfl, rfl⟩
  refine ne (eo_as rfl rfl) rfl ?_
  refine go_nil ?_
  refine gq_next ?_
  refine gc_seq ?_
  refine gc_region ?_
  refine ne (eo_field rfl f24_0 rfl) rfl ?_
  refine ne (by first | exact eo_load 0 rfl s3 rfl rfl rfl rfl | exact eo_load 1 rfl s3 rfl rfl rfl rfl | exact eo_load 2 rfl s3 rfl rfl rfl rfl | exact eo_load 3 rfl s3 rfl rfl rfl rfl | exact eo_load 4 rfl s3 rfl rfl rfl rfl | exact eo_load 5 rfl s3 rfl rfl rfl rfl) rfl ?_
  refine ne (eo_field rfl f24_1 rfl) rfl ?_
  refine ne (by first | exact eo_load 0 rfl s3 rfl rfl rfl rfl | exact eo_load 1 rfl s3 rfl rfl rfl rfl | exact eo_load 2 rfl s3 rfl rfl rfl rfl | exact eo_load 3 rfl s3 rfl rfl rfl rfl | exact eo_load 4 rfl s3 rfl rfl rfl rfl | exact eo_load 5 rfl s3 rfl rfl rfl rfl) rfl ?_
  refine ne (eo_call rfl en45 rfl (fun W _ => fits_c _ _ W)) rfl ?_
  refine ne (eo_mv rfl rfl) rfl ?_
  refine ng rfl rfl (fun h => eo_field rfl f24_2 rfl) rfl ?_
  refine ng rfl rfl (fun h => by first | exact eo_load 0 rfl s22 (ev_if h rfl) rfl rfl rfl | exact eo_load 1 rfl s22 (ev_if h rfl) rfl rfl rfl | exact eo_load 2 rfl s22 (ev_if h rfl) rfl rfl rfl | exact eo_load 3 rfl s22 (ev_if h rfl) rfl rfl rfl | exact eo_load 4 rfl s22 (ev_if h rfl) rfl rfl rfl | exact eo_load 5 rfl s22 (ev_if h rfl) rfl rfl rfl) rfl ?_
  refine ng rfl rfl (fun h => eo_len rfl Try.underlying22 (ev_if h rfl)) rfl ?_
  refine ng rfl rfl (fun h => eo_field rfl f24_0 rfl) rfl ?_
  refine ng rfl rfl (fun h => by first | exact eo_load 0 rfl s3 (ev_if h rfl) rfl rfl rfl | exact eo_load 1 rfl s3 (ev_if h rfl) rfl rfl rfl | exact eo_load 2 rfl s3 (ev_if h rfl) rfl rfl rfl | exact eo_load 3 rfl s3 (ev_if h rfl) rfl rfl rfl | exact eo_load 4 rfl s3 (ev_if h rfl) rfl rfl rfl | exact eo_load 5 rfl s3 (ev_if h rfl) rfl rfl rfl) rfl ?_
  refine ng rfl rfl (fun h => eo_field rfl f24_1 rfl) rfl ?_
  refine ng rfl rfl (fun h => by first | exact eo_load 0 rfl s3 (ev_if h rfl) rfl rfl rfl | exact eo_load 1 rfl s3 (ev_if h rfl) rfl rfl rfl | exact eo_load 2 rfl s3 (ev_if h rfl) rfl rfl rfl | exact eo_load 3 rfl s3 (ev_if h rfl) rfl rfl rfl | exact eo_load 4 rfl s3 (ev_if h rfl) rfl rfl rfl | exact eo_load 5 rfl s3 (ev_if h rfl) rfl rfl rfl) rfl ?_
  refine ng rfl rfl (fun h => eo_mul rfl (ev_if h rfl) (ev_if h rfl) (fits_lo h) (fits_hi h)) rfl ?_
  refine ng rfl rfl (fun h => eo_eql rfl (ev_if h rfl) (ev_if h rfl)) rfl ?_
  refine ne (eo_and rfl rfl (fun hb => ev_if hb rfl)) rfl ?_
  refine ne (eo_as rfl rfl) rfl ?_
  refine go_nil ?_
  refine gq_next ?_
  refine gc_ret ?_
  refine gq_results (res1 rfl rfl) ?_
  exact fun W' hO => ⟨rfl, hO.toExt⟩

/-- barscan/barscanref31.Check -/
theorem rcheck_c (W H : Int) (A : Option Addr) (n c : Nat) (w : World) :
    Calls Try.prog 25 #[.agg #[.int .i64 W, .int .i64 H, .slice A n c]] w fun e w' => e = .returned (.int .i64 (chk W H n)) ∧ Ext w w' := by
  refine calls_enter (N := ⟨6, []⟩) ([]) ([]) Try.func25 rfl rfl rfl (Ow.start _) ?_
  refine gc_seq ?_
  refine gc_region ?_
  refine nx (xo_boxA rfl rfl) rfl ?_
  rintro _ _ ⟨g1, rfl, rfl⟩
  refine ne (eo_as rfl rfl) rfl ?_
  refine go_nil ?_
  refine gq_next ?_
  refine gc_seq ?_
  refine gc_seq ?_
  refine gc_region ?_
  refine ne (by first | exact eo_loadA 0 rfl a24 rfl rfl rfl rfl | exact eo_loadA 1 rfl a24 rfl rfl rfl rfl | exact eo_loadA 2 rfl a24 rfl rfl rfl rfl | exact eo_loadA 3 rfl a24 rfl rfl rfl rfl | exact eo_loadA 4 rfl a24 rfl rfl rfl rfl | exact eo_loadA 5 rfl a24 rfl rfl rfl rfl) rfl ?_
  refine ne (eo_call rfl en40 rfl (fun W _ => valid_c _ _ _ _ _ W)) rfl ?_
  refine ne (eo_not rfl rfl) rfl ?_
  refine go_nil ?_
  refine gq_next ?_
  refine gc_cond rfl (fun hc5 => ?_) (fun hc5 => ?_)
  ·
    refine gc_seq ?_
    refine gc_region ?_
    refine ne (eo_as rfl rfl) rfl ?_
    refine go_nil ?_
    refine gq_next ?_
    refine gc_ret ?_
    refine gq_then_ret ?_
    refine gq_results (res1 rfl rfl) ?_
    first
      | exact fun W' hO => ⟨ret_int (chk_no (by simpa using hc5)).symm, hO.toExt⟩
      | exact fun W' hO => ⟨ret_int (chk_ok (by simpa using hc5)).symm, hO.toExt⟩
  ·
    refine gc_skip ?_
    refine gq_next ?_
    refine gc_seq ?_
    refine gc_region ?_
    refine ne (eo_as rfl rfl) rfl ?_
    refine go_nil ?_
    refine gq_next ?_
    refine gc_ret ?_
    refine gq_results (res1 rfl rfl) ?_
    first
      | exact fun W' hO => ⟨ret_int (chk_no (by simpa using hc5)).symm, hO.toExt⟩
      | exact fun W' hO => ⟨ret_int (chk_ok (by simpa using hc5)).symm, hO.toExt⟩

/-- barscan/barscanref31.At -/
theorem rat_c (W H x y : Int) (A : Option Addr) (n c : Nat) (f : Nat → Bool) (w : World) (hr : Rd w A (tab n (bv f))) :
    Calls Try.prog 41 #[.agg #[.int .i64 W, .int .i64 H, .slice A n c], .int .i64 x, .int .i64 y] w fun e w' => e = .returned (.bool (atB W H n f x y)) ∧ Ext w w' := by
  refine calls_enter (N := ⟨41, []⟩) ([]) ([]) Try.func41 rfl rfl rfl (Ow.start _) ?_
  refine gc_seq ?_
  refine gc_region ?_
  refine nx (xo_boxA rfl rfl) rfl ?_
  rintro _ _ ⟨g3, rfl, rfl⟩
  refine ne (eo_as rfl rfl) rfl ?_
  refine go_nil ?_
  refine gq_next ?_
  refine gc_seq ?_
  refine gc_region ?_
  refine ne (by first | exact eo_loadA 0 rfl a24 rfl rfl rfl rfl | exact eo_loadA 1 rfl a24 rfl rfl rfl rfl | exact eo_loadA 2 rfl a24 rfl rfl rfl rfl | exact eo_loadA 3 rfl a24 rfl rfl rfl rfl | exact eo_loadA 4 rfl a24 rfl rfl rfl rfl | exact eo_loadA 5 rfl a24 rfl rfl rfl rfl) rfl ?_
  refine ne (eo_call rfl en40 rfl (fun W _ => valid_c _ _ _ _ _ W)) rfl ?_
  refine ne (eo_mv rfl rfl) rfl ?_
  refine ng rfl rfl (fun h => eo_mv rfl rfl) rfl ?_
  refine ng rfl rfl (fun h => eo_geq rfl (ev_if h rfl) rfl) rfl ?_
  refine ne (eo_and rfl rfl (fun hb => ev_if hb rfl)) rfl ?_
  refine ne (eo_mv rfl rfl) rfl ?_
  refine ng rfl rfl (fun h => eo_mv rfl rfl) rfl ?_
  refine ng rfl rfl (fun h => eo_field rfl f24_0 rfl) rfl ?_
  refine ng rfl rfl (fun h => by first | exact eo_load 0 rfl s3 (ev_if h rfl) rfl rfl rfl | exact eo_load 1 rfl s3 (ev_if h rfl) rfl rfl rfl | exact eo_load 2 rfl s3 (ev_if h rfl) rfl rfl rfl | exact eo_load 3 rfl s3 (ev_if h rfl) rfl rfl rfl | exact eo_load 4 rfl s3 (ev_if h rfl) rfl rfl rfl | exact eo_load 5 rfl s3 (ev_if h rfl) rfl rfl rfl) rfl ?_
  refine ng rfl rfl (fun h => eo_lss rfl (ev_if h rfl) (ev_if h rfl)) rfl ?_
  refine ne (eo_and rfl rfl (fun hb => ev_if hb rfl)) rfl ?_
  refine ne (eo_mv rfl rfl) rfl ?_
  refine ng rfl rfl (fun h => eo_mv rfl rfl) rfl ?_
  refine ng rfl rfl (fun h => eo_geq rfl (ev_if h rfl) rfl) rfl ?_
  refine ne (eo_and rfl rfl (fun hb => ev_if hb rfl)) rfl ?_
  refine ne (eo_mv rfl rfl) rfl ?_
  refine ng rfl rfl (fun h => eo_mv rfl rfl) rfl ?_
  refine ng rfl rfl (fun h => eo_field rfl f24_1 rfl) rfl ?_
  refine ng rfl rfl (fun h => by first | exact eo_load 0 rfl s3 (ev_if h rfl) rfl rfl rfl | exact eo_load 1 rfl s3 (ev_if h rfl) rfl rfl rfl | exact eo_load 2 rfl s3 (ev_if h rfl) rfl rfl rfl | exact eo_load 3 rfl s3 (ev_if h rfl) rfl rfl rfl | exact eo_load 4 rfl s3 (ev_if h rfl) rfl rfl rfl | exact eo_load 5 rfl s3 (ev_if h rfl) rfl rfl rfl) rfl ?_
  refine ng rfl rfl (fun h => eo_lss rfl (ev_if h rfl) (ev_if h rfl)) rfl ?_
  refine ne (eo_and rfl rfl (fun hb => ev_if hb rfl)) rfl ?_
  refine ne (eo_mv rfl rfl) rfl ?_
  refine ng rfl rfl (fun h => eo_field rfl f24_2 rfl) rfl ?_
  refine ng rfl rfl (fun h => by first | exact eo_load 0 rfl s22 (ev_if h rfl) rfl rfl rfl | exact eo_load 1 rfl s22 (ev_if h rfl) rfl rfl rfl | exact eo_load 2 rfl s22 (ev_if h rfl) rfl rfl rfl | exact eo_load 3 rfl s22 (ev_if h rfl) rfl rfl rfl | exact eo_load 4 rfl s22 (ev_if h rfl) rfl rfl rfl | exact eo_load 5 rfl s22 (ev_if h rfl) rfl rfl rfl) rfl ?_
  refine ng rfl rfl (fun h => eo_mv rfl rfl) rfl ?_
  refine ng rfl rfl (fun h => eo_field rfl f24_0 rfl) rfl ?_
  refine ng rfl rfl (fun h => by first | exact eo_load 0 rfl s3 (ev_if h rfl) rfl rfl rfl | exact eo_load 1 rfl s3 (ev_if h rfl) rfl rfl rfl | exact eo_load 2 rfl s3 (ev_if h rfl) rfl rfl rfl | exact eo_load 3 rfl s3 (ev_if h rfl) rfl rfl rfl | exact eo_load 4 rfl s3 (ev_if h rfl) rfl rfl rfl | exact eo_load 5 rfl s3 (ev_if h rfl) rfl rfl rfl) rfl ?_
  refine ng rfl rfl (fun h => eo_mul rfl (ev_if h rfl) (ev_if h rfl) (at_lo1 h) (at_hi1 h)) rfl ?_
  refine ng rfl rfl (fun h => eo_mv rfl rfl) rfl ?_
  refine ng rfl rfl (fun h => eo_add rfl (ev_if h rfl) (ev_if h rfl) (at_lo2 h) (at_hi2 h)) rfl ?_
  refine ng rfl rfl (fun h => by first | exact eo_indexR rfl sl22 (ev_if h rfl) (ev_if h rfl) hr (by simp) (at_ge h) (at_lt h) | exact eo_index0 rfl sl22 (ev_if h rfl) (ev_if h rfl) (by omega) (by omega) | exact eo_index rfl sl22 (ev_if h rfl) (ev_if h rfl) (by omega) (by omega)) rfl ?_
  refine ng rfl rfl (fun h => by first | exact eo_load_old rfl s4 (ev_if h rfl) (Rd.tabb hr (at_ltn h)) (by simp) | exact eo_getb 0 rfl s4 (ev_if h rfl) rfl (by omega) | exact eo_getb 1 rfl s4 (ev_if h rfl) rfl (by omega) | exact eo_getb 2 rfl s4 (ev_if h rfl) rfl (by omega) | exact eo_getb 3 rfl s4 (ev_if h rfl) rfl (by omega) | exact eo_getb 4 rfl s4 (ev_if h rfl) rfl (by omega) | exact eo_getb 5 rfl s4 (ev_if h rfl) rfl (by omega)) rfl ?_
  refine ne (eo_and rfl rfl (fun hb => ev_if hb rfl)) rfl ?_
  refine ne (eo_as rfl rfl) rfl ?_
  refine go_nil ?_
  refine gq_next ?_
  refine gc_ret ?_
  refine gq_results (res1 rfl rfl) ?_
  exact fun W' hO => ⟨ret_bool (by simp [atB, inB, Bool.and_assoc]), hO.toExt⟩

/-- barscan/barscanref31.New -/
theorem rnew_ok (a b : Int) (w : World) (hf : fitsB a b = true) :
    Calls Try.prog 35 #[.int .i64 a, .int .i64 b] w fun e w' => ∃ v Hn, e = .returned v ∧ RE 4 a b (a * b).toNat (fun _ => false) v Hn ∧ Ow [] w w' Hn := by
  have hb := fits_bd hf
  refine calls_enter (N := ⟨18, []⟩) ([]) ([]) Try.func35 rfl rfl rfl (Ow.start _) ?_
  refine gc_seq ?_
  refine gc_region ?_
  refine nx (xo_alloc rfl z24) rfl ?_
  rintro _ _ ⟨g4, rfl, rfl⟩
  refine ne (eo_as rfl rfl) rfl ?_
  refine go_nil ?_
  refine gq_next ?_
  refine gc_seq ?_
  refine gc_seq ?_
  refine gc_region ?_
  refine ne (eo_mv rfl rfl) rfl ?_
  refine ne (eo_mv rfl rfl) rfl ?_
  refine ne (eo_call rfl en45 rfl (fun W _ => fits_c _ _ W)) rfl ?_
  refine ne (eo_not rfl rfl) rfl ?_
  refine go_nil ?_
  refine gq_next ?_
  refine gc_cond rfl (fun hc9 => ?_) (fun hc9 => ?_)
  ·
    exact absurd hf (by simpa using hc9)
  ·
    refine gc_skip ?_
    refine gq_next ?_
    refine gc_seq ?_
    refine gc_region ?_
    refine ne (eo_mv rfl rfl) rfl ?_
    refine ne (eo_mv rfl rfl) rfl ?_
    refine ne (eo_mv rfl rfl) rfl ?_
    refine ne (eo_mv rfl rfl) rfl ?_
    refine ne (eo_mul rfl rfl rfl (by omega) (by omega)) rfl ?_
    refine nx (xo_makeb rfl Try.underlying22 e4 rfl rfl (by omega) (by omega) (by omega)) rfl ?_
    rintro _ _ ⟨g16, rfl, rfl⟩
    refine ne (eo_build rfl rfl (b24_012 _ _ _ _ _)) rfl ?_
    refine nu (by first | exact xo_storeA 0 rfl a24 rfl rfl (ones_cons (by first | rfl | exact AS.one) (ones_cons (by first | rfl | exact AS.one) (ones_cons (by first | rfl | exact AS.one) ones_nil))) rfl rfl rfl rfl | exact xo_storeA 1 rfl a24 rfl rfl (ones_cons (by first | rfl | exact AS.one) (ones_cons (by first | rfl | exact AS.one) (ones_cons (by first | rfl | exact AS.one) ones_nil))) rfl rfl rfl rfl | exact xo_storeA 2 rfl a24 rfl rfl (ones_cons (by first | rfl | exact AS.one) (ones_cons (by first | rfl | exact AS.one) (ones_cons (by first | rfl | exact AS.one) ones_nil))) rfl rfl rfl rfl | exact xo_storeA 3 rfl a24 rfl rfl (ones_cons (by first | rfl | exact AS.one) (ones_cons (by first | rfl | exact AS.one) (ones_cons (by first | rfl | exact AS.one) ones_nil))) rfl rfl rfl rfl | exact xo_storeA 4 rfl a24 rfl rfl (ones_cons (by first | rfl | exact AS.one) (ones_cons (by first | rfl | exact AS.one) (ones_cons (by first | rfl | exact AS.one) ones_nil))) rfl rfl rfl rfl | exact xo_storeA 5 rfl a24 rfl rfl (ones_cons (by first | rfl | exact AS.one) (ones_cons (by first | rfl | exact AS.one) (ones_cons (by first | rfl | exact AS.one) ones_nil))) rfl rfl rfl rfl) ?_
    rintro _ _ ⟨rfl, rfl⟩
    refine ne (eo_as rfl rfl) rfl ?_
    refine go_nil ?_
    refine gq_next ?_
    refine gc_ret ?_
    refine gq_results (by first | exact resCT 0 rfl a24 rfl rfl rfl rfl rfl | exact resCT 1 rfl a24 rfl rfl rfl rfl rfl | exact resCT 2 rfl a24 rfl rfl rfl rfl rfl | exact resCT 3 rfl a24 rfl rfl rfl rfl rfl | exact resCT 4 rfl a24 rfl rfl rfl rfl rfl | exact resCT 5 rfl a24 rfl rfl rfl rfl rfl) ?_
    first
      | exact fun W' hO => ⟨_, _, rfl, ⟨_, _, _, rfl, rfl, by omega⟩, hO.pick 0 rfl⟩
      | exact fun W' hO => ⟨_, _, rfl, ⟨_, _, _, rfl, rfl, by omega⟩, hO.pick 1 rfl⟩
      | exact fun W' hO => ⟨_, _, rfl, ⟨_, _, _, rfl, rfl, by omega⟩, hO.pick 2 rfl⟩
      | exact fun W' hO => ⟨_, _, rfl, ⟨_, _, _, rfl, rfl, by omega⟩, hO.pick 3 rfl⟩
      | exact fun W' hO => ⟨_, _, rfl, ⟨_, _, _, rfl, rfl, by omega⟩, hO.pick 4 rfl⟩
      | exact fun W' hO => ⟨_, _, rfl, ⟨_, _, _, rfl, rfl, by omega⟩, hO.pick 5 rfl⟩

/-- barscan/barscanref31.New -/
theorem rnew_no (a b : Int) (w : World) (hf : fitsB a b = false) :
    Calls Try.prog 35 #[.int .i64 a, .int .i64 b] w fun e w' => e = .returned (noM 23) ∧ Ext w w' := by
  refine calls_enter (N := ⟨18, []⟩) ([]) ([]) Try.func35 rfl rfl rfl (Ow.start _) ?_
  refine gc_seq ?_
  refine gc_region ?_
  refine nx (xo_alloc rfl z24) rfl ?_
  rintro _ _ ⟨g4, rfl, rfl⟩
  refine ne (eo_as rfl rfl) rfl ?_
  refine go_nil ?_
  refine gq_next ?_
  refine gc_seq ?_
  refine gc_seq ?_
  refine gc_region ?_
  refine ne (eo_mv rfl rfl) rfl ?_
  refine ne (eo_mv rfl rfl) rfl ?_
  refine ne (eo_call rfl en45 rfl (fun W _ => fits_c _ _ W)) rfl ?_
  refine ne (eo_not rfl rfl) rfl ?_
  refine go_nil ?_
  refine gq_next ?_
  refine gc_cond rfl (fun hc9 => ?_) (fun hc9 => ?_)
  ·
    refine gc_seq ?_
    refine gc_region ?_
    refine ne (eo_build rfl rfl (b24_)) rfl ?_
    refine nu (by first | exact xo_storeA 0 rfl a24 rfl rfl (ones_cons (by first | rfl | exact AS.one) (ones_cons (by first | rfl | exact AS.one) (ones_cons (by first | rfl | exact AS.one) ones_nil))) rfl rfl rfl rfl | exact xo_storeA 1 rfl a24 rfl rfl (ones_cons (by first | rfl | exact AS.one) (ones_cons (by first | rfl | exact AS.one) (ones_cons (by first | rfl | exact AS.one) ones_nil))) rfl rfl rfl rfl | exact xo_storeA 2 rfl a24 rfl rfl (ones_cons (by first | rfl | exact AS.one) (ones_cons (by first | rfl | exact AS.one) (ones_cons (by first | rfl | exact AS.one) ones_nil))) rfl rfl rfl rfl | exact xo_storeA 3 rfl a24 rfl rfl (ones_cons (by first | rfl | exact AS.one) (ones_cons (by first | rfl | exact AS.one) (ones_cons (by first | rfl | exact AS.one) ones_nil))) rfl rfl rfl rfl | exact xo_storeA 4 rfl a24 rfl rfl (ones_cons (by first | rfl | exact AS.one) (ones_cons (by first | rfl | exact AS.one) (ones_cons (by first | rfl | exact AS.one) ones_nil))) rfl rfl rfl rfl | exact xo_storeA 5 rfl a24 rfl rfl (ones_cons (by first | rfl | exact AS.one) (ones_cons (by first | rfl | exact AS.one) (ones_cons (by first | rfl | exact AS.one) ones_nil))) rfl rfl rfl rfl) ?_
    rintro _ _ ⟨rfl, rfl⟩
    refine ne (eo_as rfl rfl) rfl ?_
    refine go_nil ?_
    refine gq_next ?_
    refine gc_ret ?_
    refine gq_then_ret ?_
    refine gq_results (by first | exact resCT 0 rfl a24 rfl rfl rfl rfl rfl | exact resCT 1 rfl a24 rfl rfl rfl rfl rfl | exact resCT 2 rfl a24 rfl rfl rfl rfl rfl | exact resCT 3 rfl a24 rfl rfl rfl rfl rfl | exact resCT 4 rfl a24 rfl rfl rfl rfl rfl | exact resCT 5 rfl a24 rfl rfl rfl rfl rfl) ?_
    exact fun W hO => ⟨rfl, hO.toExt⟩
  ·
    exact absurd hf (by simpa using hc9)

/-- barscan/barscanref31.Equal -/
theorem requal_c (W H W' H' : Int) (A A' : Option Addr) (n c n' c' : Nat) (f f' : Nat → Bool) (w : World) (hn : n ≤ 140737488355328) (hr : Rd w A (tab n (bv f))) (hr' : Rd w A' (tab n' (bv f'))) :
    Calls Try.prog 16 #[.agg #[.int .i64 W, .int .i64 H, .slice A n c], .agg #[.int .i64 W', .int .i64 H', .slice A' n' c']] w fun e w' => e = .returned (.bool (eqM W H n f W' H' n' f')) ∧ Ext w w' := by
  refine calls_enter (N := ⟨45, []⟩) ([]) ([]) Try.func16 rfl rfl rfl (Ow.start _) ?_
  refine gc_seq ?_
  refine gc_region ?_
  refine nx (xo_boxA rfl rfl) rfl ?_
  rintro _ _ ⟨g2, rfl, rfl⟩
  refine nx (xo_boxA rfl rfl) rfl ?_
  rintro _ _ ⟨g3, rfl, rfl⟩
  refine ne (eo_as rfl rfl) rfl ?_
  refine go_nil ?_
  refine gq_next ?_
  refine gc_seq ?_
  refine gc_seq ?_
  refine gc_region ?_
  refine ne (eo_field rfl f24_0 rfl) rfl ?_
  refine ne (by first | exact eo_load 0 rfl s3 rfl rfl rfl rfl | exact eo_load 1 rfl s3 rfl rfl rfl rfl | exact eo_load 2 rfl s3 rfl rfl rfl rfl | exact eo_load 3 rfl s3 rfl rfl rfl rfl | exact eo_load 4 rfl s3 rfl rfl rfl rfl | exact eo_load 5 rfl s3 rfl rfl rfl rfl) rfl ?_
  refine ne (eo_field rfl f24_0 rfl) rfl ?_
  refine ne (by first | exact eo_load 0 rfl s3 rfl rfl rfl rfl | exact eo_load 1 rfl s3 rfl rfl rfl rfl | exact eo_load 2 rfl s3 rfl rfl rfl rfl | exact eo_load 3 rfl s3 rfl rfl rfl rfl | exact eo_load 4 rfl s3 rfl rfl rfl rfl | exact eo_load 5 rfl s3 rfl rfl rfl rfl) rfl ?_
  refine ne (eo_neq rfl rfl rfl) rfl ?_
  refine ne (eo_mv rfl rfl) rfl ?_
  refine ng rfl rfl (fun h => eo_field rfl f24_1 rfl) rfl ?_
  refine ng rfl rfl (fun h => by first | exact eo_load 0 rfl s3 (ev_if h rfl) rfl rfl rfl | exact eo_load 1 rfl s3 (ev_if h rfl) rfl rfl rfl | exact eo_load 2 rfl s3 (ev_if h rfl) rfl rfl rfl | exact eo_load 3 rfl s3 (ev_if h rfl) rfl rfl rfl | exact eo_load 4 rfl s3 (ev_if h rfl) rfl rfl rfl | exact eo_load 5 rfl s3 (ev_if h rfl) rfl rfl rfl) rfl ?_
  refine ng rfl rfl (fun h => eo_field rfl f24_1 rfl) rfl ?_
  refine ng rfl rfl (fun h => by first | exact eo_load 0 rfl s3 (ev_if h rfl) rfl rfl rfl | exact eo_load 1 rfl s3 (ev_if h rfl) rfl rfl rfl | exact eo_load 2 rfl s3 (ev_if h rfl) rfl rfl rfl | exact eo_load 3 rfl s3 (ev_if h rfl) rfl rfl rfl | exact eo_load 4 rfl s3 (ev_if h rfl) rfl rfl rfl | exact eo_load 5 rfl s3 (ev_if h rfl) rfl rfl rfl) rfl ?_
  refine ng rfl rfl (fun h => eo_neq rfl (ev_if h rfl) (ev_if h rfl)) rfl ?_
  refine ne (eo_or rfl rfl (fun hb => ev_if hb rfl)) rfl ?_
  refine ne (eo_mv rfl rfl) rfl ?_
  refine ng rfl rfl (fun h => eo_field rfl f24_2 rfl) rfl ?_
  refine ng rfl rfl (fun h => by first | exact eo_load 0 rfl s22 (ev_if h rfl) rfl rfl rfl | exact eo_load 1 rfl s22 (ev_if h rfl) rfl rfl rfl | exact eo_load 2 rfl s22 (ev_if h rfl) rfl rfl rfl | exact eo_load 3 rfl s22 (ev_if h rfl) rfl rfl rfl | exact eo_load 4 rfl s22 (ev_if h rfl) rfl rfl rfl | exact eo_load 5 rfl s22 (ev_if h rfl) rfl rfl rfl) rfl ?_
  refine ng rfl rfl (fun h => eo_len rfl Try.underlying22 (ev_if h rfl)) rfl ?_
  refine ng rfl rfl (fun h => eo_field rfl f24_2 rfl) rfl ?_
  refine ng rfl rfl (fun h => by first | exact eo_load 0 rfl s22 (ev_if h rfl) rfl rfl rfl | exact eo_load 1 rfl s22 (ev_if h rfl) rfl rfl rfl | exact eo_load 2 rfl s22 (ev_if h rfl) rfl rfl rfl | exact eo_load 3 rfl s22 (ev_if h rfl) rfl rfl rfl | exact eo_load 4 rfl s22 (ev_if h rfl) rfl rfl rfl | exact eo_load 5 rfl s22 (ev_if h rfl) rfl rfl rfl) rfl ?_
  refine ng rfl rfl (fun h => eo_len rfl Try.underlying22 (ev_if h rfl)) rfl ?_
  refine ng rfl rfl (fun h => eo_neq rfl (ev_if h rfl) (ev_if h rfl)) rfl ?_
  refine ne (eo_or rfl rfl (fun hb => ev_if hb rfl)) rfl ?_
  refine go_nil ?_
  refine gq_next ?_
  refine gc_cond rfl (fun hc26 => ?_) (fun hc26 => ?_)
  ·
    refine gc_seq ?_
    refine gc_region ?_
    refine ne (eo_as rfl rfl) rfl ?_
    refine go_nil ?_
    refine gq_next ?_
    refine gc_ret ?_
    refine gq_then_ret ?_
    refine gq_results (res1 rfl rfl) ?_
    first
      | exact fun W hO => ⟨ret_bool (eqM_test hc26).symm, hO.toExt⟩
      | exact fun W hO => ⟨ret_bool (eqM_differ k (by omega) (by simpa [bne] using hc44)).symm, hO.toExt⟩
      | exact fun W hO => ⟨ret_bool (eqM_yes e1 e2 e3 (fun i hi => hI i (by omega))).symm, hO.toExt⟩
  ·
    obtain ⟨e1, e2, e3⟩ := eqM_same hc26
    refine gc_skip ?_
    refine gq_next ?_
    refine gc_seq ?_
    refine gc_seq ?_
    refine gc_region ?_
    refine ne (eo_as rfl rfl) rfl ?_
    refine go_nil ?_
    refine gq_next ?_
    refine gc_block ?_
    refine loop1 (fun (k : Nat) => k ≤ n ∧ ∀ i, i < k → f i = f' i) (fun (k : Nat) => n - k) (fun (k : Nat) => [(2, .pointer (some ⟨g2, 0, none⟩)), (3, .pointer (some ⟨g3, 0, none⟩)), (5, .int .i64 k)]) (fun (k : Nat) => [⟨g3, 24, [.int .i64 W', .int .i64 H', .slice A' n' c']⟩, ⟨g2, 24, [.int .i64 W, .int .i64 H, .slice A n c]⟩]) 0 ⟨by omega, fun i hi => absurd hi (by omega)⟩ ⟨rfl, rfl, rfl, trivial⟩ (by first | exact List.Sublist.refl _ | exact List.Sublist.cons _ (List.Sublist.refl _) | exact List.Sublist.cons _ (List.Sublist.cons _ (List.Sublist.refl _)) | exact List.Sublist.cons _ (List.Sublist.cons _ (List.Sublist.cons _ (List.Sublist.refl _))) | exact List.Sublist.cons_cons _ (List.Sublist.cons _ (List.Sublist.refl _))) ?_
    rintro k ⟨hk, hI⟩
    refine gc_seq ?_
    refine gc_seq ?_
    refine gc_region ?_
    refine ne (eo_mv rfl rfl) rfl ?_
    refine ne (eo_field rfl f24_2 rfl) rfl ?_
    refine ne (by first | exact eo_load 0 rfl s22 rfl rfl rfl rfl | exact eo_load 1 rfl s22 rfl rfl rfl rfl | exact eo_load 2 rfl s22 rfl rfl rfl rfl | exact eo_load 3 rfl s22 rfl rfl rfl rfl | exact eo_load 4 rfl s22 rfl rfl rfl rfl | exact eo_load 5 rfl s22 rfl rfl rfl rfl) rfl ?_
    refine ne (eo_len rfl Try.underlying22 rfl) rfl ?_
    refine ne (eo_lss rfl rfl rfl) rfl ?_
    refine go_nil ?_
    refine gq_next ?_
    refine gc_cond rfl (fun hc31 => ?_) (fun hc31 => ?_)
    ·
      replace hc31 := of_decide_eq_true hc31
      refine gc_skip ?_
      refine gq_next ?_
      refine gc_seq ?_
      refine gc_block ?_
      refine gc_seq ?_
      refine gc_draw [] [0, 1, 2, 3, 4, 5, 6, 7, 8, 9, 10] [] [] (by kernel_rfl) (by kernel_rfl) ?_
      refine gp_nil ?_
      refine de rfl (eo_field rfl f24_2 rfl) rfl ?_
      refine de rfl (by first | exact eo_load 0 rfl s22 rfl rfl rfl rfl | exact eo_load 1 rfl s22 rfl rfl rfl rfl | exact eo_load 2 rfl s22 rfl rfl rfl rfl | exact eo_load 3 rfl s22 rfl rfl rfl rfl | exact eo_load 4 rfl s22 rfl rfl rfl rfl | exact eo_load 5 rfl s22 rfl rfl rfl rfl) rfl ?_
      refine de rfl (eo_mv rfl rfl) rfl ?_
      refine de rfl (by first | exact eo_indexR rfl sl22 rfl rfl hr (by simp) (by omega) (by omega) | exact eo_index0 rfl sl22 rfl rfl (by omega) (by omega) | exact eo_index rfl sl22 rfl rfl (by omega) (by omega)) rfl ?_
      refine de rfl (by first | exact eo_load_old rfl s4 rfl (Rd.tabb hr (k := k) (by omega)) (by simp) | exact eo_getb 0 rfl s4 rfl rfl (by omega) | exact eo_getb 1 rfl s4 rfl rfl (by omega) | exact eo_getb 2 rfl s4 rfl rfl (by omega) | exact eo_getb 3 rfl s4 rfl rfl (by omega) | exact eo_getb 4 rfl s4 rfl rfl (by omega) | exact eo_getb 5 rfl s4 rfl rfl (by omega)) rfl ?_
      refine de rfl (eo_field rfl f24_2 rfl) rfl ?_
      refine de rfl (by first | exact eo_load 0 rfl s22 rfl rfl rfl rfl | exact eo_load 1 rfl s22 rfl rfl rfl rfl | exact eo_load 2 rfl s22 rfl rfl rfl rfl | exact eo_load 3 rfl s22 rfl rfl rfl rfl | exact eo_load 4 rfl s22 rfl rfl rfl rfl | exact eo_load 5 rfl s22 rfl rfl rfl rfl) rfl ?_
      refine de rfl (eo_mv rfl rfl) rfl ?_
      refine de rfl (by first | exact eo_indexR rfl sl22 rfl rfl hr' (by simp) (by omega) (by omega) | exact eo_index0 rfl sl22 rfl rfl (by omega) (by omega) | exact eo_index rfl sl22 rfl rfl (by omega) (by omega)) rfl ?_
      refine de rfl (by first | exact eo_load_old rfl s4 rfl (Rd.tabb hr' (k := k) (by omega)) (by simp) | exact eo_getb 0 rfl s4 rfl rfl (by omega) | exact eo_getb 1 rfl s4 rfl rfl (by omega) | exact eo_getb 2 rfl s4 rfl rfl (by omega) | exact eo_getb 3 rfl s4 rfl rfl (by omega) | exact eo_getb 4 rfl s4 rfl rfl (by omega) | exact eo_getb 5 rfl s4 rfl rfl (by omega)) rfl ?_
      refine de rfl (eo_bneq rfl rfl rfl Try.underlying4) rfl ?_
      refine ge_nil ?_
      refine ga_nil ?_
      refine gi_nil ?_
      refine gq_nq ?_
      refine gq_next ?_
      refine gc_cond rfl (fun hc44 => ?_) (fun hc44 => ?_)
      ·
        refine gc_seq ?_
        refine gc_region ?_
        refine ne (eo_as rfl rfl) rfl ?_
        refine go_nil ?_
        refine gq_next ?_
        refine gc_ret ?_
        refine gq_block_ret ?_
        refine gq_then_ret ?_
        refine gq_then_ret ?_
        refine gq_block_ret ?_
        refine gq_then_ret ?_
        refine gq_results (res1 rfl rfl) ?_
        first
          | exact fun W hO => ⟨ret_bool (eqM_test hc26).symm, hO.toExt⟩
          | exact fun W hO => ⟨ret_bool (eqM_differ k (by omega) (by simpa [bne] using hc44)).symm, hO.toExt⟩
          | exact fun W hO => ⟨ret_bool (eqM_yes e1 e2 e3 (fun i hi => hI i (by omega))).symm, hO.toExt⟩
      ·
        refine gc_skip ?_
        refine gq_block_end ?_
        refine gq_next ?_
        refine gc_region ?_
        refine ne (eo_mv rfl rfl) rfl ?_
        refine ne (eo_add rfl rfl rfl (by omega) (by omega)) rfl ?_
        refine ne (eo_as rfl rfl) rfl ?_
        refine go_nil ?_
        exact round1 (k + 1) ⟨by omega, upto_succ hI (by simpa [bne] using hc44)⟩ (by omega) ⟨rfl, rfl, rfl, trivial⟩ (by first | exact List.Sublist.refl _ | exact List.Sublist.cons _ (List.Sublist.refl _) | exact List.Sublist.cons _ (List.Sublist.cons _ (List.Sublist.refl _)) | exact List.Sublist.cons _ (List.Sublist.cons _ (List.Sublist.cons _ (List.Sublist.refl _))) | exact List.Sublist.cons_cons _ (List.Sublist.cons _ (List.Sublist.refl _)))
    ·
      replace hc31 := of_decide_eq_false hc31
      refine gc_exit ?_
      refine gq_then_exit ?_
      refine gq_then_exit ?_
      refine gq_block_hit ?_
      refine gq_next ?_
      refine gc_seq ?_
      refine gc_region ?_
      refine ne (eo_as rfl rfl) rfl ?_
      refine go_nil ?_
      refine gq_next ?_
      refine gc_ret ?_
      refine gq_results (res1 rfl rfl) ?_
      first
        | exact fun W hO => ⟨ret_bool (eqM_test hc26).symm, hO.toExt⟩
        | exact fun W hO => ⟨ret_bool (eqM_differ k (by omega) (by simpa [bne] using hc44)).symm, hO.toExt⟩
        | exact fun W hO => ⟨ret_bool (eqM_yes e1 e2 e3 (fun i hi => hI i (by omega))).symm, hO.toExt⟩

/-- barscan/barscanref31.Crop -/
theorem rcrop_ok (X Y BW BH W H : Int) (A : Option Addr) (n c : Nat) (f : Nat → Bool) (w : World) (hr : Rd w A (tab n (bv f))) (hv : vldB W H n = true) (hf : fitsB BW BH = true) :
    Calls Try.prog 38 #[.agg #[.int .i64 W, .int .i64 H, .slice A n c], .agg #[.int .i64 X, .int .i64 Y, .int .i64 BW, .int .i64 BH]] w fun e w' => ∃ v Hn, e = .returned v ∧ RE 4 BW BH (BW * BH).toNat (cropF 10000 W H n f X Y BW) v Hn ∧ Ow [] w w' Hn := by
  have hb := fits_bd hf
  obtain ⟨f1, f2, f3, f4, f5⟩ := fitsB_iff.1 hf
  have hnx := nearI_bd (m := 10000) (n := X) (by omega)
  have hny := nearI_bd (m := 10000) (n := Y) (by omega)
  refine calls_enter (N := ⟨55, []⟩) ([]) ([]) Try.func38 rfl rfl rfl (Ow.start _) ?_
  refine gc_seq ?_
  refine gc_region ?_
  refine nx (xo_boxA rfl rfl) rfl ?_
  rintro _ _ ⟨g2, rfl, rfl⟩
  refine nx (xo_boxA rfl rfl) rfl ?_
  rintro _ _ ⟨g3, rfl, rfl⟩
  refine nx (xo_alloc rfl z24) rfl ?_
  rintro _ _ ⟨g4, rfl, rfl⟩
  refine ne (eo_as rfl rfl) rfl ?_
  refine go_nil ?_
  refine gq_next ?_
  refine gc_seq ?_
  refine gc_seq ?_
  refine gc_region ?_
  refine ne (by first | exact eo_loadA 0 rfl a24 rfl rfl rfl rfl | exact eo_loadA 1 rfl a24 rfl rfl rfl rfl | exact eo_loadA 2 rfl a24 rfl rfl rfl rfl | exact eo_loadA 3 rfl a24 rfl rfl rfl rfl | exact eo_loadA 4 rfl a24 rfl rfl rfl rfl | exact eo_loadA 5 rfl a24 rfl rfl rfl rfl) rfl ?_
  refine ne (eo_call rfl en40 rfl (fun W _ => valid_c _ _ _ _ _ W)) rfl ?_
  refine ne (eo_not rfl rfl) rfl ?_
  refine go_nil ?_
  refine gq_next ?_
  refine gc_cond rfl (fun hc11 => ?_) (fun hc11 => ?_)
  ·
    exact absurd hv (by simpa using hc11)
  ·
    refine gc_skip ?_
    refine gq_next ?_
    refine gc_seq ?_
    refine gc_seq ?_
    refine gc_region ?_
    refine ne (eo_field rfl f57_2 rfl) rfl ?_
    refine ne (by first | exact eo_load 0 rfl s3 rfl rfl rfl rfl | exact eo_load 1 rfl s3 rfl rfl rfl rfl | exact eo_load 2 rfl s3 rfl rfl rfl rfl | exact eo_load 3 rfl s3 rfl rfl rfl rfl | exact eo_load 4 rfl s3 rfl rfl rfl rfl | exact eo_load 5 rfl s3 rfl rfl rfl rfl) rfl ?_
    refine ne (eo_field rfl f57_3 rfl) rfl ?_
    refine ne (by first | exact eo_load 0 rfl s3 rfl rfl rfl rfl | exact eo_load 1 rfl s3 rfl rfl rfl rfl | exact eo_load 2 rfl s3 rfl rfl rfl rfl | exact eo_load 3 rfl s3 rfl rfl rfl rfl | exact eo_load 4 rfl s3 rfl rfl rfl rfl | exact eo_load 5 rfl s3 rfl rfl rfl rfl) rfl ?_
    refine ne (eo_call rfl en45 rfl (fun W _ => fits_c _ _ W)) rfl ?_
    refine ne (eo_not rfl rfl) rfl ?_
    refine go_nil ?_
    refine gq_next ?_
    refine gc_cond rfl (fun hc18 => ?_) (fun hc18 => ?_)
    ·
      exact absurd hf (by simpa using hc18)
    ·
      refine gc_skip ?_
      refine gq_next ?_
      refine gc_seq ?_
      refine gc_region ?_
      refine ne (eo_field rfl f57_2 rfl) rfl ?_
      refine ne (by first | exact eo_load 0 rfl s3 rfl rfl rfl rfl | exact eo_load 1 rfl s3 rfl rfl rfl rfl | exact eo_load 2 rfl s3 rfl rfl rfl rfl | exact eo_load 3 rfl s3 rfl rfl rfl rfl | exact eo_load 4 rfl s3 rfl rfl rfl rfl | exact eo_load 5 rfl s3 rfl rfl rfl rfl) rfl ?_
      refine ne (eo_field rfl f57_3 rfl) rfl ?_
      refine ne (by first | exact eo_load 0 rfl s3 rfl rfl rfl rfl | exact eo_load 1 rfl s3 rfl rfl rfl rfl | exact eo_load 2 rfl s3 rfl rfl rfl rfl | exact eo_load 3 rfl s3 rfl rfl rfl rfl | exact eo_load 4 rfl s3 rfl rfl rfl rfl | exact eo_load 5 rfl s3 rfl rfl rfl rfl) rfl ?_
      refine ne (eo_build rfl rfl (b24_01 _ _)) rfl ?_
      refine nx (xo_alloc rfl z24) rfl ?_
      rintro _ _ ⟨g6, rfl, rfl⟩
      refine nu (by first | exact xo_storeA 0 rfl a24 rfl rfl (ones_cons (by first | rfl | exact AS.one) (ones_cons (by first | rfl | exact AS.one) (ones_cons (by first | rfl | exact AS.one) ones_nil))) rfl rfl rfl rfl | exact xo_storeA 1 rfl a24 rfl rfl (ones_cons (by first | rfl | exact AS.one) (ones_cons (by first | rfl | exact AS.one) (ones_cons (by first | rfl | exact AS.one) ones_nil))) rfl rfl rfl rfl | exact xo_storeA 2 rfl a24 rfl rfl (ones_cons (by first | rfl | exact AS.one) (ones_cons (by first | rfl | exact AS.one) (ones_cons (by first | rfl | exact AS.one) ones_nil))) rfl rfl rfl rfl | exact xo_storeA 3 rfl a24 rfl rfl (ones_cons (by first | rfl | exact AS.one) (ones_cons (by first | rfl | exact AS.one) (ones_cons (by first | rfl | exact AS.one) ones_nil))) rfl rfl rfl rfl | exact xo_storeA 4 rfl a24 rfl rfl (ones_cons (by first | rfl | exact AS.one) (ones_cons (by first | rfl | exact AS.one) (ones_cons (by first | rfl | exact AS.one) ones_nil))) rfl rfl rfl rfl | exact xo_storeA 5 rfl a24 rfl rfl (ones_cons (by first | rfl | exact AS.one) (ones_cons (by first | rfl | exact AS.one) (ones_cons (by first | rfl | exact AS.one) ones_nil))) rfl rfl rfl rfl) ?_
      rintro _ _ ⟨rfl, rfl⟩
      refine go_nil ?_
      refine gq_next ?_
      refine gc_seq ?_
      refine gc_seq ?_
      refine gc_region ?_
      refine ne (eo_as rfl rfl) rfl ?_
      refine go_nil ?_
      refine gq_next ?_
      refine gc_block ?_
      refine loop3 (fun (y : Nat) (k : Nat) (s : AS) => (y : Int) ≤ BH ∧ (k : Int) = y * BW ∧ s.Ok 1 k (tab k (bv (cropF 10000 W H n f X Y BW)))) (fun (y : Nat) (k : Nat) (s : AS) => (BH - y).toNat) (fun (y : Nat) (k : Nat) (s : AS) => [(2, .pointer (some ⟨g2, 0, none⟩)), (3, .pointer (some ⟨g3, 0, none⟩)), (4, .pointer (some ⟨g4, 0, none⟩)), (6, .pointer (some ⟨g6, 0, none⟩)), (7, .int .i64 y)]) (fun (y : Nat) (k : Nat) (s : AS) => [⟨g6, 24, [.int .i64 BW, .int .i64 BH, s.val k]⟩, ⟨g4, 24, [.int .i64 0, .int .i64 0, .slice none 0 0]⟩, ⟨g3, 57, [.int .i64 X, .int .i64 Y, .int .i64 BW, .int .i64 BH]⟩, ⟨g2, 24, [.int .i64 W, .int .i64 H, .slice A n c]⟩] ++ s.blks 4 (tab k (bv (cropF 10000 W H n f X Y BW)))) 0 0 .nil ⟨by omega, by simp, AS.Ok0⟩ ⟨rfl, rfl, rfl, rfl, rfl, trivial⟩ (by first | exact List.Sublist.refl _ | exact List.Sublist.cons _ (List.Sublist.refl _) | exact List.Sublist.cons _ (List.Sublist.cons _ (List.Sublist.refl _)) | exact List.Sublist.cons _ (List.Sublist.cons _ (List.Sublist.cons _ (List.Sublist.refl _))) | exact List.Sublist.cons_cons _ (List.Sublist.cons _ (List.Sublist.refl _))) ?_
      rintro y k s ⟨hy, hk, hs⟩
      refine gc_seq ?_
      refine gc_seq ?_
      refine gc_region ?_
      refine ne (eo_mv rfl rfl) rfl ?_
      refine ne (eo_field rfl f57_3 rfl) rfl ?_
      refine ne (by first | exact eo_load 0 rfl s3 rfl rfl rfl rfl | exact eo_load 1 rfl s3 rfl rfl rfl rfl | exact eo_load 2 rfl s3 rfl rfl rfl rfl | exact eo_load 3 rfl s3 rfl rfl rfl rfl | exact eo_load 4 rfl s3 rfl rfl rfl rfl | exact eo_load 5 rfl s3 rfl rfl rfl rfl) rfl ?_
      refine ne (eo_lss rfl rfl rfl) rfl ?_
      refine go_nil ?_
      refine gq_next ?_
      refine gc_cond rfl (fun hc28 => ?_) (fun hc28 => ?_)
      ·
        replace hc28 := of_decide_eq_true hc28
        refine gc_skip ?_
        refine gq_next ?_
        refine gc_seq ?_
        refine gc_block ?_
        refine gc_seq ?_
        refine gc_region ?_
        refine ne (eo_as rfl rfl) rfl ?_
        refine go_nil ?_
        refine gq_next ?_
        refine gc_block ?_
        refine loop3 (fun (x : Nat) (k : Nat) (s : AS) => (x : Int) ≤ BW ∧ (k : Int) = y * BW + x ∧ s.Ok 1 k (tab k (bv (cropF 10000 W H n f X Y BW)))) (fun (x : Nat) (k : Nat) (s : AS) => (BW - x).toNat) (fun (x : Nat) (k : Nat) (s : AS) => [(2, .pointer (some ⟨g2, 0, none⟩)), (3, .pointer (some ⟨g3, 0, none⟩)), (4, .pointer (some ⟨g4, 0, none⟩)), (6, .pointer (some ⟨g6, 0, none⟩)), (7, .int .i64 y), (8, .int .i64 x)]) (fun (x : Nat) (k : Nat) (s : AS) => [⟨g6, 24, [.int .i64 BW, .int .i64 BH, s.val k]⟩, ⟨g4, 24, [.int .i64 0, .int .i64 0, .slice none 0 0]⟩, ⟨g3, 57, [.int .i64 X, .int .i64 Y, .int .i64 BW, .int .i64 BH]⟩, ⟨g2, 24, [.int .i64 W, .int .i64 H, .slice A n c]⟩] ++ s.blks 4 (tab k (bv (cropF 10000 W H n f X Y BW)))) 0 k s ⟨by omega, by omega, hs⟩ ⟨rfl, rfl, rfl, rfl, rfl, rfl, trivial⟩ (by first | exact List.Sublist.refl _ | exact List.Sublist.cons _ (List.Sublist.refl _) | exact List.Sublist.cons _ (List.Sublist.cons _ (List.Sublist.refl _)) | exact List.Sublist.cons _ (List.Sublist.cons _ (List.Sublist.cons _ (List.Sublist.refl _))) | exact List.Sublist.cons_cons _ (List.Sublist.cons _ (List.Sublist.refl _))) ?_
        rintro x k s ⟨hx, hk, hs⟩
        have hyb := idx_bd (W := BW) (H := BH) (x := 0) (y := y) (by omega) (by omega) (by omega) (by omega)
        refine gc_seq ?_
        refine gc_seq ?_
        refine gc_region ?_
        refine ne (eo_mv rfl rfl) rfl ?_
        refine ne (eo_field rfl f57_2 rfl) rfl ?_
        refine ne (by first | exact eo_load 0 rfl s3 rfl rfl rfl rfl | exact eo_load 1 rfl s3 rfl rfl rfl rfl | exact eo_load 2 rfl s3 rfl rfl rfl rfl | exact eo_load 3 rfl s3 rfl rfl rfl rfl | exact eo_load 4 rfl s3 rfl rfl rfl rfl | exact eo_load 5 rfl s3 rfl rfl rfl rfl) rfl ?_
        refine ne (eo_lss rfl rfl rfl) rfl ?_
        refine go_nil ?_
        refine gq_next ?_
        refine gc_cond rfl (fun hc34 => ?_) (fun hc34 => ?_)
        ·
          replace hc34 := of_decide_eq_true hc34
          refine gc_skip ?_
          refine gq_next ?_
          refine gc_seq ?_
          refine gc_block ?_
          refine gc_draw [] [0, 1, 2, 3, 4, 5, 6, 7, 8, 9, 10, 11, 12, 13] [14] [15, 16, 17] (by kernel_rfl) (by kernel_rfl) ?_
          refine gp_nil ?_
          refine de rfl (eo_field rfl f24_2 rfl) rfl ?_
          refine de rfl (by first | exact eo_load 0 rfl s22 rfl rfl rfl rfl | exact eo_load 1 rfl s22 rfl rfl rfl rfl | exact eo_load 2 rfl s22 rfl rfl rfl rfl | exact eo_load 3 rfl s22 rfl rfl rfl rfl | exact eo_load 4 rfl s22 rfl rfl rfl rfl | exact eo_load 5 rfl s22 rfl rfl rfl rfl) rfl ?_
          refine de rfl (by first | exact eo_loadA 0 rfl a24 rfl rfl rfl rfl | exact eo_loadA 1 rfl a24 rfl rfl rfl rfl | exact eo_loadA 2 rfl a24 rfl rfl rfl rfl | exact eo_loadA 3 rfl a24 rfl rfl rfl rfl | exact eo_loadA 4 rfl a24 rfl rfl rfl rfl | exact eo_loadA 5 rfl a24 rfl rfl rfl rfl) rfl ?_
          refine de rfl (eo_field rfl f57_0 rfl) rfl ?_
          refine de rfl (by first | exact eo_load 0 rfl s3 rfl rfl rfl rfl | exact eo_load 1 rfl s3 rfl rfl rfl rfl | exact eo_load 2 rfl s3 rfl rfl rfl rfl | exact eo_load 3 rfl s3 rfl rfl rfl rfl | exact eo_load 4 rfl s3 rfl rfl rfl rfl | exact eo_load 5 rfl s3 rfl rfl rfl rfl) rfl ?_
          refine de rfl (eo_call rfl en47 rfl (fun W _ => rnear_c _ W)) rfl ?_
          refine de rfl (eo_mv rfl rfl) rfl ?_
          refine de rfl (eo_add rfl rfl rfl (by omega) (by omega)) rfl ?_
          refine de rfl (eo_field rfl f57_1 rfl) rfl ?_
          refine de rfl (by first | exact eo_load 0 rfl s3 rfl rfl rfl rfl | exact eo_load 1 rfl s3 rfl rfl rfl rfl | exact eo_load 2 rfl s3 rfl rfl rfl rfl | exact eo_load 3 rfl s3 rfl rfl rfl rfl | exact eo_load 4 rfl s3 rfl rfl rfl rfl | exact eo_load 5 rfl s3 rfl rfl rfl rfl) rfl ?_
          refine de rfl (eo_call rfl en47 rfl (fun W _ => rnear_c _ W)) rfl ?_
          refine de rfl (eo_mv rfl rfl) rfl ?_
          refine de rfl (eo_add rfl rfl rfl (by omega) (by omega)) rfl ?_
          refine de rfl (eo_call rfl en41 rfl (fun W hO => rat_c _ _ _ _ _ _ _ _ W (hr.old0 hO))) rfl ?_
          refine ge_nil ?_
          refine da rfl (xo_lit1 rfl Try.underlying22 e4 rfl rfl) rfl ?_
          rintro _ _ ⟨g51, rfl, rfl⟩
          refine ⟨(by first | exact List.Sublist.refl _ | exact List.Sublist.cons _ (List.Sublist.refl _) | exact List.Sublist.cons _ (List.Sublist.cons _ (List.Sublist.refl _)) | exact List.Sublist.cons _ (List.Sublist.cons _ (List.Sublist.cons _ (List.Sublist.refl _))) | exact List.Sublist.cons_cons _ (List.Sublist.cons _ (List.Sublist.refl _))), ?_⟩
          refine ga_nil ?_
          refine ix rfl (xo_app1b 5 rfl rfl Try.underlying22 e4 rfl hs rfl rfl (by unfold cropF; rw [(dm hk (by omega) (by omega)).1, (dm hk (by omega) (by omega)).2]) (by omega)) rfl ?_
          rintro _ _ ⟨s1, hs1, rfl, rfl⟩
          refine ie rfl (eo_field rfl f24_2 rfl) rfl ?_
          refine iu rfl (by first | exact xo_store 0 rfl s22 rfl rfl (by first | rfl | exact AS.one) rfl rfl (by simp) | exact xo_store 1 rfl s22 rfl rfl (by first | rfl | exact AS.one) rfl rfl (by simp) | exact xo_store 2 rfl s22 rfl rfl (by first | rfl | exact AS.one) rfl rfl (by simp) | exact xo_store 3 rfl s22 rfl rfl (by first | rfl | exact AS.one) rfl rfl (by simp) | exact xo_store 4 rfl s22 rfl rfl (by first | rfl | exact AS.one) rfl rfl (by simp) | exact xo_store 5 rfl s22 rfl rfl (by first | rfl | exact AS.one) rfl rfl (by simp)) ?_
          rintro _ _ ⟨rfl, rfl⟩
          refine gi_nil ?_
          refine gq_nq ?_
          refine gq_block_end ?_
          refine gq_next ?_
          refine gc_region ?_
          refine ne (eo_mv rfl rfl) rfl ?_
          refine ne (eo_add rfl rfl rfl (by omega) (by omega)) rfl ?_
          refine ne (eo_as rfl rfl) rfl ?_
          refine go_nil ?_
          exact round3 (x + 1) (k + 1) s1 ⟨by omega, by push_cast; omega, hs1⟩ (by omega) ⟨rfl, rfl, rfl, rfl, rfl, rfl, trivial⟩ (by first | exact List.Sublist.refl _ | exact List.Sublist.cons _ (List.Sublist.refl _) | exact List.Sublist.cons _ (List.Sublist.cons _ (List.Sublist.refl _)) | exact List.Sublist.cons _ (List.Sublist.cons _ (List.Sublist.cons _ (List.Sublist.refl _))) | exact List.Sublist.cons_cons _ (List.Sublist.cons _ (List.Sublist.refl _)))
        ·
          replace hc34 := of_decide_eq_false hc34
          refine gc_exit ?_
          refine gq_then_exit ?_
          refine gq_then_exit ?_
          refine gq_block_hit ?_
          refine gq_block_end ?_
          refine gq_next ?_
          refine gc_region ?_
          refine ne (eo_mv rfl rfl) rfl ?_
          refine ne (eo_add rfl rfl rfl (by omega) (by omega)) rfl ?_
          refine ne (eo_as rfl rfl) rfl ?_
          refine go_nil ?_
          exact round3 (y + 1) k s ⟨by omega, by rw [hk]; push_cast; rw [add1_mul]; omega, hs⟩ (by omega) ⟨rfl, rfl, rfl, rfl, rfl, trivial⟩ (by first | exact List.Sublist.refl _ | exact List.Sublist.cons _ (List.Sublist.refl _) | exact List.Sublist.cons _ (List.Sublist.cons _ (List.Sublist.refl _)) | exact List.Sublist.cons _ (List.Sublist.cons _ (List.Sublist.cons _ (List.Sublist.refl _))) | exact List.Sublist.cons_cons _ (List.Sublist.cons _ (List.Sublist.refl _)))
      ·
        replace hc28 := of_decide_eq_false hc28
        have hye : (y : Int) = BH := by omega
        rw [hye, Int.mul_comm] at hk
        refine gc_exit ?_
        refine gq_then_exit ?_
        refine gq_then_exit ?_
        refine gq_block_hit ?_
        refine gq_next ?_
        refine gc_seq ?_
        refine gc_region ?_
        refine ne (by first | exact eo_loadA 0 rfl a24 rfl rfl rfl rfl | exact eo_loadA 1 rfl a24 rfl rfl rfl rfl | exact eo_loadA 2 rfl a24 rfl rfl rfl rfl | exact eo_loadA 3 rfl a24 rfl rfl rfl rfl | exact eo_loadA 4 rfl a24 rfl rfl rfl rfl | exact eo_loadA 5 rfl a24 rfl rfl rfl rfl) rfl ?_
        refine nu (by first | exact xo_storeA 0 rfl a24 rfl rfl (ones_cons (by first | rfl | exact AS.one) (ones_cons (by first | rfl | exact AS.one) (ones_cons (by first | rfl | exact AS.one) ones_nil))) rfl rfl rfl rfl | exact xo_storeA 1 rfl a24 rfl rfl (ones_cons (by first | rfl | exact AS.one) (ones_cons (by first | rfl | exact AS.one) (ones_cons (by first | rfl | exact AS.one) ones_nil))) rfl rfl rfl rfl | exact xo_storeA 2 rfl a24 rfl rfl (ones_cons (by first | rfl | exact AS.one) (ones_cons (by first | rfl | exact AS.one) (ones_cons (by first | rfl | exact AS.one) ones_nil))) rfl rfl rfl rfl | exact xo_storeA 3 rfl a24 rfl rfl (ones_cons (by first | rfl | exact AS.one) (ones_cons (by first | rfl | exact AS.one) (ones_cons (by first | rfl | exact AS.one) ones_nil))) rfl rfl rfl rfl | exact xo_storeA 4 rfl a24 rfl rfl (ones_cons (by first | rfl | exact AS.one) (ones_cons (by first | rfl | exact AS.one) (ones_cons (by first | rfl | exact AS.one) ones_nil))) rfl rfl rfl rfl | exact xo_storeA 5 rfl a24 rfl rfl (ones_cons (by first | rfl | exact AS.one) (ones_cons (by first | rfl | exact AS.one) (ones_cons (by first | rfl | exact AS.one) ones_nil))) rfl rfl rfl rfl) ?_
        rintro _ _ ⟨rfl, rfl⟩
        refine ne (eo_as rfl rfl) rfl ?_
        refine go_nil ?_
        refine gq_next ?_
        refine gc_ret ?_
        refine gq_results (by first | exact resCT 0 rfl a24 rfl rfl rfl rfl rfl | exact resCT 1 rfl a24 rfl rfl rfl rfl rfl | exact resCT 2 rfl a24 rfl rfl rfl rfl rfl | exact resCT 3 rfl a24 rfl rfl rfl rfl rfl | exact resCT 4 rfl a24 rfl rfl rfl rfl rfl | exact resCT 5 rfl a24 rfl rfl rfl rfl rfl) ?_
        exact fun W' hO => re_of_as 4 hO rfl hs (by omega) (by omega)

/-- barscan/barscanref31.Crop -/
theorem rcrop_arg (X Y BW BH W H : Int) (A : Option Addr) (n c : Nat) (f : Nat → Bool) (w : World) (_hr : Rd w A (tab n (bv f))) (hv : vldB W H n = false) :
    Calls Try.prog 38 #[.agg #[.int .i64 W, .int .i64 H, .slice A n c], .agg #[.int .i64 X, .int .i64 Y, .int .i64 BW, .int .i64 BH]] w fun e w' => e = .returned (noM 1) ∧ Ext w w' := by
  refine calls_enter (N := ⟨55, []⟩) ([]) ([]) Try.func38 rfl rfl rfl (Ow.start _) ?_
  refine gc_seq ?_
  refine gc_region ?_
  refine nx (xo_boxA rfl rfl) rfl ?_
  rintro _ _ ⟨g2, rfl, rfl⟩
  refine nx (xo_boxA rfl rfl) rfl ?_
  rintro _ _ ⟨g3, rfl, rfl⟩
  refine nx (xo_alloc rfl z24) rfl ?_
  rintro _ _ ⟨g4, rfl, rfl⟩
  refine ne (eo_as rfl rfl) rfl ?_
  refine go_nil ?_
  refine gq_next ?_
  refine gc_seq ?_
  refine gc_seq ?_
  refine gc_region ?_
  refine ne (by first | exact eo_loadA 0 rfl a24 rfl rfl rfl rfl | exact eo_loadA 1 rfl a24 rfl rfl rfl rfl | exact eo_loadA 2 rfl a24 rfl rfl rfl rfl | exact eo_loadA 3 rfl a24 rfl rfl rfl rfl | exact eo_loadA 4 rfl a24 rfl rfl rfl rfl | exact eo_loadA 5 rfl a24 rfl rfl rfl rfl) rfl ?_
  refine ne (eo_call rfl en40 rfl (fun W _ => valid_c _ _ _ _ _ W)) rfl ?_
  refine ne (eo_not rfl rfl) rfl ?_
  refine go_nil ?_
  refine gq_next ?_
  refine gc_cond rfl (fun hc11 => ?_) (fun hc11 => ?_)
  ·
    refine gc_seq ?_
    refine gc_region ?_
    refine ne (eo_build rfl rfl (b24_)) rfl ?_
    refine nu (by first | exact xo_storeA 0 rfl a24 rfl rfl (ones_cons (by first | rfl | exact AS.one) (ones_cons (by first | rfl | exact AS.one) (ones_cons (by first | rfl | exact AS.one) ones_nil))) rfl rfl rfl rfl | exact xo_storeA 1 rfl a24 rfl rfl (ones_cons (by first | rfl | exact AS.one) (ones_cons (by first | rfl | exact AS.one) (ones_cons (by first | rfl | exact AS.one) ones_nil))) rfl rfl rfl rfl | exact xo_storeA 2 rfl a24 rfl rfl (ones_cons (by first | rfl | exact AS.one) (ones_cons (by first | rfl | exact AS.one) (ones_cons (by first | rfl | exact AS.one) ones_nil))) rfl rfl rfl rfl | exact xo_storeA 3 rfl a24 rfl rfl (ones_cons (by first | rfl | exact AS.one) (ones_cons (by first | rfl | exact AS.one) (ones_cons (by first | rfl | exact AS.one) ones_nil))) rfl rfl rfl rfl | exact xo_storeA 4 rfl a24 rfl rfl (ones_cons (by first | rfl | exact AS.one) (ones_cons (by first | rfl | exact AS.one) (ones_cons (by first | rfl | exact AS.one) ones_nil))) rfl rfl rfl rfl | exact xo_storeA 5 rfl a24 rfl rfl (ones_cons (by first | rfl | exact AS.one) (ones_cons (by first | rfl | exact AS.one) (ones_cons (by first | rfl | exact AS.one) ones_nil))) rfl rfl rfl rfl) ?_
    rintro _ _ ⟨rfl, rfl⟩
    refine ne (eo_as rfl rfl) rfl ?_
    refine go_nil ?_
    refine gq_next ?_
    refine gc_ret ?_
    refine gq_then_ret ?_
    refine gq_results (by first | exact resCT 0 rfl a24 rfl rfl rfl rfl rfl | exact resCT 1 rfl a24 rfl rfl rfl rfl rfl | exact resCT 2 rfl a24 rfl rfl rfl rfl rfl | exact resCT 3 rfl a24 rfl rfl rfl rfl rfl | exact resCT 4 rfl a24 rfl rfl rfl rfl rfl | exact resCT 5 rfl a24 rfl rfl rfl rfl rfl) ?_
    exact fun W hO => ⟨rfl, hO.toExt⟩
  ·
    exact absurd hv (by simpa using hc11)

/-- barscan/barscanref31.Crop -/
theorem rcrop_size (X Y BW BH W H : Int) (A : Option Addr) (n c : Nat) (f : Nat → Bool) (w : World) (_hr : Rd w A (tab n (bv f))) (hv : vldB W H n = true) (hf : fitsB BW BH = false) :
    Calls Try.prog 38 #[.agg #[.int .i64 W, .int .i64 H, .slice A n c], .agg #[.int .i64 X, .int .i64 Y, .int .i64 BW, .int .i64 BH]] w fun e w' => e = .returned (noM 23) ∧ Ext w w' := by
  refine calls_enter (N := ⟨55, []⟩) ([]) ([]) Try.func38 rfl rfl rfl (Ow.start _) ?_
  refine gc_seq ?_
  refine gc_region ?_
  refine nx (xo_boxA rfl rfl) rfl ?_
  rintro _ _ ⟨g2, rfl, rfl⟩
  refine nx (xo_boxA rfl rfl) rfl ?_
  rintro _ _ ⟨g3, rfl, rfl⟩
  refine nx (xo_alloc rfl z24) rfl ?_
  rintro _ _ ⟨g4, rfl, rfl⟩
  refine ne (eo_as rfl rfl) rfl ?_
  refine go_nil ?_
  refine gq_next ?_
  refine gc_seq ?_
  refine gc_seq ?_
  refine gc_region ?_
  refine ne (by first | exact eo_loadA 0 rfl a24 rfl rfl rfl rfl | exact eo_loadA 1 rfl a24 rfl rfl rfl rfl | exact eo_loadA 2 rfl a24 rfl rfl rfl rfl | exact eo_loadA 3 rfl a24 rfl rfl rfl rfl | exact eo_loadA 4 rfl a24 rfl rfl rfl rfl | exact eo_loadA 5 rfl a24 rfl rfl rfl rfl) rfl ?_
  refine ne (eo_call rfl en40 rfl (fun W _ => valid_c _ _ _ _ _ W)) rfl ?_
  refine ne (eo_not rfl rfl) rfl ?_
  refine go_nil ?_
  refine gq_next ?_
  refine gc_cond rfl (fun hc11 => ?_) (fun hc11 => ?_)
  ·
    exact absurd hv (by simpa using hc11)
  ·
    refine gc_skip ?_
    refine gq_next ?_
    refine gc_seq ?_
    refine gc_seq ?_
    refine gc_region ?_
    refine ne (eo_field rfl f57_2 rfl) rfl ?_
    refine ne (by first | exact eo_load 0 rfl s3 rfl rfl rfl rfl | exact eo_load 1 rfl s3 rfl rfl rfl rfl | exact eo_load 2 rfl s3 rfl rfl rfl rfl | exact eo_load 3 rfl s3 rfl rfl rfl rfl | exact eo_load 4 rfl s3 rfl rfl rfl rfl | exact eo_load 5 rfl s3 rfl rfl rfl rfl) rfl ?_
    refine ne (eo_field rfl f57_3 rfl) rfl ?_
    refine ne (by first | exact eo_load 0 rfl s3 rfl rfl rfl rfl | exact eo_load 1 rfl s3 rfl rfl rfl rfl | exact eo_load 2 rfl s3 rfl rfl rfl rfl | exact eo_load 3 rfl s3 rfl rfl rfl rfl | exact eo_load 4 rfl s3 rfl rfl rfl rfl | exact eo_load 5 rfl s3 rfl rfl rfl rfl) rfl ?_
    refine ne (eo_call rfl en45 rfl (fun W _ => fits_c _ _ W)) rfl ?_
    refine ne (eo_not rfl rfl) rfl ?_
    refine go_nil ?_
    refine gq_next ?_
    refine gc_cond rfl (fun hc18 => ?_) (fun hc18 => ?_)
    ·
      refine gc_seq ?_
      refine gc_region ?_
      refine ne (eo_build rfl rfl (b24_)) rfl ?_
      refine nu (by first | exact xo_storeA 0 rfl a24 rfl rfl (ones_cons (by first | rfl | exact AS.one) (ones_cons (by first | rfl | exact AS.one) (ones_cons (by first | rfl | exact AS.one) ones_nil))) rfl rfl rfl rfl | exact xo_storeA 1 rfl a24 rfl rfl (ones_cons (by first | rfl | exact AS.one) (ones_cons (by first | rfl | exact AS.one) (ones_cons (by first | rfl | exact AS.one) ones_nil))) rfl rfl rfl rfl | exact xo_storeA 2 rfl a24 rfl rfl (ones_cons (by first | rfl | exact AS.one) (ones_cons (by first | rfl | exact AS.one) (ones_cons (by first | rfl | exact AS.one) ones_nil))) rfl rfl rfl rfl | exact xo_storeA 3 rfl a24 rfl rfl (ones_cons (by first | rfl | exact AS.one) (ones_cons (by first | rfl | exact AS.one) (ones_cons (by first | rfl | exact AS.one) ones_nil))) rfl rfl rfl rfl | exact xo_storeA 4 rfl a24 rfl rfl (ones_cons (by first | rfl | exact AS.one) (ones_cons (by first | rfl | exact AS.one) (ones_cons (by first | rfl | exact AS.one) ones_nil))) rfl rfl rfl rfl | exact xo_storeA 5 rfl a24 rfl rfl (ones_cons (by first | rfl | exact AS.one) (ones_cons (by first | rfl | exact AS.one) (ones_cons (by first | rfl | exact AS.one) ones_nil))) rfl rfl rfl rfl) ?_
      rintro _ _ ⟨rfl, rfl⟩
      refine ne (eo_as rfl rfl) rfl ?_
      refine go_nil ?_
      refine gq_next ?_
      refine gc_ret ?_
      refine gq_then_ret ?_
      refine gq_results (by first | exact resCT 0 rfl a24 rfl rfl rfl rfl rfl | exact resCT 1 rfl a24 rfl rfl rfl rfl rfl | exact resCT 2 rfl a24 rfl rfl rfl rfl rfl | exact resCT 3 rfl a24 rfl rfl rfl rfl rfl | exact resCT 4 rfl a24 rfl rfl rfl rfl rfl | exact resCT 5 rfl a24 rfl rfl rfl rfl rfl) ?_
      exact fun W hO => ⟨rfl, hO.toExt⟩
    ·
      exact absurd hf (by simpa using hc18)

theorem rcrop_x (W H : Int) (A : Option Addr) (n c : Nat) (f : Nat → Bool) (X Y BW BH : Int) (w : World) (hr : Rd w A (tab n (bv f))) :
    Calls Try.prog 38 #[.agg #[.int .i64 W, .int .i64 H, .slice A n c], .agg #[.int .i64 X, .int .i64 Y, .int .i64 BW, .int .i64 BH]] w (fun e w' => ∃ v Hn, e = .returned v ∧ RX (cropR ⟨W, H, n, f⟩ X Y BW BH) v Hn ∧ Ow [] w w' Hn) := by
  cases hv : vldB W H n
  · exact (rcrop_arg X Y BW BH W H A n c f w hr hv).mono fun e w1 ⟨he, hx⟩ => rx_no he hx (cropR_no hv)
  · cases hf : fitsB BW BH
    · exact (rcrop_size X Y BW BH W H A n c f w hr hv hf).mono fun e w1 ⟨he, hx⟩ => rx_no he hx (cropR_size hv hf)
    · exact (rcrop_ok X Y BW BH W H A n c f w hr hv hf).mono fun e w1 ⟨v, Hn, he, hR, hO⟩ => ⟨v, Hn, he, re_rx' hR (cropR_ok hv hf) (fun j hj => rfl), hO⟩

end Go.Proofs.Ytmgkpdpmjhgekaa
