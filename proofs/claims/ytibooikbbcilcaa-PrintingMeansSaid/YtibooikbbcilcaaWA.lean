/-
  The walks of the functions of package printing and of the document's answer (part A): what each call returns, at every argument.
-/
import Derived.Test.YtibooikbbcilcaaProg
import Derived.Test.YtibooikbbcilcaaRe
namespace Go.Proofs.Ytibooikbbcilcaa
open Go.RowKit Go.Eng

open Go.Bs
theorem f33_0 : FieldAt Try.prog 33 0 0 := ⟨_, _, 0, Try.underlying33, rfl, by kernel_rfl, rfl⟩
theorem s3 : TyS Try.prog 3 := ⟨⟨_, Try.underlying3, rfl⟩, by kernel_rfl⟩
theorem f33_1 : FieldAt Try.prog 33 1 1 := ⟨_, _, 0, Try.underlying33, rfl, by kernel_rfl, rfl⟩
theorem en51 : Ent Try.prog 51 := ent_of Try.func51 (by kernel_rfl) rfl
theorem f33_2 : FieldAt Try.prog 33 2 2 := ⟨_, _, 0, Try.underlying33, rfl, by kernel_rfl, rfl⟩
theorem s31 : TyS Try.prog 31 := ⟨⟨_, Try.underlying31, rfl⟩, by kernel_rfl⟩
theorem f24_0 : FieldAt Try.prog 24 0 0 := ⟨_, _, 0, Try.underlying24, rfl, by kernel_rfl, rfl⟩
theorem f24_1 : FieldAt Try.prog 24 1 1 := ⟨_, _, 0, Try.underlying24, rfl, by kernel_rfl, rfl⟩
theorem f24_2 : FieldAt Try.prog 24 2 2 := ⟨_, _, 0, Try.underlying24, rfl, by kernel_rfl, rfl⟩
theorem s22 : TyS Try.prog 22 := ⟨⟨_, Try.underlying22, rfl⟩, by kernel_rfl⟩
theorem en52 : Ent Try.prog 52 := ent_of Try.func52 (by kernel_rfl) rfl
theorem sl31 : TySl Try.prog 31 4 1 := ⟨Try.underlying31, by kernel_rfl⟩
theorem s4 : TyS Try.prog 4 := ⟨⟨_, Try.underlying4, rfl⟩, by kernel_rfl⟩
theorem a33 : TyA Try.prog 33 3 := ⟨⟨_, Try.underlying33, rfl⟩, by kernel_rfl⟩
theorem en41 : Ent Try.prog 41 := ent_of Try.func41 (by kernel_rfl) rfl
theorem sl22 : TySl Try.prog 22 5 1 := ⟨Try.underlying22, by kernel_rfl⟩
theorem s5 : TyS Try.prog 5 := ⟨⟨_, Try.underlying5, rfl⟩, by kernel_rfl⟩

/-- barscan/raster.possible -/
theorem possible_c (a b : Int) (w : World) :
    Calls Try.prog 51 #[.int .i64 a, .int .i64 b] w fun e w' => e = .returned (.bool (fitsB a b)) ∧ Ext w w' := by
  refine calls_enter (N := ⟨25, []⟩) ([]) ([]) Try.func51 rfl rfl rfl (Ow.start _) ?_
  refine gc_seq ?_
  refine gc_region ?_
  refine ne (eo_as rfl rfl) rfl ?_
  refine go_nil ?_
  refine gq_next ?_
  refine gc_seq ?_
  refine gc_region ?_
  refine ne (eo_mv rfl rfl) rfl ?_
  refine ne (eo_geq rfl rfl rfl) rfl ?_
  refine ne (eo_mv rfl rfl) rfl ?_
  refine ng rfl rfl (fun h => eo_mv rfl rfl) rfl ?_
  refine ng rfl rfl (fun h => eo_leq rfl (ev_if h rfl) rfl) rfl ?_
  refine ne (eo_and rfl rfl (fun hb => ev_if hb rfl)) rfl ?_
  refine ne (eo_mv rfl rfl) rfl ?_
  refine ng rfl rfl (fun h => eo_mv rfl rfl) rfl ?_
  refine ng rfl rfl (fun h => eo_geq rfl (ev_if h rfl) rfl) rfl ?_
  refine ne (eo_and rfl rfl (fun hb => ev_if hb rfl)) rfl ?_
  refine ne (eo_mv rfl rfl) rfl ?_
  refine ng rfl rfl (fun h => eo_mv rfl rfl) rfl ?_
  refine ng rfl rfl (fun h => eo_leq rfl (ev_if h rfl) rfl) rfl ?_
  refine ne (eo_and rfl rfl (fun hb => ev_if hb rfl)) rfl ?_
  refine ne (eo_mv rfl rfl) rfl ?_
  refine ng rfl rfl (fun h => eo_mv rfl rfl) rfl ?_
  refine ng rfl rfl (fun h => eo_mv rfl rfl) rfl ?_
  refine ng rfl rfl (fun h => eo_mul rfl (ev_if h rfl) (ev_if h rfl) (mul_lo h) (mul_hi h)) rfl ?_
  refine ng rfl rfl (fun h => eo_leq rfl (ev_if h rfl) rfl) rfl ?_
  refine ne (eo_and rfl rfl (fun hb => ev_if hb rfl)) rfl ?_
  refine ne (eo_as rfl rfl) rfl ?_
  refine go_nil ?_
  refine gq_next ?_
  refine gc_ret ?_
  refine gq_results (res1 rfl rfl) ?_
  exact fun W hO => ⟨ret_bool (by simp [fitsB, Bool.and_assoc]), hO.toExt⟩

/-- barscan/barscanref31.fits -/
theorem fits_c (a b : Int) (w : World) :
    Calls Try.prog 52 #[.int .i64 a, .int .i64 b] w fun e w' => e = .returned (.bool (fitsB a b)) ∧ Ext w w' := by
  refine calls_enter (N := ⟨25, []⟩) ([]) ([]) Try.func52 rfl rfl rfl (Ow.start _) ?_
  refine gc_seq ?_
  refine gc_region ?_
  refine ne (eo_as rfl rfl) rfl ?_
  refine go_nil ?_
  refine gq_next ?_
  refine gc_seq ?_
  refine gc_region ?_
  refine ne (eo_mv rfl rfl) rfl ?_
  refine ne (eo_geq rfl rfl rfl) rfl ?_
  refine ne (eo_mv rfl rfl) rfl ?_
  refine ng rfl rfl (fun h => eo_mv rfl rfl) rfl ?_
  refine ng rfl rfl (fun h => eo_leq rfl (ev_if h rfl) rfl) rfl ?_
  refine ne (eo_and rfl rfl (fun hb => ev_if hb rfl)) rfl ?_
  refine ne (eo_mv rfl rfl) rfl ?_
  refine ng rfl rfl (fun h => eo_mv rfl rfl) rfl ?_
  refine ng rfl rfl (fun h => eo_geq rfl (ev_if h rfl) rfl) rfl ?_
  refine ne (eo_and rfl rfl (fun hb => ev_if hb rfl)) rfl ?_
  refine ne (eo_mv rfl rfl) rfl ?_
  refine ng rfl rfl (fun h => eo_mv rfl rfl) rfl ?_
  refine ng rfl rfl (fun h => eo_leq rfl (ev_if h rfl) rfl) rfl ?_
  refine ne (eo_and rfl rfl (fun hb => ev_if hb rfl)) rfl ?_
  refine ne (eo_mv rfl rfl) rfl ?_
  refine ng rfl rfl (fun h => eo_mv rfl rfl) rfl ?_
  refine ng rfl rfl (fun h => eo_mv rfl rfl) rfl ?_
  refine ng rfl rfl (fun h => eo_mul rfl (ev_if h rfl) (ev_if h rfl) (mul_lo h) (mul_hi h)) rfl ?_
  refine ng rfl rfl (fun h => eo_leq rfl (ev_if h rfl) rfl) rfl ?_
  refine ne (eo_and rfl rfl (fun hb => ev_if hb rfl)) rfl ?_
  refine ne (eo_as rfl rfl) rfl ?_
  refine go_nil ?_
  refine gq_next ?_
  refine gc_ret ?_
  refine gq_results (res1 rfl rfl) ?_
  exact fun W hO => ⟨ret_bool (by simp [fitsB, Bool.and_assoc]), hO.toExt⟩

/-- barscan/printing.possible -/
theorem pposs_c (a b : Int) (w : World) :
    Calls Try.prog 37 #[.int .i64 a, .int .i64 b] w fun e w' => e = .returned (.bool (fitsB a b)) ∧ Ext w w' := by
  refine calls_enter (N := ⟨25, []⟩) ([]) ([]) Try.func37 rfl rfl rfl (Ow.start _) ?_
  refine gc_seq ?_
  refine gc_region ?_
  refine ne (eo_as rfl rfl) rfl ?_
  refine go_nil ?_
  refine gq_next ?_
  refine gc_seq ?_
  refine gc_region ?_
  refine ne (eo_mv rfl rfl) rfl ?_
  refine ne (eo_geq rfl rfl rfl) rfl ?_
  refine ne (eo_mv rfl rfl) rfl ?_
  refine ng rfl rfl (fun h => eo_mv rfl rfl) rfl ?_
  refine ng rfl rfl (fun h => eo_leq rfl (ev_if h rfl) rfl) rfl ?_
  refine ne (eo_and rfl rfl (fun hb => ev_if hb rfl)) rfl ?_
  refine ne (eo_mv rfl rfl) rfl ?_
  refine ng rfl rfl (fun h => eo_mv rfl rfl) rfl ?_
  refine ng rfl rfl (fun h => eo_geq rfl (ev_if h rfl) rfl) rfl ?_
  refine ne (eo_and rfl rfl (fun hb => ev_if hb rfl)) rfl ?_
  refine ne (eo_mv rfl rfl) rfl ?_
  refine ng rfl rfl (fun h => eo_mv rfl rfl) rfl ?_
  refine ng rfl rfl (fun h => eo_leq rfl (ev_if h rfl) rfl) rfl ?_
  refine ne (eo_and rfl rfl (fun hb => ev_if hb rfl)) rfl ?_
  refine ne (eo_mv rfl rfl) rfl ?_
  refine ng rfl rfl (fun h => eo_mv rfl rfl) rfl ?_
  refine ng rfl rfl (fun h => eo_mv rfl rfl) rfl ?_
  refine ng rfl rfl (fun h => eo_mul rfl (ev_if h rfl) (ev_if h rfl) (mul_lo h) (mul_hi h)) rfl ?_
  refine ng rfl rfl (fun h => eo_leq rfl (ev_if h rfl) rfl) rfl ?_
  refine ne (eo_and rfl rfl (fun hb => ev_if hb rfl)) rfl ?_
  refine ne (eo_as rfl rfl) rfl ?_
  refine go_nil ?_
  refine gq_next ?_
  refine gc_ret ?_
  refine gq_results (res1 rfl rfl) ?_
  exact fun W hO => ⟨ret_bool (by simp [fitsB, Bool.and_assoc]), hO.toExt⟩

/-- barscan/raster.Check -/
theorem check_c (W H : Int) (A : Option Addr) (n c : Nat) (w : World) :
    Calls Try.prog 35 #[.agg #[.int .i64 W, .int .i64 H, .slice A n c]] w fun e w' => e = .returned (.int .i64 (chk W H n)) ∧ Ext w w' := by
  refine calls_enter (N := ⟨20, []⟩) ([]) ([]) Try.func35 rfl rfl rfl (Ow.start _) ?_
  refine gc_seq ?_
  refine gc_region ?_
  refine nx (xo_boxA rfl rfl) rfl ?_
  rintro _ _ ⟨g1, rfl, rfl⟩
  refine ne (eo_as rfl rfl) rfl ?_
  refine go_nil ?_
  refine gq_next ?_
  refine gc_seq ?_
  refine gc_seq ?_
  refine gc_region ?_
  refine ne (eo_field rfl f33_0 rfl) rfl ?_
  refine ne (by first | exact eo_load 0 rfl s3 rfl rfl rfl rfl | exact eo_load 1 rfl s3 rfl rfl rfl rfl | exact eo_load 2 rfl s3 rfl rfl rfl rfl | exact eo_load 3 rfl s3 rfl rfl rfl rfl | exact eo_load 4 rfl s3 rfl rfl rfl rfl | exact eo_load 5 rfl s3 rfl rfl rfl rfl) rfl ?_
  refine ne (eo_field rfl f33_1 rfl) rfl ?_
  refine ne (by first | exact eo_load 0 rfl s3 rfl rfl rfl rfl | exact eo_load 1 rfl s3 rfl rfl rfl rfl | exact eo_load 2 rfl s3 rfl rfl rfl rfl | exact eo_load 3 rfl s3 rfl rfl rfl rfl | exact eo_load 4 rfl s3 rfl rfl rfl rfl | exact eo_load 5 rfl s3 rfl rfl rfl rfl) rfl ?_
  refine ne (eo_call rfl en51 rfl (fun W _ => possible_c _ _ W)) rfl ?_
  refine ne (eo_not rfl rfl) rfl ?_
  refine ne (eo_mv rfl rfl) rfl ?_
  refine ng rfl rfl (fun h => eo_field rfl f33_2 rfl) rfl ?_
  refine ng rfl rfl (fun h => by first | exact eo_load 0 rfl s31 (ev_if h rfl) rfl rfl rfl | exact eo_load 1 rfl s31 (ev_if h rfl) rfl rfl rfl | exact eo_load 2 rfl s31 (ev_if h rfl) rfl rfl rfl | exact eo_load 3 rfl s31 (ev_if h rfl) rfl rfl rfl | exact eo_load 4 rfl s31 (ev_if h rfl) rfl rfl rfl | exact eo_load 5 rfl s31 (ev_if h rfl) rfl rfl rfl) rfl ?_
  refine ng rfl rfl (fun h => eo_len rfl Try.underlying31 (ev_if h rfl)) rfl ?_
  refine ng rfl rfl (fun h => eo_field rfl f33_0 rfl) rfl ?_
  refine ng rfl rfl (fun h => by first | exact eo_load 0 rfl s3 (ev_if h rfl) rfl rfl rfl | exact eo_load 1 rfl s3 (ev_if h rfl) rfl rfl rfl | exact eo_load 2 rfl s3 (ev_if h rfl) rfl rfl rfl | exact eo_load 3 rfl s3 (ev_if h rfl) rfl rfl rfl | exact eo_load 4 rfl s3 (ev_if h rfl) rfl rfl rfl | exact eo_load 5 rfl s3 (ev_if h rfl) rfl rfl rfl) rfl ?_
  refine ng rfl rfl (fun h => eo_field rfl f33_1 rfl) rfl ?_
  refine ng rfl rfl (fun h => by first | exact eo_load 0 rfl s3 (ev_if h rfl) rfl rfl rfl | exact eo_load 1 rfl s3 (ev_if h rfl) rfl rfl rfl | exact eo_load 2 rfl s3 (ev_if h rfl) rfl rfl rfl | exact eo_load 3 rfl s3 (ev_if h rfl) rfl rfl rfl | exact eo_load 4 rfl s3 (ev_if h rfl) rfl rfl rfl | exact eo_load 5 rfl s3 (ev_if h rfl) rfl rfl rfl) rfl ?_
  refine ng rfl rfl (fun h => eo_mul rfl (ev_if h rfl) (ev_if h rfl) (nfits_lo h) (nfits_hi h)) rfl ?_
  refine ng rfl rfl (fun h => eo_neq rfl (ev_if h rfl) (ev_if h rfl)) rfl ?_
  refine ne (eo_or rfl rfl (fun hb => ev_if hb rfl)) rfl ?_
  refine go_nil ?_
  refine gq_next ?_
  refine gc_cond rfl (fun hc19 => ?_) (fun hc19 => ?_)
  ·
    refine gc_seq ?_
    refine gc_region ?_
    refine ne (eo_as rfl rfl) rfl ?_
    refine go_nil ?_
    refine gq_next ?_
    refine gc_ret ?_
    refine gq_then_ret ?_
    refine gq_results (res1 rfl rfl) ?_
    first
      | exact fun W' hO => ⟨ret_int (chk_no (vld_no hc19)).symm, hO.toExt⟩
      | exact fun W' hO => ⟨ret_int (chk_ok (vld_yes hc19)).symm, hO.toExt⟩
  ·
    refine gc_skip ?_
    refine gq_next ?_
    refine gc_seq ?_
    refine gc_region ?_
    refine ne (eo_as rfl rfl) rfl ?_
    refine go_nil ?_
    refine gq_next ?_
    refine gc_ret ?_
    refine gq_results (res1 rfl rfl) ?_
    first
      | exact fun W' hO => ⟨ret_int (chk_no (vld_no hc19)).symm, hO.toExt⟩
      | exact fun W' hO => ⟨ret_int (chk_ok (vld_yes hc19)).symm, hO.toExt⟩

/-- barscan/raster.CheckImage -/
theorem checkim_c (W H : Int) (A : Option Addr) (n c : Nat) (w : World) :
    Calls Try.prog 30 #[.agg #[.int .i64 W, .int .i64 H, .slice A n c]] w fun e w' => e = .returned (.int .i64 (chk W H n)) ∧ Ext w w' := by
  refine calls_enter (N := ⟨20, []⟩) ([]) ([]) Try.func30 rfl rfl rfl (Ow.start _) ?_
  refine gc_seq ?_
  refine gc_region ?_
  refine nx (xo_boxA rfl rfl) rfl ?_
  rintro _ _ ⟨g1, rfl, rfl⟩
  refine ne (eo_as rfl rfl) rfl ?_
  refine go_nil ?_
  refine gq_next ?_
  refine gc_seq ?_
  refine gc_seq ?_
  refine gc_region ?_
  refine ne (eo_field rfl f24_0 rfl) rfl ?_
  refine ne (by first | exact eo_load 0 rfl s3 rfl rfl rfl rfl | exact eo_load 1 rfl s3 rfl rfl rfl rfl | exact eo_load 2 rfl s3 rfl rfl rfl rfl | exact eo_load 3 rfl s3 rfl rfl rfl rfl | exact eo_load 4 rfl s3 rfl rfl rfl rfl | exact eo_load 5 rfl s3 rfl rfl rfl rfl) rfl ?_
  refine ne (eo_field rfl f24_1 rfl) rfl ?_
  refine ne (by first | exact eo_load 0 rfl s3 rfl rfl rfl rfl | exact eo_load 1 rfl s3 rfl rfl rfl rfl | exact eo_load 2 rfl s3 rfl rfl rfl rfl | exact eo_load 3 rfl s3 rfl rfl rfl rfl | exact eo_load 4 rfl s3 rfl rfl rfl rfl | exact eo_load 5 rfl s3 rfl rfl rfl rfl) rfl ?_
  refine ne (eo_call rfl en51 rfl (fun W _ => possible_c _ _ W)) rfl ?_
  refine ne (eo_not rfl rfl) rfl ?_
  refine ne (eo_mv rfl rfl) rfl ?_
  refine ng rfl rfl (fun h => eo_field rfl f24_2 rfl) rfl ?_
  refine ng rfl rfl (fun h => by first | exact eo_load 0 rfl s22 (ev_if h rfl) rfl rfl rfl | exact eo_load 1 rfl s22 (ev_if h rfl) rfl rfl rfl | exact eo_load 2 rfl s22 (ev_if h rfl) rfl rfl rfl | exact eo_load 3 rfl s22 (ev_if h rfl) rfl rfl rfl | exact eo_load 4 rfl s22 (ev_if h rfl) rfl rfl rfl | exact eo_load 5 rfl s22 (ev_if h rfl) rfl rfl rfl) rfl ?_
  refine ng rfl rfl (fun h => eo_len rfl Try.underlying22 (ev_if h rfl)) rfl ?_
  refine ng rfl rfl (fun h => eo_field rfl f24_0 rfl) rfl ?_
  refine ng rfl rfl (fun h => by first | exact eo_load 0 rfl s3 (ev_if h rfl) rfl rfl rfl | exact eo_load 1 rfl s3 (ev_if h rfl) rfl rfl rfl | exact eo_load 2 rfl s3 (ev_if h rfl) rfl rfl rfl | exact eo_load 3 rfl s3 (ev_if h rfl) rfl rfl rfl | exact eo_load 4 rfl s3 (ev_if h rfl) rfl rfl rfl | exact eo_load 5 rfl s3 (ev_if h rfl) rfl rfl rfl) rfl ?_
  refine ng rfl rfl (fun h => eo_field rfl f24_1 rfl) rfl ?_
  refine ng rfl rfl (fun h => by first | exact eo_load 0 rfl s3 (ev_if h rfl) rfl rfl rfl | exact eo_load 1 rfl s3 (ev_if h rfl) rfl rfl rfl | exact eo_load 2 rfl s3 (ev_if h rfl) rfl rfl rfl | exact eo_load 3 rfl s3 (ev_if h rfl) rfl rfl rfl | exact eo_load 4 rfl s3 (ev_if h rfl) rfl rfl rfl | exact eo_load 5 rfl s3 (ev_if h rfl) rfl rfl rfl) rfl ?_
  refine ng rfl rfl (fun h => eo_mul rfl (ev_if h rfl) (ev_if h rfl) (nfits_lo h) (nfits_hi h)) rfl ?_
  refine ng rfl rfl (fun h => eo_neq rfl (ev_if h rfl) (ev_if h rfl)) rfl ?_
  refine ne (eo_or rfl rfl (fun hb => ev_if hb rfl)) rfl ?_
  refine go_nil ?_
  refine gq_next ?_
  refine gc_cond rfl (fun hc19 => ?_) (fun hc19 => ?_)
  ·
    refine gc_seq ?_
    refine gc_region ?_
    refine ne (eo_as rfl rfl) rfl ?_
    refine go_nil ?_
    refine gq_next ?_
    refine gc_ret ?_
    refine gq_then_ret ?_
    refine gq_results (res1 rfl rfl) ?_
    first
      | exact fun W' hO => ⟨ret_int (chk_no (vld_no hc19)).symm, hO.toExt⟩
      | exact fun W' hO => ⟨ret_int (chk_ok (vld_yes hc19)).symm, hO.toExt⟩
  ·
    refine gc_skip ?_
    refine gq_next ?_
    refine gc_seq ?_
    refine gc_region ?_
    refine ne (eo_as rfl rfl) rfl ?_
    refine go_nil ?_
    refine gq_next ?_
    refine gc_ret ?_
    refine gq_results (res1 rfl rfl) ?_
    first
      | exact fun W' hO => ⟨ret_int (chk_no (vld_no hc19)).symm, hO.toExt⟩
      | exact fun W' hO => ⟨ret_int (chk_ok (vld_yes hc19)).symm, hO.toExt⟩

/-- barscan/barscanref31.Valid -/
theorem valid_c (W H : Int) (A : Option Addr) (n c : Nat) (w : World) :
    Calls Try.prog 41 #[.agg #[.int .i64 W, .int .i64 H, .slice A n c]] w fun e w' => e = .returned (.bool (vldB W H n)) ∧ Ext w w' := by
  refine calls_enter (N := ⟨19, []⟩) ([]) ([]) Try.func41 rfl rfl rfl (Ow.start _) ?_
  refine gc_seq ?_
  refine gc_region ?_
  refine nx (xo_boxA rfl rfl) rfl ?_
  rintro _ _ ⟨g1, rfl, rfl⟩
  refine ne (eo_as rfl rfl) rfl ?_
  refine go_nil ?_
  refine gq_next ?_
  refine gc_seq ?_
  refine gc_region ?_
  refine ne (eo_field rfl f33_0 rfl) rfl ?_
  refine ne (by first | exact eo_load 0 rfl s3 rfl rfl rfl rfl | exact eo_load 1 rfl s3 rfl rfl rfl rfl | exact eo_load 2 rfl s3 rfl rfl rfl rfl | exact eo_load 3 rfl s3 rfl rfl rfl rfl | exact eo_load 4 rfl s3 rfl rfl rfl rfl | exact eo_load 5 rfl s3 rfl rfl rfl rfl) rfl ?_
  refine ne (eo_field rfl f33_1 rfl) rfl ?_
  refine ne (by first | exact eo_load 0 rfl s3 rfl rfl rfl rfl | exact eo_load 1 rfl s3 rfl rfl rfl rfl | exact eo_load 2 rfl s3 rfl rfl rfl rfl | exact eo_load 3 rfl s3 rfl rfl rfl rfl | exact eo_load 4 rfl s3 rfl rfl rfl rfl | exact eo_load 5 rfl s3 rfl rfl rfl rfl) rfl ?_
  refine ne (eo_call rfl en52 rfl (fun W _ => fits_c _ _ W)) rfl ?_
  refine ne (eo_mv rfl rfl) rfl ?_
  refine ng rfl rfl (fun h => eo_field rfl f33_2 rfl) rfl ?_
  refine ng rfl rfl (fun h => by first | exact eo_load 0 rfl s31 (ev_if h rfl) rfl rfl rfl | exact eo_load 1 rfl s31 (ev_if h rfl) rfl rfl rfl | exact eo_load 2 rfl s31 (ev_if h rfl) rfl rfl rfl | exact eo_load 3 rfl s31 (ev_if h rfl) rfl rfl rfl | exact eo_load 4 rfl s31 (ev_if h rfl) rfl rfl rfl | exact eo_load 5 rfl s31 (ev_if h rfl) rfl rfl rfl) rfl ?_
  refine ng rfl rfl (fun h => eo_len rfl Try.underlying31 (ev_if h rfl)) rfl ?_
  refine ng rfl rfl (fun h => eo_field rfl f33_0 rfl) rfl ?_
  refine ng rfl rfl (fun h => by first | exact eo_load 0 rfl s3 (ev_if h rfl) rfl rfl rfl | exact eo_load 1 rfl s3 (ev_if h rfl) rfl rfl rfl | exact eo_load 2 rfl s3 (ev_if h rfl) rfl rfl rfl | exact eo_load 3 rfl s3 (ev_if h rfl) rfl rfl rfl | exact eo_load 4 rfl s3 (ev_if h rfl) rfl rfl rfl | exact eo_load 5 rfl s3 (ev_if h rfl) rfl rfl rfl) rfl ?_
  refine ng rfl rfl (fun h => eo_field rfl f33_1 rfl) rfl ?_
  refine ng rfl rfl (fun h => by first | exact eo_load 0 rfl s3 (ev_if h rfl) rfl rfl rfl | exact eo_load 1 rfl s3 (ev_if h rfl) rfl rfl rfl | exact eo_load 2 rfl s3 (ev_if h rfl) rfl rfl rfl | exact eo_load 3 rfl s3 (ev_if h rfl) rfl rfl rfl | exact eo_load 4 rfl s3 (ev_if h rfl) rfl rfl rfl | exact eo_load 5 rfl s3 (ev_if h rfl) rfl rfl rfl) rfl ?_
  refine ng rfl rfl (fun h => eo_mul rfl (ev_if h rfl) (ev_if h rfl) (fits_lo h) (fits_hi h)) rfl ?_
  refine ng rfl rfl (fun h => eo_eql rfl (ev_if h rfl) (ev_if h rfl)) rfl ?_
  refine ne (eo_and rfl rfl (fun hb => ev_if hb rfl)) rfl ?_
  refine ne (eo_as rfl rfl) rfl ?_
  refine go_nil ?_
  refine gq_next ?_
  refine gc_ret ?_
  refine gq_results (res1 rfl rfl) ?_
  exact fun W' hO => ⟨rfl, hO.toExt⟩

/-- barscan/barscanref31.ValidImage -/
theorem validim_c (W H : Int) (A : Option Addr) (n c : Nat) (w : World) :
    Calls Try.prog 32 #[.agg #[.int .i64 W, .int .i64 H, .slice A n c]] w fun e w' => e = .returned (.bool (vldB W H n)) ∧ Ext w w' := by
  refine calls_enter (N := ⟨19, []⟩) ([]) ([]) Try.func32 rfl rfl rfl (Ow.start _) ?_
  refine gc_seq ?_
  refine gc_region ?_
  refine nx (xo_boxA rfl rfl) rfl ?_
  rintro _ _ ⟨g1, rfl, rfl⟩
  refine ne (eo_as rfl rfl) rfl ?_
  refine go_nil ?_
  refine gq_next ?_
  refine gc_seq ?_
  refine gc_region ?_
  refine ne (eo_field rfl f24_0 rfl) rfl ?_
  refine ne (by first | exact eo_load 0 rfl s3 rfl rfl rfl rfl | exact eo_load 1 rfl s3 rfl rfl rfl rfl | exact eo_load 2 rfl s3 rfl rfl rfl rfl | exact eo_load 3 rfl s3 rfl rfl rfl rfl | exact eo_load 4 rfl s3 rfl rfl rfl rfl | exact eo_load 5 rfl s3 rfl rfl rfl rfl) rfl ?_
  refine ne (eo_field rfl f24_1 rfl) rfl ?_
  refine ne (by first | exact eo_load 0 rfl s3 rfl rfl rfl rfl | exact eo_load 1 rfl s3 rfl rfl rfl rfl | exact eo_load 2 rfl s3 rfl rfl rfl rfl | exact eo_load 3 rfl s3 rfl rfl rfl rfl | exact eo_load 4 rfl s3 rfl rfl rfl rfl | exact eo_load 5 rfl s3 rfl rfl rfl rfl) rfl ?_
  refine ne (eo_call rfl en52 rfl (fun W _ => fits_c _ _ W)) rfl ?_
  refine ne (eo_mv rfl rfl) rfl ?_
  refine ng rfl rfl (fun h => eo_field rfl f24_2 rfl) rfl ?_
  refine ng rfl rfl (fun h => by first | exact eo_load 0 rfl s22 (ev_if h rfl) rfl rfl rfl | exact eo_load 1 rfl s22 (ev_if h rfl) rfl rfl rfl | exact eo_load 2 rfl s22 (ev_if h rfl) rfl rfl rfl | exact eo_load 3 rfl s22 (ev_if h rfl) rfl rfl rfl | exact eo_load 4 rfl s22 (ev_if h rfl) rfl rfl rfl | exact eo_load 5 rfl s22 (ev_if h rfl) rfl rfl rfl) rfl ?_
  refine ng rfl rfl (fun h => eo_len rfl Try.underlying22 (ev_if h rfl)) rfl ?_
  refine ng rfl rfl (fun h => eo_field rfl f24_0 rfl) rfl ?_
  refine ng rfl rfl (fun h => by first | exact eo_load 0 rfl s3 (ev_if h rfl) rfl rfl rfl | exact eo_load 1 rfl s3 (ev_if h rfl) rfl rfl rfl | exact eo_load 2 rfl s3 (ev_if h rfl) rfl rfl rfl | exact eo_load 3 rfl s3 (ev_if h rfl) rfl rfl rfl | exact eo_load 4 rfl s3 (ev_if h rfl) rfl rfl rfl | exact eo_load 5 rfl s3 (ev_if h rfl) rfl rfl rfl) rfl ?_
  refine ng rfl rfl (fun h => eo_field rfl f24_1 rfl) rfl ?_
  refine ng rfl rfl (fun h => by first | exact eo_load 0 rfl s3 (ev_if h rfl) rfl rfl rfl | exact eo_load 1 rfl s3 (ev_if h rfl) rfl rfl rfl | exact eo_load 2 rfl s3 (ev_if h rfl) rfl rfl rfl | exact eo_load 3 rfl s3 (ev_if h rfl) rfl rfl rfl | exact eo_load 4 rfl s3 (ev_if h rfl) rfl rfl rfl | exact eo_load 5 rfl s3 (ev_if h rfl) rfl rfl rfl) rfl ?_
  refine ng rfl rfl (fun h => eo_mul rfl (ev_if h rfl) (ev_if h rfl) (fits_lo h) (fits_hi h)) rfl ?_
  refine ng rfl rfl (fun h => eo_eql rfl (ev_if h rfl) (ev_if h rfl)) rfl ?_
  refine ne (eo_and rfl rfl (fun hb => ev_if hb rfl)) rfl ?_
  refine ne (eo_as rfl rfl) rfl ?_
  refine go_nil ?_
  refine gq_next ?_
  refine gc_ret ?_
  refine gq_results (res1 rfl rfl) ?_
  exact fun W' hO => ⟨rfl, hO.toExt⟩

/-- barscan/barscanref31.At -/
theorem rat_c (W H x y : Int) (A : Option Addr) (n c : Nat) (f : Nat → Bool) (w : World) (hr : Rd w A (tab n (bv f))) :
    Calls Try.prog 44 #[.agg #[.int .i64 W, .int .i64 H, .slice A n c], .int .i64 x, .int .i64 y] w fun e w' => e = .returned (.bool (atB W H n f x y)) ∧ Ext w w' := by
  refine calls_enter (N := ⟨41, []⟩) ([]) ([]) Try.func44 rfl rfl rfl (Ow.start _) ?_
  refine gc_seq ?_
  refine gc_region ?_
  refine nx (xo_boxA rfl rfl) rfl ?_
  rintro _ _ ⟨g3, rfl, rfl⟩
  refine ne (eo_as rfl rfl) rfl ?_
  refine go_nil ?_
  refine gq_next ?_
  refine gc_seq ?_
  refine gc_region ?_
  refine ne (by first | exact eo_loadA 0 rfl a33 rfl rfl rfl rfl | exact eo_loadA 1 rfl a33 rfl rfl rfl rfl | exact eo_loadA 2 rfl a33 rfl rfl rfl rfl | exact eo_loadA 3 rfl a33 rfl rfl rfl rfl | exact eo_loadA 4 rfl a33 rfl rfl rfl rfl | exact eo_loadA 5 rfl a33 rfl rfl rfl rfl) rfl ?_
  refine ne (eo_call rfl en41 rfl (fun W _ => valid_c _ _ _ _ _ W)) rfl ?_
  refine ne (eo_mv rfl rfl) rfl ?_
  refine ng rfl rfl (fun h => eo_mv rfl rfl) rfl ?_
  refine ng rfl rfl (fun h => eo_geq rfl (ev_if h rfl) rfl) rfl ?_
  refine ne (eo_and rfl rfl (fun hb => ev_if hb rfl)) rfl ?_
  refine ne (eo_mv rfl rfl) rfl ?_
  refine ng rfl rfl (fun h => eo_mv rfl rfl) rfl ?_
  refine ng rfl rfl (fun h => eo_field rfl f33_0 rfl) rfl ?_
  refine ng rfl rfl (fun h => by first | exact eo_load 0 rfl s3 (ev_if h rfl) rfl rfl rfl | exact eo_load 1 rfl s3 (ev_if h rfl) rfl rfl rfl | exact eo_load 2 rfl s3 (ev_if h rfl) rfl rfl rfl | exact eo_load 3 rfl s3 (ev_if h rfl) rfl rfl rfl | exact eo_load 4 rfl s3 (ev_if h rfl) rfl rfl rfl | exact eo_load 5 rfl s3 (ev_if h rfl) rfl rfl rfl) rfl ?_
  refine ng rfl rfl (fun h => eo_lss rfl (ev_if h rfl) (ev_if h rfl)) rfl ?_
  refine ne (eo_and rfl rfl (fun hb => ev_if hb rfl)) rfl ?_
  refine ne (eo_mv rfl rfl) rfl ?_
  refine ng rfl rfl (fun h => eo_mv rfl rfl) rfl ?_
  refine ng rfl rfl (fun h => eo_geq rfl (ev_if h rfl) rfl) rfl ?_
  refine ne (eo_and rfl rfl (fun hb => ev_if hb rfl)) rfl ?_
  refine ne (eo_mv rfl rfl) rfl ?_
  refine ng rfl rfl (fun h => eo_mv rfl rfl) rfl ?_
  refine ng rfl rfl (fun h => eo_field rfl f33_1 rfl) rfl ?_
  refine ng rfl rfl (fun h => by first | exact eo_load 0 rfl s3 (ev_if h rfl) rfl rfl rfl | exact eo_load 1 rfl s3 (ev_if h rfl) rfl rfl rfl | exact eo_load 2 rfl s3 (ev_if h rfl) rfl rfl rfl | exact eo_load 3 rfl s3 (ev_if h rfl) rfl rfl rfl | exact eo_load 4 rfl s3 (ev_if h rfl) rfl rfl rfl | exact eo_load 5 rfl s3 (ev_if h rfl) rfl rfl rfl) rfl ?_
  refine ng rfl rfl (fun h => eo_lss rfl (ev_if h rfl) (ev_if h rfl)) rfl ?_
  refine ne (eo_and rfl rfl (fun hb => ev_if hb rfl)) rfl ?_
  refine ne (eo_mv rfl rfl) rfl ?_
  refine ng rfl rfl (fun h => eo_field rfl f33_2 rfl) rfl ?_
  refine ng rfl rfl (fun h => by first | exact eo_load 0 rfl s31 (ev_if h rfl) rfl rfl rfl | exact eo_load 1 rfl s31 (ev_if h rfl) rfl rfl rfl | exact eo_load 2 rfl s31 (ev_if h rfl) rfl rfl rfl | exact eo_load 3 rfl s31 (ev_if h rfl) rfl rfl rfl | exact eo_load 4 rfl s31 (ev_if h rfl) rfl rfl rfl | exact eo_load 5 rfl s31 (ev_if h rfl) rfl rfl rfl) rfl ?_
  refine ng rfl rfl (fun h => eo_mv rfl rfl) rfl ?_
  refine ng rfl rfl (fun h => eo_field rfl f33_0 rfl) rfl ?_
  refine ng rfl rfl (fun h => by first | exact eo_load 0 rfl s3 (ev_if h rfl) rfl rfl rfl | exact eo_load 1 rfl s3 (ev_if h rfl) rfl rfl rfl | exact eo_load 2 rfl s3 (ev_if h rfl) rfl rfl rfl | exact eo_load 3 rfl s3 (ev_if h rfl) rfl rfl rfl | exact eo_load 4 rfl s3 (ev_if h rfl) rfl rfl rfl | exact eo_load 5 rfl s3 (ev_if h rfl) rfl rfl rfl) rfl ?_
  refine ng rfl rfl (fun h => eo_mul rfl (ev_if h rfl) (ev_if h rfl) (at_lo1 h) (at_hi1 h)) rfl ?_
  refine ng rfl rfl (fun h => eo_mv rfl rfl) rfl ?_
  refine ng rfl rfl (fun h => eo_add rfl (ev_if h rfl) (ev_if h rfl) (at_lo2 h) (at_hi2 h)) rfl ?_
  refine ng rfl rfl (fun h => by first | exact eo_indexR rfl sl31 (ev_if h rfl) (ev_if h rfl) hr (by simp) (at_ge h) (at_lt h) | exact eo_index0 rfl sl31 (ev_if h rfl) (ev_if h rfl) (by omega) (by omega) | exact eo_index rfl sl31 (ev_if h rfl) (ev_if h rfl) (by omega) (by omega)) rfl ?_
  refine ng rfl rfl (fun h => by first | exact eo_load_old rfl s4 (ev_if h rfl) (Rd.tabb hr (at_ltn h)) (by simp) | exact eo_getb 0 rfl s4 (ev_if h rfl) rfl (by omega) | exact eo_getb 1 rfl s4 (ev_if h rfl) rfl (by omega) | exact eo_getb 2 rfl s4 (ev_if h rfl) rfl (by omega) | exact eo_getb 3 rfl s4 (ev_if h rfl) rfl (by omega) | exact eo_getb 4 rfl s4 (ev_if h rfl) rfl (by omega) | exact eo_getb 5 rfl s4 (ev_if h rfl) rfl (by omega)) rfl ?_
  refine ne (eo_and rfl rfl (fun hb => ev_if hb rfl)) rfl ?_
  refine ne (eo_as rfl rfl) rfl ?_
  refine go_nil ?_
  refine gq_next ?_
  refine gc_ret ?_
  refine gq_results (res1 rfl rfl) ?_
  exact fun W' hO => ⟨ret_bool (by simp [atB, inB, Bool.and_assoc]), hO.toExt⟩

/-- barscan/barscanref31.Equal -/
theorem requal_c (W H W' H' : Int) (A A' : Option Addr) (n c n' c' : Nat) (f f' : Nat → Bool) (w : World) (hn : n ≤ 140737488355328) (hr : Rd w A (tab n (bv f))) (hr' : Rd w A' (tab n' (bv f'))) :
    Calls Try.prog 42 #[.agg #[.int .i64 W, .int .i64 H, .slice A n c], .agg #[.int .i64 W', .int .i64 H', .slice A' n' c']] w fun e w' => e = .returned (.bool (eqM W H n f W' H' n' f')) ∧ Ext w w' := by
  refine calls_enter (N := ⟨45, []⟩) ([]) ([]) Try.func42 rfl rfl rfl (Ow.start _) ?_
  refine gc_seq ?_
  refine gc_region ?_
  refine nx (xo_boxA rfl rfl) rfl ?_
  rintro _ _ ⟨g2, rfl, rfl⟩
  refine nx (xo_boxA rfl rfl) rfl ?_
  rintro _ _ ⟨g3, rfl, rfl⟩
  refine ne (eo_as rfl rfl) rfl ?_
  refine go_nil ?_
  refine gq_next ?_
  refine gc_seq ?_
  refine gc_seq ?_
  refine gc_region ?_
  refine ne (eo_field rfl f33_0 rfl) rfl ?_
  refine ne (by first | exact eo_load 0 rfl s3 rfl rfl rfl rfl | exact eo_load 1 rfl s3 rfl rfl rfl rfl | exact eo_load 2 rfl s3 rfl rfl rfl rfl | exact eo_load 3 rfl s3 rfl rfl rfl rfl | exact eo_load 4 rfl s3 rfl rfl rfl rfl | exact eo_load 5 rfl s3 rfl rfl rfl rfl) rfl ?_
  refine ne (eo_field rfl f33_0 rfl) rfl ?_
  refine ne (by first | exact eo_load 0 rfl s3 rfl rfl rfl rfl | exact eo_load 1 rfl s3 rfl rfl rfl rfl | exact eo_load 2 rfl s3 rfl rfl rfl rfl | exact eo_load 3 rfl s3 rfl rfl rfl rfl | exact eo_load 4 rfl s3 rfl rfl rfl rfl | exact eo_load 5 rfl s3 rfl rfl rfl rfl) rfl ?_
  refine ne (eo_neq rfl rfl rfl) rfl ?_
  refine ne (eo_mv rfl rfl) rfl ?_
  refine ng rfl rfl (fun h => eo_field rfl f33_1 rfl) rfl ?_
  refine ng rfl rfl (fun h => by first | exact eo_load 0 rfl s3 (ev_if h rfl) rfl rfl rfl | exact eo_load 1 rfl s3 (ev_if h rfl) rfl rfl rfl | exact eo_load 2 rfl s3 (ev_if h rfl) rfl rfl rfl | exact eo_load 3 rfl s3 (ev_if h rfl) rfl rfl rfl | exact eo_load 4 rfl s3 (ev_if h rfl) rfl rfl rfl | exact eo_load 5 rfl s3 (ev_if h rfl) rfl rfl rfl) rfl ?_
  refine ng rfl rfl (fun h => eo_field rfl f33_1 rfl) rfl ?_
  refine ng rfl rfl (fun h => by first | exact eo_load 0 rfl s3 (ev_if h rfl) rfl rfl rfl | exact eo_load 1 rfl s3 (ev_if h rfl) rfl rfl rfl | exact eo_load 2 rfl s3 (ev_if h rfl) rfl rfl rfl | exact eo_load 3 rfl s3 (ev_if h rfl) rfl rfl rfl | exact eo_load 4 rfl s3 (ev_if h rfl) rfl rfl rfl | exact eo_load 5 rfl s3 (ev_if h rfl) rfl rfl rfl) rfl ?_
  refine ng rfl rfl (fun h => eo_neq rfl (ev_if h rfl) (ev_if h rfl)) rfl ?_
  refine ne (eo_or rfl rfl (fun hb => ev_if hb rfl)) rfl ?_
  refine ne (eo_mv rfl rfl) rfl ?_
  refine ng rfl rfl (fun h => eo_field rfl f33_2 rfl) rfl ?_
  refine ng rfl rfl (fun h => by first | exact eo_load 0 rfl s31 (ev_if h rfl) rfl rfl rfl | exact eo_load 1 rfl s31 (ev_if h rfl) rfl rfl rfl | exact eo_load 2 rfl s31 (ev_if h rfl) rfl rfl rfl | exact eo_load 3 rfl s31 (ev_if h rfl) rfl rfl rfl | exact eo_load 4 rfl s31 (ev_if h rfl) rfl rfl rfl | exact eo_load 5 rfl s31 (ev_if h rfl) rfl rfl rfl) rfl ?_
  refine ng rfl rfl (fun h => eo_len rfl Try.underlying31 (ev_if h rfl)) rfl ?_
  refine ng rfl rfl (fun h => eo_field rfl f33_2 rfl) rfl ?_
  refine ng rfl rfl (fun h => by first | exact eo_load 0 rfl s31 (ev_if h rfl) rfl rfl rfl | exact eo_load 1 rfl s31 (ev_if h rfl) rfl rfl rfl | exact eo_load 2 rfl s31 (ev_if h rfl) rfl rfl rfl | exact eo_load 3 rfl s31 (ev_if h rfl) rfl rfl rfl | exact eo_load 4 rfl s31 (ev_if h rfl) rfl rfl rfl | exact eo_load 5 rfl s31 (ev_if h rfl) rfl rfl rfl) rfl ?_
  refine ng rfl rfl (fun h => eo_len rfl Try.underlying31 (ev_if h rfl)) rfl ?_
  refine ng rfl rfl (fun h => eo_neq rfl (ev_if h rfl) (ev_if h rfl)) rfl ?_
  refine ne (eo_or rfl rfl (fun hb => ev_if hb rfl)) rfl ?_
  refine go_nil ?_
  refine gq_next ?_
  refine gc_cond rfl (fun hc26 => ?_) (fun hc26 => ?_)
  ·
    refine gc_seq ?_
    refine gc_region ?_
    refine ne (eo_as rfl rfl) rfl ?_
    refine go_nil ?_
    refine gq_next ?_
    refine gc_ret ?_
    refine gq_then_ret ?_
    refine gq_results (res1 rfl rfl) ?_
    first
      | exact fun W hO => ⟨ret_bool (eqM_test hc26).symm, hO.toExt⟩
      | exact fun W hO => ⟨ret_bool (eqM_differ k (by omega) (by simpa [bne] using hc44)).symm, hO.toExt⟩
      | exact fun W hO => ⟨ret_bool (eqM_yes e1 e2 e3 (fun i hi => hI i (by omega))).symm, hO.toExt⟩
  ·
    obtain ⟨e1, e2, e3⟩ := eqM_same hc26
    refine gc_skip ?_
    refine gq_next ?_
    refine gc_seq ?_
    refine gc_seq ?_
    refine gc_region ?_
    refine ne (eo_as rfl rfl) rfl ?_
    refine go_nil ?_
    refine gq_next ?_
    refine gc_block ?_
    refine loop1 (fun (k : Nat) => k ≤ n ∧ ∀ i, i < k → f i = f' i) (fun (k : Nat) => n - k) (fun (k : Nat) => [(2, .pointer (some ⟨g2, 0, none⟩)), (3, .pointer (some ⟨g3, 0, none⟩)), (5, .int .i64 k)]) (fun (k : Nat) => [⟨g3, 33, [.int .i64 W', .int .i64 H', .slice A' n' c']⟩, ⟨g2, 33, [.int .i64 W, .int .i64 H, .slice A n c]⟩]) 0 ⟨by omega, fun i hi => absurd hi (by omega)⟩ ⟨rfl, rfl, rfl, trivial⟩ (by first | exact List.Sublist.refl _ | exact List.Sublist.cons _ (List.Sublist.refl _) | exact List.Sublist.cons _ (List.Sublist.cons _ (List.Sublist.refl _)) | exact List.Sublist.cons _ (List.Sublist.cons _ (List.Sublist.cons _ (List.Sublist.refl _))) | exact List.Sublist.cons_cons _ (List.Sublist.cons _ (List.Sublist.refl _))) ?_
    rintro k ⟨hk, hI⟩
    refine gc_seq ?_
    refine gc_seq ?_
    refine gc_region ?_
    refine ne (eo_mv rfl rfl) rfl ?_
    refine ne (eo_field rfl f33_2 rfl) rfl ?_
    refine ne (by first | exact eo_load 0 rfl s31 rfl rfl rfl rfl | exact eo_load 1 rfl s31 rfl rfl rfl rfl | exact eo_load 2 rfl s31 rfl rfl rfl rfl | exact eo_load 3 rfl s31 rfl rfl rfl rfl | exact eo_load 4 rfl s31 rfl rfl rfl rfl | exact eo_load 5 rfl s31 rfl rfl rfl rfl) rfl ?_
    refine ne (eo_len rfl Try.underlying31 rfl) rfl ?_
    refine ne (eo_lss rfl rfl rfl) rfl ?_
    refine go_nil ?_
    refine gq_next ?_
    refine gc_cond rfl (fun hc31 => ?_) (fun hc31 => ?_)
    ·
      replace hc31 := of_decide_eq_true hc31
      refine gc_skip ?_
      refine gq_next ?_
      refine gc_seq ?_
      refine gc_block ?_
      refine gc_seq ?_
      refine gc_draw [] [0, 1, 2, 3, 4, 5, 6, 7, 8, 9, 10] [] [] (by kernel_rfl) (by kernel_rfl) ?_
      refine gp_nil ?_
      refine de rfl (eo_field rfl f33_2 rfl) rfl ?_
      refine de rfl (by first | exact eo_load 0 rfl s31 rfl rfl rfl rfl | exact eo_load 1 rfl s31 rfl rfl rfl rfl | exact eo_load 2 rfl s31 rfl rfl rfl rfl | exact eo_load 3 rfl s31 rfl rfl rfl rfl | exact eo_load 4 rfl s31 rfl rfl rfl rfl | exact eo_load 5 rfl s31 rfl rfl rfl rfl) rfl ?_
      refine de rfl (eo_mv rfl rfl) rfl ?_
      refine de rfl (by first | exact eo_indexR rfl sl31 rfl rfl hr (by simp) (by omega) (by omega) | exact eo_index0 rfl sl31 rfl rfl (by omega) (by omega) | exact eo_index rfl sl31 rfl rfl (by omega) (by omega)) rfl ?_
      refine de rfl (by first | exact eo_load_old rfl s4 rfl (Rd.tabb hr (k := k) (by omega)) (by simp) | exact eo_getb 0 rfl s4 rfl rfl (by omega) | exact eo_getb 1 rfl s4 rfl rfl (by omega) | exact eo_getb 2 rfl s4 rfl rfl (by omega) | exact eo_getb 3 rfl s4 rfl rfl (by omega) | exact eo_getb 4 rfl s4 rfl rfl (by omega) | exact eo_getb 5 rfl s4 rfl rfl (by omega)) rfl ?_
      refine de rfl (eo_field rfl f33_2 rfl) rfl ?_
      refine de rfl (by first | exact eo_load 0 rfl s31 rfl rfl rfl rfl | exact eo_load 1 rfl s31 rfl rfl rfl rfl | exact eo_load 2 rfl s31 rfl rfl rfl rfl | exact eo_load 3 rfl s31 rfl rfl rfl rfl | exact eo_load 4 rfl s31 rfl rfl rfl rfl | exact eo_load 5 rfl s31 rfl rfl rfl rfl) rfl ?_
      refine de rfl (eo_mv rfl rfl) rfl ?_
      refine de rfl (by first | exact eo_indexR rfl sl31 rfl rfl hr' (by simp) (by omega) (by omega) | exact eo_index0 rfl sl31 rfl rfl (by omega) (by omega) | exact eo_index rfl sl31 rfl rfl (by omega) (by omega)) rfl ?_
      refine de rfl (by first | exact eo_load_old rfl s4 rfl (Rd.tabb hr' (k := k) (by omega)) (by simp) | exact eo_getb 0 rfl s4 rfl rfl (by omega) | exact eo_getb 1 rfl s4 rfl rfl (by omega) | exact eo_getb 2 rfl s4 rfl rfl (by omega) | exact eo_getb 3 rfl s4 rfl rfl (by omega) | exact eo_getb 4 rfl s4 rfl rfl (by omega) | exact eo_getb 5 rfl s4 rfl rfl (by omega)) rfl ?_
      refine de rfl (eo_bneq rfl rfl rfl Try.underlying4) rfl ?_
      refine ge_nil ?_
      refine ga_nil ?_
      refine gi_nil ?_
      refine gq_nq ?_
      refine gq_next ?_
      refine gc_cond rfl (fun hc44 => ?_) (fun hc44 => ?_)
      ·
        refine gc_seq ?_
        refine gc_region ?_
        refine ne (eo_as rfl rfl) rfl ?_
        refine go_nil ?_
        refine gq_next ?_
        refine gc_ret ?_
        refine gq_block_ret ?_
        refine gq_then_ret ?_
        refine gq_then_ret ?_
        refine gq_block_ret ?_
        refine gq_then_ret ?_
        refine gq_results (res1 rfl rfl) ?_
        first
          | exact fun W hO => ⟨ret_bool (eqM_test hc26).symm, hO.toExt⟩
          | exact fun W hO => ⟨ret_bool (eqM_differ k (by omega) (by simpa [bne] using hc44)).symm, hO.toExt⟩
          | exact fun W hO => ⟨ret_bool (eqM_yes e1 e2 e3 (fun i hi => hI i (by omega))).symm, hO.toExt⟩
      ·
        refine gc_skip ?_
        refine gq_block_end ?_
        refine gq_next ?_
        refine gc_region ?_
        refine ne (eo_mv rfl rfl) rfl ?_
        refine ne (eo_add rfl rfl rfl (by omega) (by omega)) rfl ?_
        refine ne (eo_as rfl rfl) rfl ?_
        refine go_nil ?_
        exact round1 (k + 1) ⟨by omega, upto_succ hI (by simpa [bne] using hc44)⟩ (by omega) ⟨rfl, rfl, rfl, trivial⟩ (by first | exact List.Sublist.refl _ | exact List.Sublist.cons _ (List.Sublist.refl _) | exact List.Sublist.cons _ (List.Sublist.cons _ (List.Sublist.refl _)) | exact List.Sublist.cons _ (List.Sublist.cons _ (List.Sublist.cons _ (List.Sublist.refl _))) | exact List.Sublist.cons_cons _ (List.Sublist.cons _ (List.Sublist.refl _)))
    ·
      replace hc31 := of_decide_eq_false hc31
      refine gc_exit ?_
      refine gq_then_exit ?_
      refine gq_then_exit ?_
      refine gq_block_hit ?_
      refine gq_next ?_
      refine gc_seq ?_
      refine gc_region ?_
      refine ne (eo_as rfl rfl) rfl ?_
      refine go_nil ?_
      refine gq_next ?_
      refine gc_ret ?_
      refine gq_results (res1 rfl rfl) ?_
      first
        | exact fun W hO => ⟨ret_bool (eqM_test hc26).symm, hO.toExt⟩
        | exact fun W hO => ⟨ret_bool (eqM_differ k (by omega) (by simpa [bne] using hc44)).symm, hO.toExt⟩
        | exact fun W hO => ⟨ret_bool (eqM_yes e1 e2 e3 (fun i hi => hI i (by omega))).symm, hO.toExt⟩

/-- barscan/barscanref31.EqualImage -/
theorem requalim_c (W H W' H' : Int) (A A' : Option Addr) (n c n' c' : Nat) (f f' : Nat → Int) (w : World) (hn : n ≤ 140737488355328) (hr : Rd w A (tab n (iv .u8 f))) (hr' : Rd w A' (tab n' (iv .u8 f'))) :
    Calls Try.prog 34 #[.agg #[.int .i64 W, .int .i64 H, .slice A n c], .agg #[.int .i64 W', .int .i64 H', .slice A' n' c']] w fun e w' => e = .returned (.bool (eqM W H n f W' H' n' f')) ∧ Ext w w' := by
  refine calls_enter (N := ⟨45, []⟩) ([]) ([]) Try.func34 rfl rfl rfl (Ow.start _) ?_
  refine gc_seq ?_
  refine gc_region ?_
  refine nx (xo_boxA rfl rfl) rfl ?_
  rintro _ _ ⟨g2, rfl, rfl⟩
  refine nx (xo_boxA rfl rfl) rfl ?_
  rintro _ _ ⟨g3, rfl, rfl⟩
  refine ne (eo_as rfl rfl) rfl ?_
  refine go_nil ?_
  refine gq_next ?_
  refine gc_seq ?_
  refine gc_seq ?_
  refine gc_region ?_
  refine ne (eo_field rfl f24_0 rfl) rfl ?_
  refine ne (by first | exact eo_load 0 rfl s3 rfl rfl rfl rfl | exact eo_load 1 rfl s3 rfl rfl rfl rfl | exact eo_load 2 rfl s3 rfl rfl rfl rfl | exact eo_load 3 rfl s3 rfl rfl rfl rfl | exact eo_load 4 rfl s3 rfl rfl rfl rfl | exact eo_load 5 rfl s3 rfl rfl rfl rfl) rfl ?_
  refine ne (eo_field rfl f24_0 rfl) rfl ?_
  refine ne (by first | exact eo_load 0 rfl s3 rfl rfl rfl rfl | exact eo_load 1 rfl s3 rfl rfl rfl rfl | exact eo_load 2 rfl s3 rfl rfl rfl rfl | exact eo_load 3 rfl s3 rfl rfl rfl rfl | exact eo_load 4 rfl s3 rfl rfl rfl rfl | exact eo_load 5 rfl s3 rfl rfl rfl rfl) rfl ?_
  refine ne (eo_neq rfl rfl rfl) rfl ?_
  refine ne (eo_mv rfl rfl) rfl ?_
  refine ng rfl rfl (fun h => eo_field rfl f24_1 rfl) rfl ?_
  refine ng rfl rfl (fun h => by first | exact eo_load 0 rfl s3 (ev_if h rfl) rfl rfl rfl | exact eo_load 1 rfl s3 (ev_if h rfl) rfl rfl rfl | exact eo_load 2 rfl s3 (ev_if h rfl) rfl rfl rfl | exact eo_load 3 rfl s3 (ev_if h rfl) rfl rfl rfl | exact eo_load 4 rfl s3 (ev_if h rfl) rfl rfl rfl | exact eo_load 5 rfl s3 (ev_if h rfl) rfl rfl rfl) rfl ?_
  refine ng rfl rfl (fun h => eo_field rfl f24_1 rfl) rfl ?_
  refine ng rfl rfl (fun h => by first | exact eo_load 0 rfl s3 (ev_if h rfl) rfl rfl rfl | exact eo_load 1 rfl s3 (ev_if h rfl) rfl rfl rfl | exact eo_load 2 rfl s3 (ev_if h rfl) rfl rfl rfl | exact eo_load 3 rfl s3 (ev_if h rfl) rfl rfl rfl | exact eo_load 4 rfl s3 (ev_if h rfl) rfl rfl rfl | exact eo_load 5 rfl s3 (ev_if h rfl) rfl rfl rfl) rfl ?_
  refine ng rfl rfl (fun h => eo_neq rfl (ev_if h rfl) (ev_if h rfl)) rfl ?_
  refine ne (eo_or rfl rfl (fun hb => ev_if hb rfl)) rfl ?_
  refine ne (eo_mv rfl rfl) rfl ?_
  refine ng rfl rfl (fun h => eo_field rfl f24_2 rfl) rfl ?_
  refine ng rfl rfl (fun h => by first | exact eo_load 0 rfl s22 (ev_if h rfl) rfl rfl rfl | exact eo_load 1 rfl s22 (ev_if h rfl) rfl rfl rfl | exact eo_load 2 rfl s22 (ev_if h rfl) rfl rfl rfl | exact eo_load 3 rfl s22 (ev_if h rfl) rfl rfl rfl | exact eo_load 4 rfl s22 (ev_if h rfl) rfl rfl rfl | exact eo_load 5 rfl s22 (ev_if h rfl) rfl rfl rfl) rfl ?_
  refine ng rfl rfl (fun h => eo_len rfl Try.underlying22 (ev_if h rfl)) rfl ?_
  refine ng rfl rfl (fun h => eo_field rfl f24_2 rfl) rfl ?_
  refine ng rfl rfl (fun h => by first | exact eo_load 0 rfl s22 (ev_if h rfl) rfl rfl rfl | exact eo_load 1 rfl s22 (ev_if h rfl) rfl rfl rfl | exact eo_load 2 rfl s22 (ev_if h rfl) rfl rfl rfl | exact eo_load 3 rfl s22 (ev_if h rfl) rfl rfl rfl | exact eo_load 4 rfl s22 (ev_if h rfl) rfl rfl rfl | exact eo_load 5 rfl s22 (ev_if h rfl) rfl rfl rfl) rfl ?_
  refine ng rfl rfl (fun h => eo_len rfl Try.underlying22 (ev_if h rfl)) rfl ?_
  refine ng rfl rfl (fun h => eo_neq rfl (ev_if h rfl) (ev_if h rfl)) rfl ?_
  refine ne (eo_or rfl rfl (fun hb => ev_if hb rfl)) rfl ?_
  refine go_nil ?_
  refine gq_next ?_
  refine gc_cond rfl (fun hc26 => ?_) (fun hc26 => ?_)
  ·
    refine gc_seq ?_
    refine gc_region ?_
    refine ne (eo_as rfl rfl) rfl ?_
    refine go_nil ?_
    refine gq_next ?_
    refine gc_ret ?_
    refine gq_then_ret ?_
    refine gq_results (res1 rfl rfl) ?_
    first
      | exact fun W hO => ⟨ret_bool (eqM_test hc26).symm, hO.toExt⟩
      | exact fun W hO => ⟨ret_bool (eqM_differ k (by omega) (by simpa using hc44)).symm, hO.toExt⟩
      | exact fun W hO => ⟨ret_bool (eqM_yes e1 e2 e3 (fun i hi => hI i (by omega))).symm, hO.toExt⟩
  ·
    obtain ⟨e1, e2, e3⟩ := eqM_same hc26
    refine gc_skip ?_
    refine gq_next ?_
    refine gc_seq ?_
    refine gc_seq ?_
    refine gc_region ?_
    refine ne (eo_as rfl rfl) rfl ?_
    refine go_nil ?_
    refine gq_next ?_
    refine gc_block ?_
    refine loop1 (fun (k : Nat) => k ≤ n ∧ ∀ i, i < k → f i = f' i) (fun (k : Nat) => n - k) (fun (k : Nat) => [(2, .pointer (some ⟨g2, 0, none⟩)), (3, .pointer (some ⟨g3, 0, none⟩)), (5, .int .i64 k)]) (fun (k : Nat) => [⟨g3, 24, [.int .i64 W', .int .i64 H', .slice A' n' c']⟩, ⟨g2, 24, [.int .i64 W, .int .i64 H, .slice A n c]⟩]) 0 ⟨by omega, fun i hi => absurd hi (by omega)⟩ ⟨rfl, rfl, rfl, trivial⟩ (by first | exact List.Sublist.refl _ | exact List.Sublist.cons _ (List.Sublist.refl _) | exact List.Sublist.cons _ (List.Sublist.cons _ (List.Sublist.refl _)) | exact List.Sublist.cons _ (List.Sublist.cons _ (List.Sublist.cons _ (List.Sublist.refl _))) | exact List.Sublist.cons_cons _ (List.Sublist.cons _ (List.Sublist.refl _))) ?_
    rintro k ⟨hk, hI⟩
    refine gc_seq ?_
    refine gc_seq ?_
    refine gc_region ?_
    refine ne (eo_mv rfl rfl) rfl ?_
    refine ne (eo_field rfl f24_2 rfl) rfl ?_
    refine ne (by first | exact eo_load 0 rfl s22 rfl rfl rfl rfl | exact eo_load 1 rfl s22 rfl rfl rfl rfl | exact eo_load 2 rfl s22 rfl rfl rfl rfl | exact eo_load 3 rfl s22 rfl rfl rfl rfl | exact eo_load 4 rfl s22 rfl rfl rfl rfl | exact eo_load 5 rfl s22 rfl rfl rfl rfl) rfl ?_
    refine ne (eo_len rfl Try.underlying22 rfl) rfl ?_
    refine ne (eo_lss rfl rfl rfl) rfl ?_
    refine go_nil ?_
    refine gq_next ?_
    refine gc_cond rfl (fun hc31 => ?_) (fun hc31 => ?_)
    ·
      replace hc31 := of_decide_eq_true hc31
      refine gc_skip ?_
      refine gq_next ?_
      refine gc_seq ?_
      refine gc_block ?_
      refine gc_seq ?_
      refine gc_draw [] [0, 1, 2, 3, 4, 5, 6, 7, 8, 9, 10] [] [] (by kernel_rfl) (by kernel_rfl) ?_
      refine gp_nil ?_
      refine de rfl (eo_field rfl f24_2 rfl) rfl ?_
      refine de rfl (by first | exact eo_load 0 rfl s22 rfl rfl rfl rfl | exact eo_load 1 rfl s22 rfl rfl rfl rfl | exact eo_load 2 rfl s22 rfl rfl rfl rfl | exact eo_load 3 rfl s22 rfl rfl rfl rfl | exact eo_load 4 rfl s22 rfl rfl rfl rfl | exact eo_load 5 rfl s22 rfl rfl rfl rfl) rfl ?_
      refine de rfl (eo_mv rfl rfl) rfl ?_
      refine de rfl (by first | exact eo_indexR rfl sl22 rfl rfl hr (by simp) (by omega) (by omega) | exact eo_index0 rfl sl22 rfl rfl (by omega) (by omega) | exact eo_index rfl sl22 rfl rfl (by omega) (by omega)) rfl ?_
      refine de rfl (by first | exact eo_load_old rfl s5 rfl (Rd.tabi hr (k := k) (by omega)) (by simp) | exact eo_geti 0 rfl s5 rfl rfl (by omega) | exact eo_geti 1 rfl s5 rfl rfl (by omega) | exact eo_geti 2 rfl s5 rfl rfl (by omega) | exact eo_geti 3 rfl s5 rfl rfl (by omega) | exact eo_geti 4 rfl s5 rfl rfl (by omega) | exact eo_geti 5 rfl s5 rfl rfl (by omega)) rfl ?_
      refine de rfl (eo_field rfl f24_2 rfl) rfl ?_
      refine de rfl (by first | exact eo_load 0 rfl s22 rfl rfl rfl rfl | exact eo_load 1 rfl s22 rfl rfl rfl rfl | exact eo_load 2 rfl s22 rfl rfl rfl rfl | exact eo_load 3 rfl s22 rfl rfl rfl rfl | exact eo_load 4 rfl s22 rfl rfl rfl rfl | exact eo_load 5 rfl s22 rfl rfl rfl rfl) rfl ?_
      refine de rfl (eo_mv rfl rfl) rfl ?_
      refine de rfl (by first | exact eo_indexR rfl sl22 rfl rfl hr' (by simp) (by omega) (by omega) | exact eo_index0 rfl sl22 rfl rfl (by omega) (by omega) | exact eo_index rfl sl22 rfl rfl (by omega) (by omega)) rfl ?_
      refine de rfl (by first | exact eo_load_old rfl s5 rfl (Rd.tabi hr' (k := k) (by omega)) (by simp) | exact eo_geti 0 rfl s5 rfl rfl (by omega) | exact eo_geti 1 rfl s5 rfl rfl (by omega) | exact eo_geti 2 rfl s5 rfl rfl (by omega) | exact eo_geti 3 rfl s5 rfl rfl (by omega) | exact eo_geti 4 rfl s5 rfl rfl (by omega) | exact eo_geti 5 rfl s5 rfl rfl (by omega)) rfl ?_
      refine de rfl (eo_neq rfl rfl rfl) rfl ?_
      refine ge_nil ?_
      refine ga_nil ?_
      refine gi_nil ?_
      refine gq_nq ?_
      refine gq_next ?_
      refine gc_cond rfl (fun hc44 => ?_) (fun hc44 => ?_)
      ·
        refine gc_seq ?_
        refine gc_region ?_
        refine ne (eo_as rfl rfl) rfl ?_
        refine go_nil ?_
        refine gq_next ?_
        refine gc_ret ?_
        refine gq_block_ret ?_
        refine gq_then_ret ?_
        refine gq_then_ret ?_
        refine gq_block_ret ?_
        refine gq_then_ret ?_
        refine gq_results (res1 rfl rfl) ?_
        first
          | exact fun W hO => ⟨ret_bool (eqM_test hc26).symm, hO.toExt⟩
          | exact fun W hO => ⟨ret_bool (eqM_differ k (by omega) (by simpa using hc44)).symm, hO.toExt⟩
          | exact fun W hO => ⟨ret_bool (eqM_yes e1 e2 e3 (fun i hi => hI i (by omega))).symm, hO.toExt⟩
      ·
        refine gc_skip ?_
        refine gq_block_end ?_
        refine gq_next ?_
        refine gc_region ?_
        refine ne (eo_mv rfl rfl) rfl ?_
        refine ne (eo_add rfl rfl rfl (by omega) (by omega)) rfl ?_
        refine ne (eo_as rfl rfl) rfl ?_
        refine go_nil ?_
        exact round1 (k + 1) ⟨by omega, upto_succ hI (by simpa using hc44)⟩ (by omega) ⟨rfl, rfl, rfl, trivial⟩ (by first | exact List.Sublist.refl _ | exact List.Sublist.cons _ (List.Sublist.refl _) | exact List.Sublist.cons _ (List.Sublist.cons _ (List.Sublist.refl _)) | exact List.Sublist.cons _ (List.Sublist.cons _ (List.Sublist.cons _ (List.Sublist.refl _))) | exact List.Sublist.cons_cons _ (List.Sublist.cons _ (List.Sublist.refl _)))
    ·
      replace hc31 := of_decide_eq_false hc31
      refine gc_exit ?_
      refine gq_then_exit ?_
      refine gq_then_exit ?_
      refine gq_block_hit ?_
      refine gq_next ?_
      refine gc_seq ?_
      refine gc_region ?_
      refine ne (eo_as rfl rfl) rfl ?_
      refine go_nil ?_
      refine gq_next ?_
      refine gc_ret ?_
      refine gq_results (res1 rfl rfl) ?_
      first
        | exact fun W hO => ⟨ret_bool (eqM_test hc26).symm, hO.toExt⟩
        | exact fun W hO => ⟨ret_bool (eqM_differ k (by omega) (by simpa using hc44)).symm, hO.toExt⟩
        | exact fun W hO => ⟨ret_bool (eqM_yes e1 e2 e3 (fun i hi => hI i (by omega))).symm, hO.toExt⟩

/-- barscan/barscanref43.fits -/
theorem fits43_c (a : Int) (b : Int) (w : World)   :
    Calls Try.prog 39 #[.int .i64 a, .int .i64 b] w (fun e w' => e = .returned (.bool (fitsB a b)) ∧ Ext w w') := by
  refine calls_enter (N := ⟨25, []⟩) [] ([]) Try.func39 rfl rfl rfl (Ow.start _) ?_
  refine gc_seq ?_
  refine gc_region ?_
  refine ne (eo_as rfl rfl) rfl ?_
  refine go_nil ?_
  refine gq_next ?_
  refine gc_seq ?_
  refine gc_region ?_
  refine ne (eo_mv rfl rfl) rfl ?_
  refine ne (eo_geq rfl rfl rfl) rfl ?_
  refine ne (eo_mv rfl rfl) rfl ?_
  refine ng rfl rfl (fun h => eo_mv rfl rfl) rfl ?_
  refine ng rfl rfl (fun h => eo_leq rfl (ev_if h rfl) rfl) rfl ?_
  refine ne (eo_and rfl rfl (fun hb => ev_if hb rfl)) rfl ?_
  refine ne (eo_mv rfl rfl) rfl ?_
  refine ng rfl rfl (fun h => eo_mv rfl rfl) rfl ?_
  refine ng rfl rfl (fun h => eo_geq rfl (ev_if h rfl) rfl) rfl ?_
  refine ne (eo_and rfl rfl (fun hb => ev_if hb rfl)) rfl ?_
  refine ne (eo_mv rfl rfl) rfl ?_
  refine ng rfl rfl (fun h => eo_mv rfl rfl) rfl ?_
  refine ng rfl rfl (fun h => eo_leq rfl (ev_if h rfl) rfl) rfl ?_
  refine ne (eo_and rfl rfl (fun hb => ev_if hb rfl)) rfl ?_
  refine ne (eo_mv rfl rfl) rfl ?_
  refine ng rfl rfl (fun h => eo_mv rfl rfl) rfl ?_
  refine ng rfl rfl (fun h => eo_mv rfl rfl) rfl ?_
  refine ng rfl rfl (fun h => eo_mul rfl (ev_if h rfl) (ev_if h rfl) (by have hg0 := (and_t h).imp (fun h => (and_t h).imp (fun h => (and_t h).imp (fun h => of_decide_eq_true h) (fun h => of_decide_eq_true h)) (fun h => of_decide_eq_true h)) (fun h => of_decide_eq_true h); first | omega | (have hm := mul_in (a := a) (b := b) (by omega) (by omega) (by omega) (by omega); omega)) (by have hg0 := (and_t h).imp (fun h => (and_t h).imp (fun h => (and_t h).imp (fun h => of_decide_eq_true h) (fun h => of_decide_eq_true h)) (fun h => of_decide_eq_true h)) (fun h => of_decide_eq_true h); first | omega | (have hm := mul_in (a := a) (b := b) (by omega) (by omega) (by omega) (by omega); omega))) rfl ?_
  refine ng rfl rfl (fun h => eo_leq rfl (ev_if h rfl) rfl) rfl ?_
  refine ne (eo_and rfl rfl (fun hb => ev_if hb rfl)) rfl ?_
  refine ne (eo_as rfl rfl) rfl ?_
  refine go_nil ?_
  refine gq_next ?_
  refine gc_ret ?_
  refine gq_results (res1 rfl rfl) ?_
  exact fun W1 hO => ⟨ret_bool (by simp [fitsB, Bool.and_assoc]), hO.toExt⟩

end Go.Proofs.Ytibooikbbcilcaa
