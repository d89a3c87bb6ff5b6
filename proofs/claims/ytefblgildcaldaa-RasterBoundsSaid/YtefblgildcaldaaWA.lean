/-
  The walks of the functions of package raster and of the document's answer (part A): what each call returns, at every argument.
-/
import Derived.Test.YtefblgildcaldaaProg
import Derived.Test.YtefblgildcaldaaPb
namespace Go.Proofs.Ytefblgildcaldaa
open Go.RowKit Go.Eng

open Go.Bs
theorem f24_0 : FieldAt Try.prog 24 0 0 := ⟨_, _, 0, Try.underlying24, rfl, by kernel_rfl, rfl⟩
theorem s3 : TyS Try.prog 3 := ⟨⟨_, Try.underlying3, rfl⟩, by kernel_rfl⟩
theorem f24_1 : FieldAt Try.prog 24 1 1 := ⟨_, _, 0, Try.underlying24, rfl, by kernel_rfl, rfl⟩
theorem en45 : Ent Try.prog 45 := ent_of Try.func45 (by kernel_rfl) rfl
theorem f24_2 : FieldAt Try.prog 24 2 2 := ⟨_, _, 0, Try.underlying24, rfl, by kernel_rfl, rfl⟩
theorem s22 : TyS Try.prog 22 := ⟨⟨_, Try.underlying22, rfl⟩, by kernel_rfl⟩
theorem f55_0 : FieldAt Try.prog 55 0 0 := ⟨_, _, 0, Try.underlying55, rfl, by kernel_rfl, rfl⟩
theorem f55_1 : FieldAt Try.prog 55 1 1 := ⟨_, _, 0, Try.underlying55, rfl, by kernel_rfl, rfl⟩
theorem f55_2 : FieldAt Try.prog 55 2 2 := ⟨_, _, 0, Try.underlying55, rfl, by kernel_rfl, rfl⟩
theorem s53 : TyS Try.prog 53 := ⟨⟨_, Try.underlying53, rfl⟩, by kernel_rfl⟩
theorem en49 : Ent Try.prog 49 := ent_of Try.func49 (by kernel_rfl) rfl
theorem a24 : TyA Try.prog 24 3 := ⟨⟨_, Try.underlying24, rfl⟩, by kernel_rfl⟩
theorem en36 : Ent Try.prog 36 := ent_of Try.func36 (by kernel_rfl) rfl
theorem a55 : TyA Try.prog 55 3 := ⟨⟨_, Try.underlying55, rfl⟩, by kernel_rfl⟩
theorem en57 : Ent Try.prog 57 := ent_of Try.func57 (by kernel_rfl) rfl
theorem sl22 : TySl Try.prog 22 4 1 := ⟨Try.underlying22, by kernel_rfl⟩
theorem s4 : TyS Try.prog 4 := ⟨⟨_, Try.underlying4, rfl⟩, by kernel_rfl⟩
theorem en23 : Ent Try.prog 23 := ent_of Try.func23 (by kernel_rfl) rfl
theorem z24 : TyZ Try.prog 24 [.int .i64 0, .int .i64 0, .slice none 0 0] := .inl (by kernel_rfl)
theorem e4 : TyE Try.prog 4 (.bool false) 1 := ⟨rfl, by kernel_rfl⟩
theorem b24_012 (x0 : Int) (x1 : Int) (x2A : Option Addr) (x2n x2c : Nat) (W : World) : (Instr.build 24 #[(0, .int .i64 x0), (1, .int .i64 x1), (2, .slice x2A x2n x2c)]).run Try.prog W = .ok (.agg #[.int .i64 x0, .int .i64 x1, .slice x2A x2n x2c]) W := by kernel_rfl
theorem en46 : Ent Try.prog 46 := ent_of Try.func46 (by kernel_rfl) rfl
theorem b24_  (W : World) : (Instr.build 24 #[]).run Try.prog W = .ok (.agg #[.int .i64 0, .int .i64 0, .slice none 0 0]) W := by kernel_rfl
theorem lit22_0 (W : World) : (Instr.buildSlice 22 0 #[]).run Try.prog W = .ok (.slice (some ⟨W.heap.size, 0, none⟩) 0 0) (W.alloc (.cells #[] 4)) := by kernel_rfl
theorem lit53_0 (W : World) : (Instr.buildSlice 53 0 #[]).run Try.prog W = .ok (.slice (some ⟨W.heap.size, 0, none⟩) 0 0) (W.alloc (.cells #[] 5)) := by kernel_rfl
theorem e5 : TyE Try.prog 5 (.int .u8 0) 1 := ⟨rfl, by kernel_rfl⟩
theorem sl53 : TySl Try.prog 53 5 1 := ⟨Try.underlying53, by kernel_rfl⟩

/-- barscan/raster.possible -/
theorem possible_c (a b : Int) (w : World) :
    Calls Try.prog 45 #[.int .i64 a, .int .i64 b] w fun e w' => e = .returned (.bool (fitsB a b)) ∧ Ext w w' := by
  refine calls_enter (N := ⟨25, []⟩) ([]) ([]) Try.func45 rfl rfl rfl (Ow.start _) ?_
  refine gc_seq ?_
  refine gc_region ?_
  refine ne (eo_as rfl rfl) rfl ?_
  refine go_nil ?_
  refine gq_next ?_
  refine gc_seq ?_
  refine gc_region ?_
  refine ne (eo_mv rfl rfl) rfl ?_
  refine ne (eo_geq rfl rfl rfl) rfl ?_
  refine ne (eo_mv rfl rfl) rfl ?_
  refine ng rfl rfl (fun h => eo_mv rfl rfl) rfl ?_
  refine ng rfl rfl (fun h => eo_leq rfl (ev_if h rfl) rfl) rfl ?_
  refine ne (eo_and rfl rfl (fun hb => ev_if hb rfl)) rfl ?_
  refine ne (eo_mv rfl rfl) rfl ?_
  refine ng rfl rfl (fun h => eo_mv rfl rfl) rfl ?_
  refine ng rfl rfl (fun h => eo_geq rfl (ev_if h rfl) rfl) rfl ?_
  refine ne (eo_and rfl rfl (fun hb => ev_if hb rfl)) rfl ?_
  refine ne (eo_mv rfl rfl) rfl ?_
  refine ng rfl rfl (fun h => eo_mv rfl rfl) rfl ?_
  refine ng rfl rfl (fun h => eo_leq rfl (ev_if h rfl) rfl) rfl ?_
  refine ne (eo_and rfl rfl (fun hb => ev_if hb rfl)) rfl ?_
  refine ne (eo_mv rfl rfl) rfl ?_
  refine ng rfl rfl (fun h => eo_mv rfl rfl) rfl ?_
  refine ng rfl rfl (fun h => eo_mv rfl rfl) rfl ?_
  refine ng rfl rfl (fun h => eo_mul rfl (ev_if h rfl) (ev_if h rfl) (mul_lo h) (mul_hi h)) rfl ?_
  refine ng rfl rfl (fun h => eo_leq rfl (ev_if h rfl) rfl) rfl ?_
  refine ne (eo_and rfl rfl (fun hb => ev_if hb rfl)) rfl ?_
  refine ne (eo_as rfl rfl) rfl ?_
  refine go_nil ?_
  refine gq_next ?_
  refine gc_ret ?_
  refine gq_results (res1 rfl rfl) ?_
  exact fun W hO => ⟨ret_bool (by simp [fitsB, Bool.and_assoc]), hO.toExt⟩

/-- barscan/barscanref31.fits -/
theorem fits_c (a b : Int) (w : World) :
    Calls Try.prog 49 #[.int .i64 a, .int .i64 b] w fun e w' => e = .returned (.bool (fitsB a b)) ∧ Ext w w' := by
  refine calls_enter (N := ⟨25, []⟩) ([]) ([]) Try.func49 rfl rfl rfl (Ow.start _) ?_
  refine gc_seq ?_
  refine gc_region ?_
  refine ne (eo_as rfl rfl) rfl ?_
  refine go_nil ?_
  refine gq_next ?_
  refine gc_seq ?_
  refine gc_region ?_
  refine ne (eo_mv rfl rfl) rfl ?_
  refine ne (eo_geq rfl rfl rfl) rfl ?_
  refine ne (eo_mv rfl rfl) rfl ?_
  refine ng rfl rfl (fun h => eo_mv rfl rfl) rfl ?_
  refine ng rfl rfl (fun h => eo_leq rfl (ev_if h rfl) rfl) rfl ?_
  refine ne (eo_and rfl rfl (fun hb => ev_if hb rfl)) rfl ?_
  refine ne (eo_mv rfl rfl) rfl ?_
  refine ng rfl rfl (fun h => eo_mv rfl rfl) rfl ?_
  refine ng rfl rfl (fun h => eo_geq rfl (ev_if h rfl) rfl) rfl ?_
  refine ne (eo_and rfl rfl (fun hb => ev_if hb rfl)) rfl ?_
  refine ne (eo_mv rfl rfl) rfl ?_
  refine ng rfl rfl (fun h => eo_mv rfl rfl) rfl ?_
  refine ng rfl rfl (fun h => eo_leq rfl (ev_if h rfl) rfl) rfl ?_
  refine ne (eo_and rfl rfl (fun hb => ev_if hb rfl)) rfl ?_
  refine ne (eo_mv rfl rfl) rfl ?_
  refine ng rfl rfl (fun h => eo_mv rfl rfl) rfl ?_
  refine ng rfl rfl (fun h => eo_mv rfl rfl) rfl ?_
  refine ng rfl rfl (fun h => eo_mul rfl (ev_if h rfl) (ev_if h rfl) (mul_lo h) (mul_hi h)) rfl ?_
  refine ng rfl rfl (fun h => eo_leq rfl (ev_if h rfl) rfl) rfl ?_
  refine ne (eo_and rfl rfl (fun hb => ev_if hb rfl)) rfl ?_
  refine ne (eo_as rfl rfl) rfl ?_
  refine go_nil ?_
  refine gq_next ?_
  refine gc_ret ?_
  refine gq_results (res1 rfl rfl) ?_
  exact fun W hO => ⟨ret_bool (by simp [fitsB, Bool.and_assoc]), hO.toExt⟩

/-- barscan/raster.near -/
theorem near_c (n : Int) (w : World) :
    Calls Try.prog 48 #[.int .i64 n] w fun e w' => e = .returned (.int .i64 (nearI 8192 n)) ∧ Ext w w' := by
  refine calls_enter (N := ⟨6, []⟩) ([]) ([]) Try.func48 rfl rfl rfl (Ow.start _) ?_
  refine gc_seq ?_
  refine gc_region ?_
  refine ne (eo_as rfl rfl) rfl ?_
  refine go_nil ?_
  refine gq_next ?_
  refine gc_seq ?_
  refine gc_region ?_
  refine ne (eo_mv rfl rfl) rfl ?_
  refine ne (eo_min rfl rfl rfl) rfl ?_
  refine ne (eo_max rfl rfl rfl) rfl ?_
  refine ne (eo_as rfl rfl) rfl ?_
  refine go_nil ?_
  refine gq_next ?_
  refine gc_ret ?_
  refine gq_results (res1 rfl rfl) ?_
  exact fun W hO => ⟨ret_int (by unfold nearI; omega), hO.toExt⟩

/-- barscan/barscanref31.near -/
theorem rnear_c (n : Int) (w : World) :
    Calls Try.prog 50 #[.int .i64 n] w fun e w' => e = .returned (.int .i64 (nearI 10000 n)) ∧ Ext w w' := by
  refine calls_enter (N := ⟨6, []⟩) ([]) ([]) Try.func50 rfl rfl rfl (Ow.start _) ?_
  refine gc_seq ?_
  refine gc_region ?_
  refine ne (eo_as rfl rfl) rfl ?_
  refine go_nil ?_
  refine gq_next ?_
  refine gc_seq ?_
  refine gc_region ?_
  refine ne (eo_mv rfl rfl) rfl ?_
  refine ne (eo_min rfl rfl rfl) rfl ?_
  refine ne (eo_max rfl rfl rfl) rfl ?_
  refine ne (eo_as rfl rfl) rfl ?_
  refine go_nil ?_
  refine gq_next ?_
  refine gc_ret ?_
  refine gq_results (res1 rfl rfl) ?_
  exact fun W hO => ⟨ret_int (by unfold nearI; omega), hO.toExt⟩

/-- barscan/raster.Check -/
theorem check_c (W H : Int) (A : Option Addr) (n c : Nat) (w : World) :
    Calls Try.prog 23 #[.agg #[.int .i64 W, .int .i64 H, .slice A n c]] w fun e w' => e = .returned (.int .i64 (chk W H n)) ∧ Ext w w' := by
  refine calls_enter (N := ⟨20, []⟩) ([]) ([]) Try.func23 rfl rfl rfl (Ow.start _) ?_
  refine gc_seq ?_
  refine gc_region ?_
  refine nx (xo_boxA rfl rfl) rfl ?_
  rintro _ _ ⟨g1, rfl, rfl⟩
  refine ne (eo_as rfl rfl) rfl ?_
  refine go_nil ?_
  refine gq_next ?_
  refine gc_seq ?_
  refine gc_seq ?_
  refine gc_region ?_
  refine ne (eo_field rfl f24_0 rfl) rfl ?_
  refine ne (by first | exact eo_load 0 rfl s3 rfl rfl rfl rfl | exact eo_load 1 rfl s3 rfl rfl rfl rfl | exact eo_load 2 rfl s3 rfl rfl rfl rfl | exact eo_load 3 rfl s3 rfl rfl rfl rfl | exact eo_load 4 rfl s3 rfl rfl rfl rfl | exact eo_load 5 rfl s3 rfl rfl rfl rfl) rfl ?_
  refine ne (eo_field rfl f24_1 rfl) rfl ?_
  refine ne (by first | exact eo_load 0 rfl s3 rfl rfl rfl rfl | exact eo_load 1 rfl s3 rfl rfl rfl rfl | exact eo_load 2 rfl s3 rfl rfl rfl rfl | exact eo_load 3 rfl s3 rfl rfl rfl rfl | exact eo_load 4 rfl s3 rfl rfl rfl rfl | exact eo_load 5 rfl s3 rfl rfl rfl rfl) rfl ?_
  refine ne (eo_call rfl en45 rfl (fun W _ => possible_c _ _ W)) rfl ?_
  refine ne (eo_not rfl rfl) rfl ?_
  refine ne (eo_mv rfl rfl) rfl ?_
  refine ng rfl rfl (fun h => eo_field rfl f24_2 rfl) rfl ?_
  refine ng rfl rfl (fun h => by first | exact eo_load 0 rfl s22 (ev_if h rfl) rfl rfl rfl | exact eo_load 1 rfl s22 (ev_if h rfl) rfl rfl rfl | exact eo_load 2 rfl s22 (ev_if h rfl) rfl rfl rfl | exact eo_load 3 rfl s22 (ev_if h rfl) rfl rfl rfl | exact eo_load 4 rfl s22 (ev_if h rfl) rfl rfl rfl | exact eo_load 5 rfl s22 (ev_if h rfl) rfl rfl rfl) rfl ?_
  refine ng rfl rfl (fun h => eo_len rfl Try.underlying22 (ev_if h rfl)) rfl ?_
  refine ng rfl rfl (fun h => eo_field rfl f24_0 rfl) rfl ?_
  refine ng rfl rfl (fun h => by first | exact eo_load 0 rfl s3 (ev_if h rfl) rfl rfl rfl | exact eo_load 1 rfl s3 (ev_if h rfl) rfl rfl rfl | exact eo_load 2 rfl s3 (ev_if h rfl) rfl rfl rfl | exact eo_load 3 rfl s3 (ev_if h rfl) rfl rfl rfl | exact eo_load 4 rfl s3 (ev_if h rfl) rfl rfl rfl | exact eo_load 5 rfl s3 (ev_if h rfl) rfl rfl rfl) rfl ?_
  refine ng rfl rfl (fun h => eo_field rfl f24_1 rfl) rfl ?_
  refine ng rfl rfl (fun h => by first | exact eo_load 0 rfl s3 (ev_if h rfl) rfl rfl rfl | exact eo_load 1 rfl s3 (ev_if h rfl) rfl rfl rfl | exact eo_load 2 rfl s3 (ev_if h rfl) rfl rfl rfl | exact eo_load 3 rfl s3 (ev_if h rfl) rfl rfl rfl | exact eo_load 4 rfl s3 (ev_if h rfl) rfl rfl rfl | exact eo_load 5 rfl s3 (ev_if h rfl) rfl rfl rfl) rfl ?_
  refine ng rfl rfl (fun h => eo_mul rfl (ev_if h rfl) (ev_if h rfl) (nfits_lo h) (nfits_hi h)) rfl ?_
  refine ng rfl rfl (fun h => eo_neq rfl (ev_if h rfl) (ev_if h rfl)) rfl ?_
  refine ne (eo_or rfl rfl (fun hb => ev_if hb rfl)) rfl ?_
  refine go_nil ?_
  refine gq_next ?_
  refine gc_cond rfl (fun hc19 => ?_) (fun hc19 => ?_)
  ·
    refine gc_seq ?_
    refine gc_region ?_
    refine ne (eo_as rfl rfl) rfl ?_
    refine go_nil ?_
    refine gq_next ?_
    refine gc_ret ?_
    refine gq_then_ret ?_
    refine gq_results (res1 rfl rfl) ?_
    first
      | exact fun W' hO => ⟨ret_int (chk_no (vld_no hc19)).symm, hO.toExt⟩
      | exact fun W' hO => ⟨ret_int (chk_ok (vld_yes hc19)).symm, hO.toExt⟩
  ·
    refine gc_skip ?_
    refine gq_next ?_
    refine gc_seq ?_
    refine gc_region ?_
    refine ne (eo_as rfl rfl) rfl ?_
    refine go_nil ?_
    refine gq_next ?_
    refine gc_ret ?_
    refine gq_results (res1 rfl rfl) ?_
    first
      | exact fun W' hO => ⟨ret_int (chk_no (vld_no hc19)).symm, hO.toExt⟩
      | exact fun W' hO => ⟨ret_int (chk_ok (vld_yes hc19)).symm, hO.toExt⟩

/-- barscan/raster.CheckImage -/
theorem checkim_c (W H : Int) (A : Option Addr) (n c : Nat) (w : World) :
    Calls Try.prog 29 #[.agg #[.int .i64 W, .int .i64 H, .slice A n c]] w fun e w' => e = .returned (.int .i64 (chk W H n)) ∧ Ext w w' := by
  refine calls_enter (N := ⟨20, []⟩) ([]) ([]) Try.func29 rfl rfl rfl (Ow.start _) ?_
  refine gc_seq ?_
  refine gc_region ?_
  refine nx (xo_boxA rfl rfl) rfl ?_
  rintro _ _ ⟨g1, rfl, rfl⟩
  refine ne (eo_as rfl rfl) rfl ?_
  refine go_nil ?_
  refine gq_next ?_
  refine gc_seq ?_
  refine gc_seq ?_
  refine gc_region ?_
  refine ne (eo_field rfl f55_0 rfl) rfl ?_
  refine ne (by first | exact eo_load 0 rfl s3 rfl rfl rfl rfl | exact eo_load 1 rfl s3 rfl rfl rfl rfl | exact eo_load 2 rfl s3 rfl rfl rfl rfl | exact eo_load 3 rfl s3 rfl rfl rfl rfl | exact eo_load 4 rfl s3 rfl rfl rfl rfl | exact eo_load 5 rfl s3 rfl rfl rfl rfl) rfl ?_
  refine ne (eo_field rfl f55_1 rfl) rfl ?_
  refine ne (by first | exact eo_load 0 rfl s3 rfl rfl rfl rfl | exact eo_load 1 rfl s3 rfl rfl rfl rfl | exact eo_load 2 rfl s3 rfl rfl rfl rfl | exact eo_load 3 rfl s3 rfl rfl rfl rfl | exact eo_load 4 rfl s3 rfl rfl rfl rfl | exact eo_load 5 rfl s3 rfl rfl rfl rfl) rfl ?_
  refine ne (eo_call rfl en45 rfl (fun W _ => possible_c _ _ W)) rfl ?_
  refine ne (eo_not rfl rfl) rfl ?_
  refine ne (eo_mv rfl rfl) rfl ?_
  refine ng rfl rfl (fun h => eo_field rfl f55_2 rfl) rfl ?_
  refine ng rfl rfl (fun h => by first | exact eo_load 0 rfl s53 (ev_if h rfl) rfl rfl rfl | exact eo_load 1 rfl s53 (ev_if h rfl) rfl rfl rfl | exact eo_load 2 rfl s53 (ev_if h rfl) rfl rfl rfl | exact eo_load 3 rfl s53 (ev_if h rfl) rfl rfl rfl | exact eo_load 4 rfl s53 (ev_if h rfl) rfl rfl rfl | exact eo_load 5 rfl s53 (ev_if h rfl) rfl rfl rfl) rfl ?_
  refine ng rfl rfl (fun h => eo_len rfl Try.underlying53 (ev_if h rfl)) rfl ?_
  refine ng rfl rfl (fun h => eo_field rfl f55_0 rfl) rfl ?_
  refine ng rfl rfl (fun h => by first | exact eo_load 0 rfl s3 (ev_if h rfl) rfl rfl rfl | exact eo_load 1 rfl s3 (ev_if h rfl) rfl rfl rfl | exact eo_load 2 rfl s3 (ev_if h rfl) rfl rfl rfl | exact eo_load 3 rfl s3 (ev_if h rfl) rfl rfl rfl | exact eo_load 4 rfl s3 (ev_if h rfl) rfl rfl rfl | exact eo_load 5 rfl s3 (ev_if h rfl) rfl rfl rfl) rfl ?_
  refine ng rfl rfl (fun h => eo_field rfl f55_1 rfl) rfl ?_
  refine ng rfl rfl (fun h => by first | exact eo_load 0 rfl s3 (ev_if h rfl) rfl rfl rfl | exact eo_load 1 rfl s3 (ev_if h rfl) rfl rfl rfl | exact eo_load 2 rfl s3 (ev_if h rfl) rfl rfl rfl | exact eo_load 3 rfl s3 (ev_if h rfl) rfl rfl rfl | exact eo_load 4 rfl s3 (ev_if h rfl) rfl rfl rfl | exact eo_load 5 rfl s3 (ev_if h rfl) rfl rfl rfl) rfl ?_
  refine ng rfl rfl (fun h => eo_mul rfl (ev_if h rfl) (ev_if h rfl) (nfits_lo h) (nfits_hi h)) rfl ?_
  refine ng rfl rfl (fun h => eo_neq rfl (ev_if h rfl) (ev_if h rfl)) rfl ?_
  refine ne (eo_or rfl rfl (fun hb => ev_if hb rfl)) rfl ?_
  refine go_nil ?_
  refine gq_next ?_
  refine gc_cond rfl (fun hc19 => ?_) (fun hc19 => ?_)
  ·
    refine gc_seq ?_
    refine gc_region ?_
    refine ne (eo_as rfl rfl) rfl ?_
    refine go_nil ?_
    refine gq_next ?_
    refine gc_ret ?_
    refine gq_then_ret ?_
    refine gq_results (res1 rfl rfl) ?_
    first
      | exact fun W' hO => ⟨ret_int (chk_no (vld_no hc19)).symm, hO.toExt⟩
      | exact fun W' hO => ⟨ret_int (chk_ok (vld_yes hc19)).symm, hO.toExt⟩
  ·
    refine gc_skip ?_
    refine gq_next ?_
    refine gc_seq ?_
    refine gc_region ?_
    refine ne (eo_as rfl rfl) rfl ?_
    refine go_nil ?_
    refine gq_next ?_
    refine gc_ret ?_
    refine gq_results (res1 rfl rfl) ?_
    first
      | exact fun W' hO => ⟨ret_int (chk_no (vld_no hc19)).symm, hO.toExt⟩
      | exact fun W' hO => ⟨ret_int (chk_ok (vld_yes hc19)).symm, hO.toExt⟩

/-- barscan/barscanref31.Valid -/
theorem valid_c (W H : Int) (A : Option Addr) (n c : Nat) (w : World) :
    Calls Try.prog 36 #[.agg #[.int .i64 W, .int .i64 H, .slice A n c]] w fun e w' => e = .returned (.bool (vldB W H n)) ∧ Ext w w' := by
  refine calls_enter (N := ⟨19, []⟩) ([]) ([]) Try.func36 rfl rfl rfl (Ow.start _) ?_
  refine gc_seq ?_
  refine gc_region ?_
  refine nx (xo_boxA rfl rfl) rfl ?_
  rintro _ _ ⟨g1, rfl, rfl⟩
  refine ne (eo_as rfl rfl) rfl ?_
  refine go_nil ?_
  refine gq_next ?_
  refine gc_seq ?_
  refine gc_region ?_
  refine ne (eo_field rfl f24_0 rfl) rfl ?_
  refine ne (by first | exact eo_load 0 rfl s3 rfl rfl rfl rfl | exact eo_load 1 rfl s3 rfl rfl rfl rfl | exact eo_load 2 rfl s3 rfl rfl rfl rfl | exact eo_load 3 rfl s3 rfl rfl rfl rfl | exact eo_load 4 rfl s3 rfl rfl rfl rfl | exact eo_load 5 rfl s3 rfl rfl rfl rfl) rfl ?_
  refine ne (eo_field rfl f24_1 rfl) rfl ?_
  refine ne (by first | exact eo_load 0 rfl s3 rfl rfl rfl rfl | exact eo_load 1 rfl s3 rfl rfl rfl rfl | exact eo_load 2 rfl s3 rfl rfl rfl rfl | exact eo_load 3 rfl s3 rfl rfl rfl rfl | exact eo_load 4 rfl s3 rfl rfl rfl rfl | exact eo_load 5 rfl s3 rfl rfl rfl rfl) rfl ?_
  refine ne (eo_call rfl en49 rfl (fun W _ => fits_c _ _ W)) rfl ?_
  refine ne (eo_mv rfl rfl) rfl ?_
  refine ng rfl rfl (fun h => eo_field rfl f24_2 rfl) rfl ?_
  refine ng rfl rfl (fun h => by first | exact eo_load 0 rfl s22 (ev_if h rfl) rfl rfl rfl | exact eo_load 1 rfl s22 (ev_if h rfl) rfl rfl rfl | exact eo_load 2 rfl s22 (ev_if h rfl) rfl rfl rfl | exact eo_load 3 rfl s22 (ev_if h rfl) rfl rfl rfl | exact eo_load 4 rfl s22 (ev_if h rfl) rfl rfl rfl | exact eo_load 5 rfl s22 (ev_if h rfl) rfl rfl rfl) rfl ?_
  refine ng rfl rfl (fun h => eo_len rfl Try.underlying22 (ev_if h rfl)) rfl ?_
  refine ng rfl rfl (fun h => eo_field rfl f24_0 rfl) rfl ?_
  refine ng rfl rfl (fun h => by first | exact eo_load 0 rfl s3 (ev_if h rfl) rfl rfl rfl | exact eo_load 1 rfl s3 (ev_if h rfl) rfl rfl rfl | exact eo_load 2 rfl s3 (ev_if h rfl) rfl rfl rfl | exact eo_load 3 rfl s3 (ev_if h rfl) rfl rfl rfl | exact eo_load 4 rfl s3 (ev_if h rfl) rfl rfl rfl | exact eo_load 5 rfl s3 (ev_if h rfl) rfl rfl rfl) rfl ?_
  refine ng rfl rfl (fun h => eo_field rfl f24_1 rfl) rfl ?_
  refine ng rfl rfl (fun h => by first | exact eo_load 0 rfl s3 (ev_if h rfl) rfl rfl rfl | exact eo_load 1 rfl s3 (ev_if h rfl) rfl rfl rfl | exact eo_load 2 rfl s3 (ev_if h rfl) rfl rfl rfl | exact eo_load 3 rfl s3 (ev_if h rfl) rfl rfl rfl | exact eo_load 4 rfl s3 (ev_if h rfl) rfl rfl rfl | exact eo_load 5 rfl s3 (ev_if h rfl) rfl rfl rfl) rfl ?_
  refine ng rfl rfl (fun h => eo_mul rfl (ev_if h rfl) (ev_if h rfl) (fits_lo h) (fits_hi h)) rfl ?_
  refine ng rfl rfl (fun h => eo_eql rfl (ev_if h rfl) (ev_if h rfl)) rfl ?_
  refine ne (eo_and rfl rfl (fun hb => ev_if hb rfl)) rfl ?_
  refine ne (eo_as rfl rfl) rfl ?_
  refine go_nil ?_
  refine gq_next ?_
  refine gc_ret ?_
  refine gq_results (res1 rfl rfl) ?_
  exact fun W' hO => ⟨rfl, hO.toExt⟩

/-- barscan/barscanref31.ValidImage -/
theorem validim_c (W H : Int) (A : Option Addr) (n c : Nat) (w : World) :
    Calls Try.prog 57 #[.agg #[.int .i64 W, .int .i64 H, .slice A n c]] w fun e w' => e = .returned (.bool (vldB W H n)) ∧ Ext w w' := by
  refine calls_enter (N := ⟨19, []⟩) ([]) ([]) Try.func57 rfl rfl rfl (Ow.start _) ?_
  refine gc_seq ?_
  refine gc_region ?_
  refine nx (xo_boxA rfl rfl) rfl ?_
  rintro _ _ ⟨g1, rfl, rfl⟩
  refine ne (eo_as rfl rfl) rfl ?_
  refine go_nil ?_
  refine gq_next ?_
  refine gc_seq ?_
  refine gc_region ?_
  refine ne (eo_field rfl f55_0 rfl) rfl ?_
  refine ne (by first | exact eo_load 0 rfl s3 rfl rfl rfl rfl | exact eo_load 1 rfl s3 rfl rfl rfl rfl | exact eo_load 2 rfl s3 rfl rfl rfl rfl | exact eo_load 3 rfl s3 rfl rfl rfl rfl | exact eo_load 4 rfl s3 rfl rfl rfl rfl | exact eo_load 5 rfl s3 rfl rfl rfl rfl) rfl ?_
  refine ne (eo_field rfl f55_1 rfl) rfl ?_
  refine ne (by first | exact eo_load 0 rfl s3 rfl rfl rfl rfl | exact eo_load 1 rfl s3 rfl rfl rfl rfl | exact eo_load 2 rfl s3 rfl rfl rfl rfl | exact eo_load 3 rfl s3 rfl rfl rfl rfl | exact eo_load 4 rfl s3 rfl rfl rfl rfl | exact eo_load 5 rfl s3 rfl rfl rfl rfl) rfl ?_
  refine ne (eo_call rfl en49 rfl (fun W _ => fits_c _ _ W)) rfl ?_
  refine ne (eo_mv rfl rfl) rfl ?_
  refine ng rfl rfl (fun h => eo_field rfl f55_2 rfl) rfl ?_
  refine ng rfl rfl (fun h => by first | exact eo_load 0 rfl s53 (ev_if h rfl) rfl rfl rfl | exact eo_load 1 rfl s53 (ev_if h rfl) rfl rfl rfl | exact eo_load 2 rfl s53 (ev_if h rfl) rfl rfl rfl | exact eo_load 3 rfl s53 (ev_if h rfl) rfl rfl rfl | exact eo_load 4 rfl s53 (ev_if h rfl) rfl rfl rfl | exact eo_load 5 rfl s53 (ev_if h rfl) rfl rfl rfl) rfl ?_
  refine ng rfl rfl (fun h => eo_len rfl Try.underlying53 (ev_if h rfl)) rfl ?_
  refine ng rfl rfl (fun h => eo_field rfl f55_0 rfl) rfl ?_
  refine ng rfl rfl (fun h => by first | exact eo_load 0 rfl s3 (ev_if h rfl) rfl rfl rfl | exact eo_load 1 rfl s3 (ev_if h rfl) rfl rfl rfl | exact eo_load 2 rfl s3 (ev_if h rfl) rfl rfl rfl | exact eo_load 3 rfl s3 (ev_if h rfl) rfl rfl rfl | exact eo_load 4 rfl s3 (ev_if h rfl) rfl rfl rfl | exact eo_load 5 rfl s3 (ev_if h rfl) rfl rfl rfl) rfl ?_
  refine ng rfl rfl (fun h => eo_field rfl f55_1 rfl) rfl ?_
  refine ng rfl rfl (fun h => by first | exact eo_load 0 rfl s3 (ev_if h rfl) rfl rfl rfl | exact eo_load 1 rfl s3 (ev_if h rfl) rfl rfl rfl | exact eo_load 2 rfl s3 (ev_if h rfl) rfl rfl rfl | exact eo_load 3 rfl s3 (ev_if h rfl) rfl rfl rfl | exact eo_load 4 rfl s3 (ev_if h rfl) rfl rfl rfl | exact eo_load 5 rfl s3 (ev_if h rfl) rfl rfl rfl) rfl ?_
  refine ng rfl rfl (fun h => eo_mul rfl (ev_if h rfl) (ev_if h rfl) (fits_lo h) (fits_hi h)) rfl ?_
  refine ng rfl rfl (fun h => eo_eql rfl (ev_if h rfl) (ev_if h rfl)) rfl ?_
  refine ne (eo_and rfl rfl (fun hb => ev_if hb rfl)) rfl ?_
  refine ne (eo_as rfl rfl) rfl ?_
  refine go_nil ?_
  refine gq_next ?_
  refine gc_ret ?_
  refine gq_results (res1 rfl rfl) ?_
  exact fun W' hO => ⟨rfl, hO.toExt⟩

/-- barscan/barscanref31.Check -/
theorem rcheck_c (W H : Int) (A : Option Addr) (n c : Nat) (w : World) :
    Calls Try.prog 28 #[.agg #[.int .i64 W, .int .i64 H, .slice A n c]] w fun e w' => e = .returned (.int .i64 (chk W H n)) ∧ Ext w w' := by
  refine calls_enter (N := ⟨6, []⟩) ([]) ([]) Try.func28 rfl rfl rfl (Ow.start _) ?_
  refine gc_seq ?_
  refine gc_region ?_
  refine nx (xo_boxA rfl rfl) rfl ?_
  rintro _ _ ⟨g1, rfl, rfl⟩
  refine ne (eo_as rfl rfl) rfl ?_
  refine go_nil ?_
  refine gq_next ?_
  refine gc_seq ?_
  refine gc_seq ?_
  refine gc_region ?_
  refine ne (by first | exact eo_loadA 0 rfl a24 rfl rfl rfl rfl | exact eo_loadA 1 rfl a24 rfl rfl rfl rfl | exact eo_loadA 2 rfl a24 rfl rfl rfl rfl | exact eo_loadA 3 rfl a24 rfl rfl rfl rfl | exact eo_loadA 4 rfl a24 rfl rfl rfl rfl | exact eo_loadA 5 rfl a24 rfl rfl rfl rfl) rfl ?_
  refine ne (eo_call rfl en36 rfl (fun W _ => valid_c _ _ _ _ _ W)) rfl ?_
  refine ne (eo_not rfl rfl) rfl ?_
  refine go_nil ?_
  refine gq_next ?_
  refine gc_cond rfl (fun hc5 => ?_) (fun hc5 => ?_)
  ·
    refine gc_seq ?_
    refine gc_region ?_
    refine ne (eo_as rfl rfl) rfl ?_
    refine go_nil ?_
    refine gq_next ?_
    refine gc_ret ?_
    refine gq_then_ret ?_
    refine gq_results (res1 rfl rfl) ?_
    first
      | exact fun W' hO => ⟨ret_int (chk_no (by simpa using hc5)).symm, hO.toExt⟩
      | exact fun W' hO => ⟨ret_int (chk_ok (by simpa using hc5)).symm, hO.toExt⟩
  ·
    refine gc_skip ?_
    refine gq_next ?_
    refine gc_seq ?_
    refine gc_region ?_
    refine ne (eo_as rfl rfl) rfl ?_
    refine go_nil ?_
    refine gq_next ?_
    refine gc_ret ?_
    refine gq_results (res1 rfl rfl) ?_
    first
      | exact fun W' hO => ⟨ret_int (chk_no (by simpa using hc5)).symm, hO.toExt⟩
      | exact fun W' hO => ⟨ret_int (chk_ok (by simpa using hc5)).symm, hO.toExt⟩

/-- barscan/barscanref31.CheckImage -/
theorem rcheckim_c (W H : Int) (A : Option Addr) (n c : Nat) (w : World) :
    Calls Try.prog 30 #[.agg #[.int .i64 W, .int .i64 H, .slice A n c]] w fun e w' => e = .returned (.int .i64 (chk W H n)) ∧ Ext w w' := by
  refine calls_enter (N := ⟨6, []⟩) ([]) ([]) Try.func30 rfl rfl rfl (Ow.start _) ?_
  refine gc_seq ?_
  refine gc_region ?_
  refine nx (xo_boxA rfl rfl) rfl ?_
  rintro _ _ ⟨g1, rfl, rfl⟩
  refine ne (eo_as rfl rfl) rfl ?_
  refine go_nil ?_
  refine gq_next ?_
  refine gc_seq ?_
  refine gc_seq ?_
  refine gc_region ?_
  refine ne (by first | exact eo_loadA 0 rfl a55 rfl rfl rfl rfl | exact eo_loadA 1 rfl a55 rfl rfl rfl rfl | exact eo_loadA 2 rfl a55 rfl rfl rfl rfl | exact eo_loadA 3 rfl a55 rfl rfl rfl rfl | exact eo_loadA 4 rfl a55 rfl rfl rfl rfl | exact eo_loadA 5 rfl a55 rfl rfl rfl rfl) rfl ?_
  refine ne (eo_call rfl en57 rfl (fun W _ => validim_c _ _ _ _ _ W)) rfl ?_
  refine ne (eo_not rfl rfl) rfl ?_
  refine go_nil ?_
  refine gq_next ?_
  refine gc_cond rfl (fun hc5 => ?_) (fun hc5 => ?_)
  ·
    refine gc_seq ?_
    refine gc_region ?_
    refine ne (eo_as rfl rfl) rfl ?_
    refine go_nil ?_
    refine gq_next ?_
    refine gc_ret ?_
    refine gq_then_ret ?_
    refine gq_results (res1 rfl rfl) ?_
    first
      | exact fun W' hO => ⟨ret_int (chk_no (by simpa using hc5)).symm, hO.toExt⟩
      | exact fun W' hO => ⟨ret_int (chk_ok (by simpa using hc5)).symm, hO.toExt⟩
  ·
    refine gc_skip ?_
    refine gq_next ?_
    refine gc_seq ?_
    refine gc_region ?_
    refine ne (eo_as rfl rfl) rfl ?_
    refine go_nil ?_
    refine gq_next ?_
    refine gc_ret ?_
    refine gq_results (res1 rfl rfl) ?_
    first
      | exact fun W' hO => ⟨ret_int (chk_no (by simpa using hc5)).symm, hO.toExt⟩
      | exact fun W' hO => ⟨ret_int (chk_ok (by simpa using hc5)).symm, hO.toExt⟩

/-- barscan/barscanref31.At -/
theorem rat_c (W H x y : Int) (A : Option Addr) (n c : Nat) (f : Nat → Bool) (w : World) (hr : Rd w A (tab n (bv f))) :
    Calls Try.prog 32 #[.agg #[.int .i64 W, .int .i64 H, .slice A n c], .int .i64 x, .int .i64 y] w fun e w' => e = .returned (.bool (atB W H n f x y)) ∧ Ext w w' := by
  refine calls_enter (N := ⟨41, []⟩) ([]) ([]) Try.func32 rfl rfl rfl (Ow.start _) ?_
  refine gc_seq ?_
  refine gc_region ?_
  refine nx (xo_boxA rfl rfl) rfl ?_
  rintro _ _ ⟨g3, rfl, rfl⟩
  refine ne (eo_as rfl rfl) rfl ?_
  refine go_nil ?_
  refine gq_next ?_
  refine gc_seq ?_
  refine gc_region ?_
  refine ne (by first | exact eo_loadA 0 rfl a24 rfl rfl rfl rfl | exact eo_loadA 1 rfl a24 rfl rfl rfl rfl | exact eo_loadA 2 rfl a24 rfl rfl rfl rfl | exact eo_loadA 3 rfl a24 rfl rfl rfl rfl | exact eo_loadA 4 rfl a24 rfl rfl rfl rfl | exact eo_loadA 5 rfl a24 rfl rfl rfl rfl) rfl ?_
  refine ne (eo_call rfl en36 rfl (fun W _ => valid_c _ _ _ _ _ W)) rfl ?_
  refine ne (eo_mv rfl rfl) rfl ?_
  refine ng rfl rfl (fun h => eo_mv rfl rfl) rfl ?_
  refine ng rfl rfl (fun h => eo_geq rfl (ev_if h rfl) rfl) rfl ?_
  refine ne (eo_and rfl rfl (fun hb => ev_if hb rfl)) rfl ?_
  refine ne (eo_mv rfl rfl) rfl ?_
  refine ng rfl rfl (fun h => eo_mv rfl rfl) rfl ?_
  refine ng rfl rfl (fun h => eo_field rfl f24_0 rfl) rfl ?_
  refine ng rfl rfl (fun h => by first | exact eo_load 0 rfl s3 (ev_if h rfl) rfl rfl rfl | exact eo_load 1 rfl s3 (ev_if h rfl) rfl rfl rfl | exact eo_load 2 rfl s3 (ev_if h rfl) rfl rfl rfl | exact eo_load 3 rfl s3 (ev_if h rfl) rfl rfl rfl | exact eo_load 4 rfl s3 (ev_if h rfl) rfl rfl rfl | exact eo_load 5 rfl s3 (ev_if h rfl) rfl rfl rfl) rfl ?_
  refine ng rfl rfl (fun h => eo_lss rfl (ev_if h rfl) (ev_if h rfl)) rfl ?_
  refine ne (eo_and rfl rfl (fun hb => ev_if hb rfl)) rfl ?_
  refine ne (eo_mv rfl rfl) rfl ?_
  refine ng rfl rfl (fun h => eo_mv rfl rfl) rfl ?_
  refine ng rfl rfl (fun h => eo_geq rfl (ev_if h rfl) rfl) rfl ?_
  refine ne (eo_and rfl rfl (fun hb => ev_if hb rfl)) rfl ?_
  refine ne (eo_mv rfl rfl) rfl ?_
  refine ng rfl rfl (fun h => eo_mv rfl rfl) rfl ?_
  refine ng rfl rfl (fun h => eo_field rfl f24_1 rfl) rfl ?_
  refine ng rfl rfl (fun h => by first | exact eo_load 0 rfl s3 (ev_if h rfl) rfl rfl rfl | exact eo_load 1 rfl s3 (ev_if h rfl) rfl rfl rfl | exact eo_load 2 rfl s3 (ev_if h rfl) rfl rfl rfl | exact eo_load 3 rfl s3 (ev_if h rfl) rfl rfl rfl | exact eo_load 4 rfl s3 (ev_if h rfl) rfl rfl rfl | exact eo_load 5 rfl s3 (ev_if h rfl) rfl rfl rfl) rfl ?_
  refine ng rfl rfl (fun h => eo_lss rfl (ev_if h rfl) (ev_if h rfl)) rfl ?_
  refine ne (eo_and rfl rfl (fun hb => ev_if hb rfl)) rfl ?_
  refine ne (eo_mv rfl rfl) rfl ?_
  refine ng rfl rfl (fun h => eo_field rfl f24_2 rfl) rfl ?_
  refine ng rfl rfl (fun h => by first | exact eo_load 0 rfl s22 (ev_if h rfl) rfl rfl rfl | exact eo_load 1 rfl s22 (ev_if h rfl) rfl rfl rfl | exact eo_load 2 rfl s22 (ev_if h rfl) rfl rfl rfl | exact eo_load 3 rfl s22 (ev_if h rfl) rfl rfl rfl | exact eo_load 4 rfl s22 (ev_if h rfl) rfl rfl rfl | exact eo_load 5 rfl s22 (ev_if h rfl) rfl rfl rfl) rfl ?_
  refine ng rfl rfl (fun h => eo_mv rfl rfl) rfl ?_
  refine ng rfl rfl (fun h => eo_field rfl f24_0 rfl) rfl ?_
  refine ng rfl rfl (fun h => by first | exact eo_load 0 rfl s3 (ev_if h rfl) rfl rfl rfl | exact eo_load 1 rfl s3 (ev_if h rfl) rfl rfl rfl | exact eo_load 2 rfl s3 (ev_if h rfl) rfl rfl rfl | exact eo_load 3 rfl s3 (ev_if h rfl) rfl rfl rfl | exact eo_load 4 rfl s3 (ev_if h rfl) rfl rfl rfl | exact eo_load 5 rfl s3 (ev_if h rfl) rfl rfl rfl) rfl ?_
  refine ng rfl rfl (fun h => eo_mul rfl (ev_if h rfl) (ev_if h rfl) (at_lo1 h) (at_hi1 h)) rfl ?_
  refine ng rfl rfl (fun h => eo_mv rfl rfl) rfl ?_
  refine ng rfl rfl (fun h => eo_add rfl (ev_if h rfl) (ev_if h rfl) (at_lo2 h) (at_hi2 h)) rfl ?_
  refine ng rfl rfl (fun h => by first | exact eo_indexR rfl sl22 (ev_if h rfl) (ev_if h rfl) hr (by simp) (at_ge h) (at_lt h) | exact eo_index0 rfl sl22 (ev_if h rfl) (ev_if h rfl) (by omega) (by omega) | exact eo_index rfl sl22 (ev_if h rfl) (ev_if h rfl) (by omega) (by omega)) rfl ?_
  refine ng rfl rfl (fun h => by first | exact eo_load_old rfl s4 (ev_if h rfl) (Rd.tabb hr (at_ltn h)) (by simp) | exact eo_getb 0 rfl s4 (ev_if h rfl) rfl (by omega) | exact eo_getb 1 rfl s4 (ev_if h rfl) rfl (by omega) | exact eo_getb 2 rfl s4 (ev_if h rfl) rfl (by omega) | exact eo_getb 3 rfl s4 (ev_if h rfl) rfl (by omega) | exact eo_getb 4 rfl s4 (ev_if h rfl) rfl (by omega) | exact eo_getb 5 rfl s4 (ev_if h rfl) rfl (by omega)) rfl ?_
  refine ne (eo_and rfl rfl (fun hb => ev_if hb rfl)) rfl ?_
  refine ne (eo_as rfl rfl) rfl ?_
  refine go_nil ?_
  refine gq_next ?_
  refine gc_ret ?_
  refine gq_results (res1 rfl rfl) ?_
  exact fun W' hO => ⟨ret_bool (by simp [atB, inB, Bool.and_assoc]), hO.toExt⟩

/-- barscan/raster.At -/
theorem at_c (W H x y : Int) (A : Option Addr) (n c : Nat) (f : Nat → Bool) (w : World) (hr : Rd w A (tab n (bv f))) :
    Calls Try.prog 31 #[.agg #[.int .i64 W, .int .i64 H, .slice A n c], .int .i64 x, .int .i64 y] w fun e w' => e = .returned (.bool (atB W H n f x y)) ∧ Ext w w' := by
  refine calls_enter (N := ⟨40, []⟩) ([]) ([]) Try.func31 rfl rfl rfl (Ow.start _) ?_
  refine gc_seq ?_
  refine gc_region ?_
  refine nx (xo_boxA rfl rfl) rfl ?_
  rintro _ _ ⟨g3, rfl, rfl⟩
  refine ne (eo_as rfl rfl) rfl ?_
  refine go_nil ?_
  refine gq_next ?_
  refine gc_seq ?_
  refine gc_seq ?_
  refine gc_region ?_
  refine ne (by first | exact eo_loadA 0 rfl a24 rfl rfl rfl rfl | exact eo_loadA 1 rfl a24 rfl rfl rfl rfl | exact eo_loadA 2 rfl a24 rfl rfl rfl rfl | exact eo_loadA 3 rfl a24 rfl rfl rfl rfl | exact eo_loadA 4 rfl a24 rfl rfl rfl rfl | exact eo_loadA 5 rfl a24 rfl rfl rfl rfl) rfl ?_
  refine ne (eo_call rfl en23 rfl (fun W _ => check_c _ _ _ _ _ W)) rfl ?_
  refine ne (eo_neq rfl rfl rfl) rfl ?_
  refine ne (eo_mv rfl rfl) rfl ?_
  refine ng rfl rfl (fun h => eo_mv rfl rfl) rfl ?_
  refine ng rfl rfl (fun h => eo_lss rfl (ev_if h rfl) rfl) rfl ?_
  refine ne (eo_or rfl rfl (fun hb => ev_if hb rfl)) rfl ?_
  refine ne (eo_mv rfl rfl) rfl ?_
  refine ng rfl rfl (fun h => eo_mv rfl rfl) rfl ?_
  refine ng rfl rfl (fun h => eo_field rfl f24_0 rfl) rfl ?_
  refine ng rfl rfl (fun h => by first | exact eo_load 0 rfl s3 (ev_if h rfl) rfl rfl rfl | exact eo_load 1 rfl s3 (ev_if h rfl) rfl rfl rfl | exact eo_load 2 rfl s3 (ev_if h rfl) rfl rfl rfl | exact eo_load 3 rfl s3 (ev_if h rfl) rfl rfl rfl | exact eo_load 4 rfl s3 (ev_if h rfl) rfl rfl rfl | exact eo_load 5 rfl s3 (ev_if h rfl) rfl rfl rfl) rfl ?_
  refine ng rfl rfl (fun h => eo_geq rfl (ev_if h rfl) (ev_if h rfl)) rfl ?_
  refine ne (eo_or rfl rfl (fun hb => ev_if hb rfl)) rfl ?_
  refine ne (eo_mv rfl rfl) rfl ?_
  refine ng rfl rfl (fun h => eo_mv rfl rfl) rfl ?_
  refine ng rfl rfl (fun h => eo_lss rfl (ev_if h rfl) rfl) rfl ?_
  refine ne (eo_or rfl rfl (fun hb => ev_if hb rfl)) rfl ?_
  refine ne (eo_mv rfl rfl) rfl ?_
  refine ng rfl rfl (fun h => eo_mv rfl rfl) rfl ?_
  refine ng rfl rfl (fun h => eo_field rfl f24_1 rfl) rfl ?_
  refine ng rfl rfl (fun h => by first | exact eo_load 0 rfl s3 (ev_if h rfl) rfl rfl rfl | exact eo_load 1 rfl s3 (ev_if h rfl) rfl rfl rfl | exact eo_load 2 rfl s3 (ev_if h rfl) rfl rfl rfl | exact eo_load 3 rfl s3 (ev_if h rfl) rfl rfl rfl | exact eo_load 4 rfl s3 (ev_if h rfl) rfl rfl rfl | exact eo_load 5 rfl s3 (ev_if h rfl) rfl rfl rfl) rfl ?_
  refine ng rfl rfl (fun h => eo_geq rfl (ev_if h rfl) (ev_if h rfl)) rfl ?_
  refine ne (eo_or rfl rfl (fun hb => ev_if hb rfl)) rfl ?_
  refine go_nil ?_
  refine gq_next ?_
  refine gc_cond rfl (fun hc29 => ?_) (fun hc29 => ?_)
  ·
    refine gc_seq ?_
    refine gc_region ?_
    refine ne (eo_as rfl rfl) rfl ?_
    refine go_nil ?_
    refine gq_next ?_
    refine gc_ret ?_
    refine gq_then_ret ?_
    refine gq_results (res1 rfl rfl) ?_
    first
      | exact fun W' hO => ⟨ret_bool (at_no hc29).symm, hO.toExt⟩
      | exact fun W' hO => ⟨ret_bool (at_yes hc29).symm, hO.toExt⟩
  ·
    refine gc_skip ?_
    refine gq_next ?_
    refine gc_seq ?_
    have hq := at_facts hc29
    obtain ⟨hv, hx0, hx1, hy0, hy1, hb0, hb1, hb2⟩ := hq
    refine gc_region ?_
    refine ne (eo_field rfl f24_2 rfl) rfl ?_
    refine ne (by first | exact eo_load 0 rfl s22 rfl rfl rfl rfl | exact eo_load 1 rfl s22 rfl rfl rfl rfl | exact eo_load 2 rfl s22 rfl rfl rfl rfl | exact eo_load 3 rfl s22 rfl rfl rfl rfl | exact eo_load 4 rfl s22 rfl rfl rfl rfl | exact eo_load 5 rfl s22 rfl rfl rfl rfl) rfl ?_
    refine ne (eo_mv rfl rfl) rfl ?_
    refine ne (eo_field rfl f24_0 rfl) rfl ?_
    refine ne (by first | exact eo_load 0 rfl s3 rfl rfl rfl rfl | exact eo_load 1 rfl s3 rfl rfl rfl rfl | exact eo_load 2 rfl s3 rfl rfl rfl rfl | exact eo_load 3 rfl s3 rfl rfl rfl rfl | exact eo_load 4 rfl s3 rfl rfl rfl rfl | exact eo_load 5 rfl s3 rfl rfl rfl rfl) rfl ?_
    refine ne (eo_mul rfl rfl rfl (by omega) (by omega)) rfl ?_
    refine ne (eo_mv rfl rfl) rfl ?_
    refine ne (eo_add rfl rfl rfl (by omega) (by omega)) rfl ?_
    refine ne (by first | exact eo_indexR rfl sl22 rfl rfl hr (by simp) (by omega) (by omega) | exact eo_index0 rfl sl22 rfl rfl (by omega) (by omega) | exact eo_index rfl sl22 rfl rfl (by omega) (by omega)) rfl ?_
    refine ne (by first | exact eo_load_old rfl s4 rfl (Rd.tabb hr (by omega)) (by simp) | exact eo_getb 0 rfl s4 rfl rfl (by omega) | exact eo_getb 1 rfl s4 rfl rfl (by omega) | exact eo_getb 2 rfl s4 rfl rfl (by omega) | exact eo_getb 3 rfl s4 rfl rfl (by omega) | exact eo_getb 4 rfl s4 rfl rfl (by omega) | exact eo_getb 5 rfl s4 rfl rfl (by omega)) rfl ?_
    refine ne (eo_as rfl rfl) rfl ?_
    refine go_nil ?_
    refine gq_next ?_
    refine gc_ret ?_
    refine gq_results (res1 rfl rfl) ?_
    first
      | exact fun W' hO => ⟨ret_bool (at_no hc29).symm, hO.toExt⟩
      | exact fun W' hO => ⟨ret_bool (at_yes hc29).symm, hO.toExt⟩

/-- barscan/barscanlaw31.small -/
theorem small_c (a b : Int) (w : World) :
    Calls Try.prog 12 #[.int .i64 a, .int .i64 b] w fun e w' => e = .returned (.bool (smallB a b)) ∧ Ext w w' := by
  refine calls_enter (N := ⟨25, []⟩) ([]) ([]) Try.func12 rfl rfl rfl (Ow.start _) ?_
  refine gc_seq ?_
  refine gc_region ?_
  refine ne (eo_as rfl rfl) rfl ?_
  refine go_nil ?_
  refine gq_next ?_
  refine gc_seq ?_
  refine gc_region ?_
  refine ne (eo_mv rfl rfl) rfl ?_
  refine ne (eo_lss rfl rfl rfl) rfl ?_
  refine ne (eo_mv rfl rfl) rfl ?_
  refine ng rfl rfl (fun h => eo_mv rfl rfl) rfl ?_
  refine ng rfl rfl (fun h => eo_lss rfl (ev_if h rfl) rfl) rfl ?_
  refine ne (eo_or rfl rfl (fun hb => ev_if hb rfl)) rfl ?_
  refine ne (eo_mv rfl rfl) rfl ?_
  refine ng rfl rfl (fun h => eo_mv rfl rfl) rfl ?_
  refine ng rfl rfl (fun h => eo_gtr rfl (ev_if h rfl) rfl) rfl ?_
  refine ne (eo_or rfl rfl (fun hb => ev_if hb rfl)) rfl ?_
  refine ne (eo_mv rfl rfl) rfl ?_
  refine ng rfl rfl (fun h => eo_mv rfl rfl) rfl ?_
  refine ng rfl rfl (fun h => eo_gtr rfl (ev_if h rfl) rfl) rfl ?_
  refine ne (eo_or rfl rfl (fun hb => ev_if hb rfl)) rfl ?_
  refine ne (eo_mv rfl rfl) rfl ?_
  refine ng rfl rfl (fun h => eo_mv rfl rfl) rfl ?_
  refine ng rfl rfl (fun h => eo_mv rfl rfl) rfl ?_
  refine ng rfl rfl (fun h => eo_mul rfl (ev_if h rfl) (ev_if h rfl) (small_lo h) (small_hi h)) rfl ?_
  refine ng rfl rfl (fun h => eo_leq rfl (ev_if h rfl) rfl) rfl ?_
  refine ne (eo_or rfl rfl (fun hb => ev_if hb rfl)) rfl ?_
  refine ne (eo_as rfl rfl) rfl ?_
  refine go_nil ?_
  refine gq_next ?_
  refine gc_ret ?_
  refine gq_results (res1 rfl rfl) ?_
  exact fun W hO => ⟨ret_bool (by simp [smallB, Bool.or_assoc]), hO.toExt⟩

/-- barscan/raster.blank -/
theorem blank_c (a b : Int) (w : World) (hf : fitsB a b = true) :
    Calls Try.prog 46 #[.int .i64 a, .int .i64 b] w fun e w' => ∃ v Hn, e = .returned v ∧ RM 4 a b (a * b).toNat (fun _ => false) v Hn ∧ Ow [] w w' Hn := by
  have hb := fits_bd hf
  refine calls_enter (N := ⟨12, []⟩) ([]) ([]) Try.func46 rfl rfl rfl (Ow.start _) ?_
  refine gc_seq ?_
  refine gc_region ?_
  refine nx (xo_alloc rfl z24) rfl ?_
  rintro _ _ ⟨g4, rfl, rfl⟩
  refine go_nil ?_
  refine gq_next ?_
  refine gc_seq ?_
  refine gc_region ?_
  refine ne (eo_mv rfl rfl) rfl ?_
  refine ne (eo_mv rfl rfl) rfl ?_
  refine ne (eo_mv rfl rfl) rfl ?_
  refine ne (eo_mv rfl rfl) rfl ?_
  refine ne (eo_mul rfl rfl rfl (by omega) (by omega)) rfl ?_
  refine nx (xo_makeb rfl Try.underlying22 e4 rfl rfl (by omega) (by omega) (by omega)) rfl ?_
  rintro _ _ ⟨g10, rfl, rfl⟩
  refine ne (eo_build rfl rfl (b24_012 _ _ _ _ _)) rfl ?_
  refine nu (by first | exact xo_storeA 0 rfl a24 rfl rfl (ones_cons (by first | rfl | exact AS.one) (ones_cons (by first | rfl | exact AS.one) (ones_cons (by first | rfl | exact AS.one) ones_nil))) rfl rfl rfl rfl | exact xo_storeA 1 rfl a24 rfl rfl (ones_cons (by first | rfl | exact AS.one) (ones_cons (by first | rfl | exact AS.one) (ones_cons (by first | rfl | exact AS.one) ones_nil))) rfl rfl rfl rfl | exact xo_storeA 2 rfl a24 rfl rfl (ones_cons (by first | rfl | exact AS.one) (ones_cons (by first | rfl | exact AS.one) (ones_cons (by first | rfl | exact AS.one) ones_nil))) rfl rfl rfl rfl | exact xo_storeA 3 rfl a24 rfl rfl (ones_cons (by first | rfl | exact AS.one) (ones_cons (by first | rfl | exact AS.one) (ones_cons (by first | rfl | exact AS.one) ones_nil))) rfl rfl rfl rfl | exact xo_storeA 4 rfl a24 rfl rfl (ones_cons (by first | rfl | exact AS.one) (ones_cons (by first | rfl | exact AS.one) (ones_cons (by first | rfl | exact AS.one) ones_nil))) rfl rfl rfl rfl | exact xo_storeA 5 rfl a24 rfl rfl (ones_cons (by first | rfl | exact AS.one) (ones_cons (by first | rfl | exact AS.one) (ones_cons (by first | rfl | exact AS.one) ones_nil))) rfl rfl rfl rfl) ?_
  rintro _ _ ⟨rfl, rfl⟩
  refine go_nil ?_
  refine gq_next ?_
  refine gc_ret ?_
  refine gq_results (by first | exact resC 0 rfl a24 rfl rfl rfl rfl | exact resC 1 rfl a24 rfl rfl rfl rfl | exact resC 2 rfl a24 rfl rfl rfl rfl | exact resC 3 rfl a24 rfl rfl rfl rfl | exact resC 4 rfl a24 rfl rfl rfl rfl | exact resC 5 rfl a24 rfl rfl rfl rfl) ?_
  first
    | exact fun W' hO => ⟨_, _, rfl, ⟨_, _, _, rfl, rfl, by omega⟩, hO.pick 0 rfl⟩
    | exact fun W' hO => ⟨_, _, rfl, ⟨_, _, _, rfl, rfl, by omega⟩, hO.pick 1 rfl⟩
    | exact fun W' hO => ⟨_, _, rfl, ⟨_, _, _, rfl, rfl, by omega⟩, hO.pick 2 rfl⟩
    | exact fun W' hO => ⟨_, _, rfl, ⟨_, _, _, rfl, rfl, by omega⟩, hO.pick 3 rfl⟩
    | exact fun W' hO => ⟨_, _, rfl, ⟨_, _, _, rfl, rfl, by omega⟩, hO.pick 4 rfl⟩
    | exact fun W' hO => ⟨_, _, rfl, ⟨_, _, _, rfl, rfl, by omega⟩, hO.pick 5 rfl⟩

/-- barscan/raster.New -/
theorem new_ok (a b : Int) (w : World) (hf : fitsB a b = true) :
    Calls Try.prog 26 #[.int .i64 a, .int .i64 b] w fun e w' => ∃ v Hn, e = .returned v ∧ RE 4 a b (a * b).toNat (fun _ => false) v Hn ∧ Ow [] w w' Hn := by
  refine calls_enter (N := ⟨14, []⟩) ([]) ([]) Try.func26 rfl rfl rfl (Ow.start _) ?_
  refine gc_seq ?_
  refine gc_region ?_
  refine nx (xo_alloc rfl z24) rfl ?_
  rintro _ _ ⟨g4, rfl, rfl⟩
  refine ne (eo_as rfl rfl) rfl ?_
  refine go_nil ?_
  refine gq_next ?_
  refine gc_seq ?_
  refine gc_seq ?_
  refine gc_region ?_
  refine ne (eo_mv rfl rfl) rfl ?_
  refine ne (eo_mv rfl rfl) rfl ?_
  refine ne (eo_call rfl en45 rfl (fun W _ => possible_c _ _ W)) rfl ?_
  refine ne (eo_not rfl rfl) rfl ?_
  refine go_nil ?_
  refine gq_next ?_
  refine gc_cond rfl (fun hc9 => ?_) (fun hc9 => ?_)
  ·
    exact absurd hf (by simpa using hc9)
  ·
    refine gc_skip ?_
    refine gq_next ?_
    refine gc_seq ?_
    refine gc_region ?_
    refine ne (eo_mv rfl rfl) rfl ?_
    refine ne (eo_mv rfl rfl) rfl ?_
    refine nx (xo_fresh rfl en46 rfl (fun W _ => blank_c _ _ W hf)) rfl ?_
    rintro _ _ ⟨_, ⟨gb, cb, spb, rfl, rfl, hcb⟩, rfl⟩
    refine nu (by first | exact xo_storeA 0 rfl a24 rfl rfl (ones_cons (by first | rfl | exact AS.one) (ones_cons (by first | rfl | exact AS.one) (ones_cons (by first | rfl | exact AS.one) ones_nil))) rfl rfl rfl rfl | exact xo_storeA 1 rfl a24 rfl rfl (ones_cons (by first | rfl | exact AS.one) (ones_cons (by first | rfl | exact AS.one) (ones_cons (by first | rfl | exact AS.one) ones_nil))) rfl rfl rfl rfl | exact xo_storeA 2 rfl a24 rfl rfl (ones_cons (by first | rfl | exact AS.one) (ones_cons (by first | rfl | exact AS.one) (ones_cons (by first | rfl | exact AS.one) ones_nil))) rfl rfl rfl rfl | exact xo_storeA 3 rfl a24 rfl rfl (ones_cons (by first | rfl | exact AS.one) (ones_cons (by first | rfl | exact AS.one) (ones_cons (by first | rfl | exact AS.one) ones_nil))) rfl rfl rfl rfl | exact xo_storeA 4 rfl a24 rfl rfl (ones_cons (by first | rfl | exact AS.one) (ones_cons (by first | rfl | exact AS.one) (ones_cons (by first | rfl | exact AS.one) ones_nil))) rfl rfl rfl rfl | exact xo_storeA 5 rfl a24 rfl rfl (ones_cons (by first | rfl | exact AS.one) (ones_cons (by first | rfl | exact AS.one) (ones_cons (by first | rfl | exact AS.one) ones_nil))) rfl rfl rfl rfl) ?_
    rintro _ _ ⟨rfl, rfl⟩
    refine ne (eo_as rfl rfl) rfl ?_
    refine go_nil ?_
    refine gq_next ?_
    refine gc_ret ?_
    refine gq_results (by first | exact resCT 0 rfl a24 rfl rfl rfl rfl rfl | exact resCT 1 rfl a24 rfl rfl rfl rfl rfl | exact resCT 2 rfl a24 rfl rfl rfl rfl rfl | exact resCT 3 rfl a24 rfl rfl rfl rfl rfl | exact resCT 4 rfl a24 rfl rfl rfl rfl rfl | exact resCT 5 rfl a24 rfl rfl rfl rfl rfl) ?_
    first
      | exact fun W' hO => ⟨_, _, rfl, ⟨_, _, _, rfl, rfl, by omega⟩, hO.pick 0 rfl⟩
      | exact fun W' hO => ⟨_, _, rfl, ⟨_, _, _, rfl, rfl, by omega⟩, hO.pick 1 rfl⟩
      | exact fun W' hO => ⟨_, _, rfl, ⟨_, _, _, rfl, rfl, by omega⟩, hO.pick 2 rfl⟩
      | exact fun W' hO => ⟨_, _, rfl, ⟨_, _, _, rfl, rfl, by omega⟩, hO.pick 3 rfl⟩
      | exact fun W' hO => ⟨_, _, rfl, ⟨_, _, _, rfl, rfl, by omega⟩, hO.pick 4 rfl⟩
      | exact fun W' hO => ⟨_, _, rfl, ⟨_, _, _, rfl, rfl, by omega⟩, hO.pick 5 rfl⟩

/-- barscan/raster.New -/
theorem new_no (a b : Int) (w : World) (hf : fitsB a b = false) :
    Calls Try.prog 26 #[.int .i64 a, .int .i64 b] w fun e w' => e = .returned (noM 23) ∧ Ext w w' := by
  refine calls_enter (N := ⟨14, []⟩) ([]) ([]) Try.func26 rfl rfl rfl (Ow.start _) ?_
  refine gc_seq ?_
  refine gc_region ?_
  refine nx (xo_alloc rfl z24) rfl ?_
  rintro _ _ ⟨g4, rfl, rfl⟩
  refine ne (eo_as rfl rfl) rfl ?_
  refine go_nil ?_
  refine gq_next ?_
  refine gc_seq ?_
  refine gc_seq ?_
  refine gc_region ?_
  refine ne (eo_mv rfl rfl) rfl ?_
  refine ne (eo_mv rfl rfl) rfl ?_
  refine ne (eo_call rfl en45 rfl (fun W _ => possible_c _ _ W)) rfl ?_
  refine ne (eo_not rfl rfl) rfl ?_
  refine go_nil ?_
  refine gq_next ?_
  refine gc_cond rfl (fun hc9 => ?_) (fun hc9 => ?_)
  ·
    refine gc_seq ?_
    refine gc_region ?_
    refine ne (eo_build rfl rfl (b24_)) rfl ?_
    refine nu (by first | exact xo_storeA 0 rfl a24 rfl rfl (ones_cons (by first | rfl | exact AS.one) (ones_cons (by first | rfl | exact AS.one) (ones_cons (by first | rfl | exact AS.one) ones_nil))) rfl rfl rfl rfl | exact xo_storeA 1 rfl a24 rfl rfl (ones_cons (by first | rfl | exact AS.one) (ones_cons (by first | rfl | exact AS.one) (ones_cons (by first | rfl | exact AS.one) ones_nil))) rfl rfl rfl rfl | exact xo_storeA 2 rfl a24 rfl rfl (ones_cons (by first | rfl | exact AS.one) (ones_cons (by first | rfl | exact AS.one) (ones_cons (by first | rfl | exact AS.one) ones_nil))) rfl rfl rfl rfl | exact xo_storeA 3 rfl a24 rfl rfl (ones_cons (by first | rfl | exact AS.one) (ones_cons (by first | rfl | exact AS.one) (ones_cons (by first | rfl | exact AS.one) ones_nil))) rfl rfl rfl rfl | exact xo_storeA 4 rfl a24 rfl rfl (ones_cons (by first | rfl | exact AS.one) (ones_cons (by first | rfl | exact AS.one) (ones_cons (by first | rfl | exact AS.one) ones_nil))) rfl rfl rfl rfl | exact xo_storeA 5 rfl a24 rfl rfl (ones_cons (by first | rfl | exact AS.one) (ones_cons (by first | rfl | exact AS.one) (ones_cons (by first | rfl | exact AS.one) ones_nil))) rfl rfl rfl rfl) ?_
    rintro _ _ ⟨rfl, rfl⟩
    refine ne (eo_as rfl rfl) rfl ?_
    refine go_nil ?_
    refine gq_next ?_
    refine gc_ret ?_
    refine gq_then_ret ?_
    refine gq_results (by first | exact resCT 0 rfl a24 rfl rfl rfl rfl rfl | exact resCT 1 rfl a24 rfl rfl rfl rfl rfl | exact resCT 2 rfl a24 rfl rfl rfl rfl rfl | exact resCT 3 rfl a24 rfl rfl rfl rfl rfl | exact resCT 4 rfl a24 rfl rfl rfl rfl rfl | exact resCT 5 rfl a24 rfl rfl rfl rfl rfl) ?_
    exact fun W hO => ⟨rfl, hO.toExt⟩
  ·
    exact absurd hf (by simpa using hc9)

/-- barscan/barscanref31.New -/
theorem rnew_ok (a b : Int) (w : World) (hf : fitsB a b = true) :
    Calls Try.prog 27 #[.int .i64 a, .int .i64 b] w fun e w' => ∃ v Hn, e = .returned v ∧ RE 4 a b (a * b).toNat (fun _ => false) v Hn ∧ Ow [] w w' Hn := by
  have hb := fits_bd hf
  refine calls_enter (N := ⟨18, []⟩) ([]) ([]) Try.func27 rfl rfl rfl (Ow.start _) ?_
  refine gc_seq ?_
  refine gc_region ?_
  refine nx (xo_alloc rfl z24) rfl ?_
  rintro _ _ ⟨g4, rfl, rfl⟩
  refine ne (eo_as rfl rfl) rfl ?_
  refine go_nil ?_
  refine gq_next ?_
  refine gc_seq ?_
  refine gc_seq ?_
  refine gc_region ?_
  refine ne (eo_mv rfl rfl) rfl ?_
  refine ne (eo_mv rfl rfl) rfl ?_
  refine ne (eo_call rfl en49 rfl (fun W _ => fits_c _ _ W)) rfl ?_
  refine ne (eo_not rfl rfl) rfl ?_
  refine go_nil ?_
  refine gq_next ?_
  refine gc_cond rfl (fun hc9 => ?_) (fun hc9 => ?_)
  ·
    exact absurd hf (by simpa using hc9)
  ·
    refine gc_skip ?_
    refine gq_next ?_
    refine gc_seq ?_
    refine gc_region ?_
    refine ne (eo_mv rfl rfl) rfl ?_
    refine ne (eo_mv rfl rfl) rfl ?_
    refine ne (eo_mv rfl rfl) rfl ?_
    refine ne (eo_mv rfl rfl) rfl ?_
    refine ne (eo_mul rfl rfl rfl (by omega) (by omega)) rfl ?_
    refine nx (xo_makeb rfl Try.underlying22 e4 rfl rfl (by omega) (by omega) (by omega)) rfl ?_
    rintro _ _ ⟨g16, rfl, rfl⟩
    refine ne (eo_build rfl rfl (b24_012 _ _ _ _ _)) rfl ?_
    refine nu (by first | exact xo_storeA 0 rfl a24 rfl rfl (ones_cons (by first | rfl | exact AS.one) (ones_cons (by first | rfl | exact AS.one) (ones_cons (by first | rfl | exact AS.one) ones_nil))) rfl rfl rfl rfl | exact xo_storeA 1 rfl a24 rfl rfl (ones_cons (by first | rfl | exact AS.one) (ones_cons (by first | rfl | exact AS.one) (ones_cons (by first | rfl | exact AS.one) ones_nil))) rfl rfl rfl rfl | exact xo_storeA 2 rfl a24 rfl rfl (ones_cons (by first | rfl | exact AS.one) (ones_cons (by first | rfl | exact AS.one) (ones_cons (by first | rfl | exact AS.one) ones_nil))) rfl rfl rfl rfl | exact xo_storeA 3 rfl a24 rfl rfl (ones_cons (by first | rfl | exact AS.one) (ones_cons (by first | rfl | exact AS.one) (ones_cons (by first | rfl | exact AS.one) ones_nil))) rfl rfl rfl rfl | exact xo_storeA 4 rfl a24 rfl rfl (ones_cons (by first | rfl | exact AS.one) (ones_cons (by first | rfl | exact AS.one) (ones_cons (by first | rfl | exact AS.one) ones_nil))) rfl rfl rfl rfl | exact xo_storeA 5 rfl a24 rfl rfl (ones_cons (by first | rfl | exact AS.one) (ones_cons (by first | rfl | exact AS.one) (ones_cons (by first | rfl | exact AS.one) ones_nil))) rfl rfl rfl rfl) ?_
    rintro _ _ ⟨rfl, rfl⟩
    refine ne (eo_as rfl rfl) rfl ?_
    refine go_nil ?_
    refine gq_next ?_
    refine gc_ret ?_
    refine gq_results (by first | exact resCT 0 rfl a24 rfl rfl rfl rfl rfl | exact resCT 1 rfl a24 rfl rfl rfl rfl rfl | exact resCT 2 rfl a24 rfl rfl rfl rfl rfl | exact resCT 3 rfl a24 rfl rfl rfl rfl rfl | exact resCT 4 rfl a24 rfl rfl rfl rfl rfl | exact resCT 5 rfl a24 rfl rfl rfl rfl rfl) ?_
    first
      | exact fun W' hO => ⟨_, _, rfl, ⟨_, _, _, rfl, rfl, by omega⟩, hO.pick 0 rfl⟩
      | exact fun W' hO => ⟨_, _, rfl, ⟨_, _, _, rfl, rfl, by omega⟩, hO.pick 1 rfl⟩
      | exact fun W' hO => ⟨_, _, rfl, ⟨_, _, _, rfl, rfl, by omega⟩, hO.pick 2 rfl⟩
      | exact fun W' hO => ⟨_, _, rfl, ⟨_, _, _, rfl, rfl, by omega⟩, hO.pick 3 rfl⟩
      | exact fun W' hO => ⟨_, _, rfl, ⟨_, _, _, rfl, rfl, by omega⟩, hO.pick 4 rfl⟩
      | exact fun W' hO => ⟨_, _, rfl, ⟨_, _, _, rfl, rfl, by omega⟩, hO.pick 5 rfl⟩

/-- barscan/barscanref31.New -/
theorem rnew_no (a b : Int) (w : World) (hf : fitsB a b = false) :
    Calls Try.prog 27 #[.int .i64 a, .int .i64 b] w fun e w' => e = .returned (noM 23) ∧ Ext w w' := by
  refine calls_enter (N := ⟨18, []⟩) ([]) ([]) Try.func27 rfl rfl rfl (Ow.start _) ?_
  refine gc_seq ?_
  refine gc_region ?_
  refine nx (xo_alloc rfl z24) rfl ?_
  rintro _ _ ⟨g4, rfl, rfl⟩
  refine ne (eo_as rfl rfl) rfl ?_
  refine go_nil ?_
  refine gq_next ?_
  refine gc_seq ?_
  refine gc_seq ?_
  refine gc_region ?_
  refine ne (eo_mv rfl rfl) rfl ?_
  refine ne (eo_mv rfl rfl) rfl ?_
  refine ne (eo_call rfl en49 rfl (fun W _ => fits_c _ _ W)) rfl ?_
  refine ne (eo_not rfl rfl) rfl ?_
  refine go_nil ?_
  refine gq_next ?_
  refine gc_cond rfl (fun hc9 => ?_) (fun hc9 => ?_)
  ·
    refine gc_seq ?_
    refine gc_region ?_
    refine ne (eo_build rfl rfl (b24_)) rfl ?_
    refine nu (by first | exact xo_storeA 0 rfl a24 rfl rfl (ones_cons (by first | rfl | exact AS.one) (ones_cons (by first | rfl | exact AS.one) (ones_cons (by first | rfl | exact AS.one) ones_nil))) rfl rfl rfl rfl | exact xo_storeA 1 rfl a24 rfl rfl (ones_cons (by first | rfl | exact AS.one) (ones_cons (by first | rfl | exact AS.one) (ones_cons (by first | rfl | exact AS.one) ones_nil))) rfl rfl rfl rfl | exact xo_storeA 2 rfl a24 rfl rfl (ones_cons (by first | rfl | exact AS.one) (ones_cons (by first | rfl | exact AS.one) (ones_cons (by first | rfl | exact AS.one) ones_nil))) rfl rfl rfl rfl | exact xo_storeA 3 rfl a24 rfl rfl (ones_cons (by first | rfl | exact AS.one) (ones_cons (by first | rfl | exact AS.one) (ones_cons (by first | rfl | exact AS.one) ones_nil))) rfl rfl rfl rfl | exact xo_storeA 4 rfl a24 rfl rfl (ones_cons (by first | rfl | exact AS.one) (ones_cons (by first | rfl | exact AS.one) (ones_cons (by first | rfl | exact AS.one) ones_nil))) rfl rfl rfl rfl | exact xo_storeA 5 rfl a24 rfl rfl (ones_cons (by first | rfl | exact AS.one) (ones_cons (by first | rfl | exact AS.one) (ones_cons (by first | rfl | exact AS.one) ones_nil))) rfl rfl rfl rfl) ?_
    rintro _ _ ⟨rfl, rfl⟩
    refine ne (eo_as rfl rfl) rfl ?_
    refine go_nil ?_
    refine gq_next ?_
    refine gc_ret ?_
    refine gq_then_ret ?_
    refine gq_results (by first | exact resCT 0 rfl a24 rfl rfl rfl rfl rfl | exact resCT 1 rfl a24 rfl rfl rfl rfl rfl | exact resCT 2 rfl a24 rfl rfl rfl rfl rfl | exact resCT 3 rfl a24 rfl rfl rfl rfl rfl | exact resCT 4 rfl a24 rfl rfl rfl rfl rfl | exact resCT 5 rfl a24 rfl rfl rfl rfl rfl) ?_
    exact fun W hO => ⟨rfl, hO.toExt⟩
  ·
    exact absurd hf (by simpa using hc9)

/-- slices.Clone[[]bool,bool] -/
theorem clone_c (A : Option Addr) (n c : Nat) (xs : List Value) (w : World) (hr : Rd w A xs) (hn : xs.length = n) (h1 : ∀ u ∈ xs, u.oneCell' = true) (hb : n ≤ 1073741824) :
    Calls Try.prog 53 #[.slice A n c] w fun e w' => ∃ v Hn, e = .returned v ∧ RApp [] 4 1 n xs v Hn ∧ Ow [] w w' Hn := by
  refine calls_enter (N := ⟨8, []⟩) ([]) ([]) Try.func53 rfl rfl rfl (Ow.start _) ?_
  refine gc_seq ?_
  refine gc_region ?_
  refine ne (eo_as rfl rfl) rfl ?_
  refine go_nil ?_
  refine gq_next ?_
  refine gc_seq ?_
  refine gc_seq ?_
  refine gc_region ?_
  refine ne (eo_mv rfl rfl) rfl ?_
  refine ne (eo_slnil rfl rfl Try.underlying22) rfl ?_
  refine go_nil ?_
  refine gq_next ?_
  refine gc_cond rfl (fun hc4 => ?_) (fun hc4 => ?_)
  ·
    refine gc_seq ?_
    refine gc_region ?_
    refine ne (eo_as rfl rfl) rfl ?_
    refine go_nil ?_
    refine gq_next ?_
    refine gc_ret ?_
    refine gq_then_ret ?_
    refine gq_results (res1 rfl rfl) ?_
    first
      | exact fun W' hO => ⟨_, _, rfl, ⟨s, by simpa using hs, by simp, rfl⟩, hO⟩
      | exact fun W' hO => ⟨_, _, rfl, clone_nil hr hn hc4, hO⟩
  ·
    refine gc_skip ?_
    refine gq_next ?_
    refine gc_seq ?_
    refine gc_region ?_
    refine nx (xo_lit rfl rfl (lit22_0)) rfl ?_
    rintro _ _ ⟨g5, rfl, rfl⟩
    refine ne (eo_mv rfl rfl) rfl ?_
    refine nx (xo_append (s := .at_ g5 [] 0) (xs := []) (news := xs) (n := 0) [] rfl rfl Try.underlying22 e4.toN rfl ⟨by omega, by decide, rfl, rfl⟩ rfl (by omega) (fun W hO => hr.old0 hO) h1 (by simp only [maxLen]; omega) (by omega)) rfl ?_
    rintro _ _ ⟨s, hs, rfl, rfl⟩
    refine ne (eo_as rfl rfl) rfl ?_
    refine go_nil ?_
    refine gq_next ?_
    refine gc_ret ?_
    refine gq_results (res1 rfl rfl) ?_
    first
      | exact fun W' hO => ⟨_, _, rfl, ⟨s, by simpa using hs, by simp, rfl⟩, hO⟩
      | exact fun W' hO => ⟨_, _, rfl, clone_nil hr hn hc4, hO⟩

/-- slices.Clone[[]uint8,uint8] -/
theorem clonei_c (A : Option Addr) (n c : Nat) (xs : List Value) (w : World) (hr : Rd w A xs) (hn : xs.length = n) (h1 : ∀ u ∈ xs, u.oneCell' = true) (hb : n ≤ 1073741824) :
    Calls Try.prog 62 #[.slice A n c] w fun e w' => ∃ v Hn, e = .returned v ∧ RApp [] 5 1 n xs v Hn ∧ Ow [] w w' Hn := by
  refine calls_enter (N := ⟨8, []⟩) ([]) ([]) Try.func62 rfl rfl rfl (Ow.start _) ?_
  refine gc_seq ?_
  refine gc_region ?_
  refine ne (eo_as rfl rfl) rfl ?_
  refine go_nil ?_
  refine gq_next ?_
  refine gc_seq ?_
  refine gc_seq ?_
  refine gc_region ?_
  refine ne (eo_mv rfl rfl) rfl ?_
  refine ne (eo_slnil rfl rfl Try.underlying53) rfl ?_
  refine go_nil ?_
  refine gq_next ?_
  refine gc_cond rfl (fun hc4 => ?_) (fun hc4 => ?_)
  ·
    refine gc_seq ?_
    refine gc_region ?_
    refine ne (eo_as rfl rfl) rfl ?_
    refine go_nil ?_
    refine gq_next ?_
    refine gc_ret ?_
    refine gq_then_ret ?_
    refine gq_results (res1 rfl rfl) ?_
    first
      | exact fun W' hO => ⟨_, _, rfl, ⟨s, by simpa using hs, by simp, rfl⟩, hO⟩
      | exact fun W' hO => ⟨_, _, rfl, clone_nil hr hn hc4, hO⟩
  ·
    refine gc_skip ?_
    refine gq_next ?_
    refine gc_seq ?_
    refine gc_region ?_
    refine nx (xo_lit rfl rfl (lit53_0)) rfl ?_
    rintro _ _ ⟨g5, rfl, rfl⟩
    refine ne (eo_mv rfl rfl) rfl ?_
    refine nx (xo_append (s := .at_ g5 [] 0) (xs := []) (news := xs) (n := 0) [] rfl rfl Try.underlying53 e5.toN rfl ⟨by omega, by decide, rfl, rfl⟩ rfl (by omega) (fun W hO => hr.old0 hO) h1 (by simp only [maxLen]; omega) (by omega)) rfl ?_
    rintro _ _ ⟨s, hs, rfl, rfl⟩
    refine ne (eo_as rfl rfl) rfl ?_
    refine go_nil ?_
    refine gq_next ?_
    refine gc_ret ?_
    refine gq_results (res1 rfl rfl) ?_
    first
      | exact fun W' hO => ⟨_, _, rfl, ⟨s, by simpa using hs, by simp, rfl⟩, hO⟩
      | exact fun W' hO => ⟨_, _, rfl, clone_nil hr hn hc4, hO⟩

end Go.Proofs.Ytefblgildcaldaa
