/-
  The walks of the functions of package font and of the document's answer (part B): what each call returns, at every argument.
-/
import Derived.Test.YtjndoanhkfdngaaWA
namespace Go.Proofs.Ytjndoanhkfdngaa
open Go.RowKit Go.Eng

open Go.Bs
theorem s9 : TyS Try.prog 9 := ⟨⟨_, Try.underlying9, rfl⟩, by kernel_rfl⟩
theorem ba48 {x0 x1 x2 x3 x4 x5 x6 x7 x8 x9 x10 x11 x12 x13 x14 x15 x16 x17 x18 x19 x20 x21 x22 x23 x24 x25 x26 x27 x28 x29 x30 x31 : ByteArray} (W : World) : (Instr.build 48 #[(0, .string x0), (1, .string x1), (2, .string x2), (3, .string x3), (4, .string x4), (5, .string x5), (6, .string x6), (7, .string x7), (8, .string x8), (9, .string x9), (10, .string x10), (11, .string x11), (12, .string x12), (13, .string x13), (14, .string x14), (15, .string x15), (16, .string x16), (17, .string x17), (18, .string x18), (19, .string x19), (20, .string x20), (21, .string x21), (22, .string x22), (23, .string x23), (24, .string x24), (25, .string x25), (26, .string x26), (27, .string x27), (28, .string x28), (29, .string x29), (30, .string x30), (31, .string x31)]).run Try.prog W = .ok (.agg #[.string x0, .string x1, .string x2, .string x3, .string x4, .string x5, .string x6, .string x7, .string x8, .string x9, .string x10, .string x11, .string x12, .string x13, .string x14, .string x15, .string x16, .string x17, .string x18, .string x19, .string x20, .string x21, .string x22, .string x23, .string x24, .string x25, .string x26, .string x27, .string x28, .string x29, .string x30, .string x31]) W := by kernel_rfl
theorem z48 : TyZ Try.prog 48 [.string ByteArray.empty, .string ByteArray.empty, .string ByteArray.empty, .string ByteArray.empty, .string ByteArray.empty, .string ByteArray.empty, .string ByteArray.empty, .string ByteArray.empty, .string ByteArray.empty, .string ByteArray.empty, .string ByteArray.empty, .string ByteArray.empty, .string ByteArray.empty, .string ByteArray.empty, .string ByteArray.empty, .string ByteArray.empty, .string ByteArray.empty, .string ByteArray.empty, .string ByteArray.empty, .string ByteArray.empty, .string ByteArray.empty, .string ByteArray.empty, .string ByteArray.empty, .string ByteArray.empty, .string ByteArray.empty, .string ByteArray.empty, .string ByteArray.empty, .string ByteArray.empty, .string ByteArray.empty, .string ByteArray.empty, .string ByteArray.empty, .string ByteArray.empty] := .inl (by kernel_rfl)
theorem a48 : TyA Try.prog 48 32 := ⟨⟨_, Try.underlying48, rfl⟩, by kernel_rfl⟩
theorem sz9 : (Try.prog.info? 9).map (·.size) = some 1 := by kernel_rfl
theorem ba49 {x0 x1 x2 x3 x4 x5 x6 x7 x8 x9 x10 x11 x12 x13 x14 x15 x16 x17 x18 x19 x20 x21 x22 x23 x24 x25 x26 x27 x28 x29 : ByteArray} (W : World) : (Instr.build 49 #[(0, .string x0), (1, .string x1), (2, .string x2), (3, .string x3), (4, .string x4), (5, .string x5), (6, .string x6), (7, .string x7), (8, .string x8), (9, .string x9), (10, .string x10), (11, .string x11), (12, .string x12), (13, .string x13), (14, .string x14), (15, .string x15), (16, .string x16), (17, .string x17), (18, .string x18), (19, .string x19), (20, .string x20), (21, .string x21), (22, .string x22), (23, .string x23), (24, .string x24), (25, .string x25), (26, .string x26), (27, .string x27), (28, .string x28), (29, .string x29)]).run Try.prog W = .ok (.agg #[.string x0, .string x1, .string x2, .string x3, .string x4, .string x5, .string x6, .string x7, .string x8, .string x9, .string x10, .string x11, .string x12, .string x13, .string x14, .string x15, .string x16, .string x17, .string x18, .string x19, .string x20, .string x21, .string x22, .string x23, .string x24, .string x25, .string x26, .string x27, .string x28, .string x29]) W := by kernel_rfl
theorem z49 : TyZ Try.prog 49 [.string ByteArray.empty, .string ByteArray.empty, .string ByteArray.empty, .string ByteArray.empty, .string ByteArray.empty, .string ByteArray.empty, .string ByteArray.empty, .string ByteArray.empty, .string ByteArray.empty, .string ByteArray.empty, .string ByteArray.empty, .string ByteArray.empty, .string ByteArray.empty, .string ByteArray.empty, .string ByteArray.empty, .string ByteArray.empty, .string ByteArray.empty, .string ByteArray.empty, .string ByteArray.empty, .string ByteArray.empty, .string ByteArray.empty, .string ByteArray.empty, .string ByteArray.empty, .string ByteArray.empty, .string ByteArray.empty, .string ByteArray.empty, .string ByteArray.empty, .string ByteArray.empty, .string ByteArray.empty, .string ByteArray.empty] := .inl (by kernel_rfl)
theorem a49 : TyA Try.prog 49 30 := ⟨⟨_, Try.underlying49, rfl⟩, by kernel_rfl⟩
theorem en24 : Ent Try.prog 24 := ent_of Try.func24 (by kernel_rfl) rfl
theorem b25_  (W : World) : (Instr.build 25 #[]).run Try.prog W = .ok (.agg #[.int .i64 0, .int .i64 0, .slice none 0 0]) W := by kernel_rfl
theorem en27 : Ent Try.prog 27 := ent_of Try.func27 (by kernel_rfl) rfl
theorem b25_01 (x0 : Int) (x1 : Int) (W : World) : (Instr.build 25 #[(0, .int .i64 x0), (1, .int .i64 x1)]).run Try.prog W = .ok (.agg #[.int .i64 x0, .int .i64 x1, .slice none 0 0]) W := by kernel_rfl
theorem en28 : Ent Try.prog 28 := ent_of Try.func28 (by kernel_rfl) rfl
theorem en32 : Ent Try.prog 32 := ent_of Try.func32 (by kernel_rfl) rfl
theorem en33 : Ent Try.prog 33 := ent_of Try.func33 (by kernel_rfl) rfl
theorem en34 : Ent Try.prog 34 := ent_of Try.func34 (by kernel_rfl) rfl
theorem en35 : Ent Try.prog 35 := ent_of Try.func35 (by kernel_rfl) rfl

/-- barscan/font.known -/
theorem known_c (c : Int) (w : World)   :
    Calls Try.prog 24 #[.int .i32 c] w (fun e w' => e = .returned (.bool (knownB c)) ∧ Ext w w') := by
  refine calls_enter (N := ⟨21, []⟩) [] ([]) Try.func24 rfl rfl rfl (Ow.start _) ?_
  refine gc_seq ?_
  refine gc_region ?_
  refine ne (eo_as rfl rfl) rfl ?_
  refine go_nil ?_
  refine gq_next ?_
  refine gc_seq ?_
  refine gc_region ?_
  refine ne (eo_mv rfl rfl) rfl ?_
  refine ne (eo_geq rfl rfl rfl) rfl ?_
  refine ne (eo_mv rfl rfl) rfl ?_
  refine ng rfl rfl (fun h => eo_mv rfl rfl) rfl ?_
  refine ng rfl rfl (fun h => eo_leq rfl (ev_if h rfl) rfl) rfl ?_
  refine ne (eo_and rfl rfl (fun hb => ev_if hb rfl)) rfl ?_
  refine ne (eo_mv rfl rfl) rfl ?_
  refine ng rfl rfl (fun h => eo_mv rfl rfl) rfl ?_
  refine ng rfl rfl (fun h => eo_eql rfl (ev_if h rfl) rfl) rfl ?_
  refine ne (eo_or rfl rfl (fun hb => ev_if hb rfl)) rfl ?_
  refine ne (eo_mv rfl rfl) rfl ?_
  refine ng rfl rfl (fun h => eo_mv rfl rfl) rfl ?_
  refine ng rfl rfl (fun h => eo_eql rfl (ev_if h rfl) rfl) rfl ?_
  refine ne (eo_or rfl rfl (fun hb => ev_if hb rfl)) rfl ?_
  refine ne (eo_mv rfl rfl) rfl ?_
  refine ng rfl rfl (fun h => eo_mv rfl rfl) rfl ?_
  refine ng rfl rfl (fun h => eo_eql rfl (ev_if h rfl) rfl) rfl ?_
  refine ne (eo_or rfl rfl (fun hb => ev_if hb rfl)) rfl ?_
  refine ne (eo_as rfl rfl) rfl ?_
  refine go_nil ?_
  refine gq_next ?_
  refine gc_ret ?_
  refine gq_results (res1 rfl rfl) ?_
  exact fun W1 hO => ⟨rfl, hO.toExt⟩

/-- barscan/font.signs -/
theorem signs_c (c : Int) (w : World)  (h0 : 32 ≤ c) (h1 : c ≤ 63) :
    Calls Try.prog 27 #[.int .u8 c] w (fun e w' => e = .returned (.string (glyS c)) ∧ Ext w w') := by
  refine calls_enter (N := ⟨9, []⟩) [] ([]) Try.func27 rfl rfl rfl (Ow.start _) ?_
  refine gc_seq ?_
  refine gc_region ?_
  refine ne (eo_as rfl rfl) rfl ?_
  refine go_nil ?_
  refine gq_next ?_
  refine gc_seq ?_
  refine gc_region ?_
  refine ne (eo_build rfl rfl ba48) rfl ?_
  refine nx (xo_alloc rfl z48) rfl ?_
  rintro _ _ ⟨g3, rfl, rfl⟩
  refine nu (xo_storeA 0 rfl a48 rfl rfl (ones_cons (by first | rfl | exact AS.one) (ones_cons (by first | rfl | exact AS.one) (ones_cons (by first | rfl | exact AS.one) (ones_cons (by first | rfl | exact AS.one) (ones_cons (by first | rfl | exact AS.one) (ones_cons (by first | rfl | exact AS.one) (ones_cons (by first | rfl | exact AS.one) (ones_cons (by first | rfl | exact AS.one) (ones_cons (by first | rfl | exact AS.one) (ones_cons (by first | rfl | exact AS.one) (ones_cons (by first | rfl | exact AS.one) (ones_cons (by first | rfl | exact AS.one) (ones_cons (by first | rfl | exact AS.one) (ones_cons (by first | rfl | exact AS.one) (ones_cons (by first | rfl | exact AS.one) (ones_cons (by first | rfl | exact AS.one) (ones_cons (by first | rfl | exact AS.one) (ones_cons (by first | rfl | exact AS.one) (ones_cons (by first | rfl | exact AS.one) (ones_cons (by first | rfl | exact AS.one) (ones_cons (by first | rfl | exact AS.one) (ones_cons (by first | rfl | exact AS.one) (ones_cons (by first | rfl | exact AS.one) (ones_cons (by first | rfl | exact AS.one) (ones_cons (by first | rfl | exact AS.one) (ones_cons (by first | rfl | exact AS.one) (ones_cons (by first | rfl | exact AS.one) (ones_cons (by first | rfl | exact AS.one) (ones_cons (by first | rfl | exact AS.one) (ones_cons (by first | rfl | exact AS.one) (ones_cons (by first | rfl | exact AS.one) (ones_cons (by first | rfl | exact AS.one) ones_nil)))))))))))))))))))))))))))))))) rfl rfl rfl rfl) ?_
  rintro _ _ ⟨rfl, rfl⟩
  refine go_nil ?_
  refine gq_next ?_
  refine gc_seq ?_
  refine gc_region ?_
  refine ne (eo_mv rfl rfl) rfl ?_
  refine ne (eo_subk rfl rfl rfl (u8_in (by omega) (by omega))) rfl ?_
  refine ne (eo_indexArr rfl Try.underlying48 sz9 rfl rfl (by omega) (by omega)) rfl ?_
  refine ne (eo_load 0 rfl s9 rfl rfl rfl (arr_get (n := 32) (F := fun k => Value.string (glyS ((k : Int) + 32))) (by kernel_rfl) (by omega) (congrArg (fun z => Value.string (glyS z)) (show _ = c from by omega)))) rfl ?_
  refine ne (eo_as rfl rfl) rfl ?_
  refine go_nil ?_
  refine gq_next ?_
  refine gc_ret ?_
  refine gq_results (res1 rfl rfl) ?_
  exact fun W1 hO => ⟨rfl, hO.toExt⟩

/-- barscan/font.letters -/
theorem letters_c (c : Int) (w : World)  (h0 : 64 ≤ c) (hk : knownB c = true) :
    Calls Try.prog 28 #[.int .u8 c] w (fun e w' => e = .returned (.string (glyS c)) ∧ Ext w w') := by
  have hki := known_iff.1 hk
  refine calls_enter (N := ⟨22, []⟩) [] ([]) Try.func28 rfl rfl rfl (Ow.start _) ?_
  refine gc_seq ?_
  refine gc_region ?_
  refine ne (eo_as rfl rfl) rfl ?_
  refine go_nil ?_
  refine gq_next ?_
  refine gc_seq ?_
  refine gc_region ?_
  refine ne (eo_build rfl rfl ba49) rfl ?_
  refine nx (xo_alloc rfl z49) rfl ?_
  rintro _ _ ⟨g3, rfl, rfl⟩
  refine nu (xo_storeA 0 rfl a49 rfl rfl (ones_cons (by first | rfl | exact AS.one) (ones_cons (by first | rfl | exact AS.one) (ones_cons (by first | rfl | exact AS.one) (ones_cons (by first | rfl | exact AS.one) (ones_cons (by first | rfl | exact AS.one) (ones_cons (by first | rfl | exact AS.one) (ones_cons (by first | rfl | exact AS.one) (ones_cons (by first | rfl | exact AS.one) (ones_cons (by first | rfl | exact AS.one) (ones_cons (by first | rfl | exact AS.one) (ones_cons (by first | rfl | exact AS.one) (ones_cons (by first | rfl | exact AS.one) (ones_cons (by first | rfl | exact AS.one) (ones_cons (by first | rfl | exact AS.one) (ones_cons (by first | rfl | exact AS.one) (ones_cons (by first | rfl | exact AS.one) (ones_cons (by first | rfl | exact AS.one) (ones_cons (by first | rfl | exact AS.one) (ones_cons (by first | rfl | exact AS.one) (ones_cons (by first | rfl | exact AS.one) (ones_cons (by first | rfl | exact AS.one) (ones_cons (by first | rfl | exact AS.one) (ones_cons (by first | rfl | exact AS.one) (ones_cons (by first | rfl | exact AS.one) (ones_cons (by first | rfl | exact AS.one) (ones_cons (by first | rfl | exact AS.one) (ones_cons (by first | rfl | exact AS.one) (ones_cons (by first | rfl | exact AS.one) (ones_cons (by first | rfl | exact AS.one) (ones_cons (by first | rfl | exact AS.one) ones_nil)))))))))))))))))))))))))))))) rfl rfl rfl rfl) ?_
  rintro _ _ ⟨rfl, rfl⟩
  refine go_nil ?_
  refine gq_next ?_
  refine gc_seq ?_
  refine gc_seq ?_
  refine gc_region ?_
  refine ne (eo_mv rfl rfl) rfl ?_
  refine go_nil ?_
  refine gq_next ?_
  refine gc_block ?_
  refine gc_seq ?_
  refine gc_region ?_
  refine ne (eo_eql rfl rfl rfl) rfl ?_
  refine ne (eo_as rfl rfl) rfl ?_
  refine go_nil ?_
  refine gq_next ?_
  refine gc_cond rfl (fun hc0 => ?_) (fun hc0 => ?_)
  ·
    have hd0 := of_decide_eq_true hc0
    refine gc_seq ?_
    refine gc_region ?_
    refine ne (eo_indexArr rfl Try.underlying49 sz9 rfl rfl (by omega) (by omega)) rfl ?_
    refine ne (eo_load 0 rfl s9 rfl rfl rfl (arr_get (n := 30) (F := fun k => Value.string (glyS (chC (k + 32)))) (by kernel_rfl) (by omega) (congrArg (fun z => Value.string (glyS z)) (show _ = c from by rw [hd0]; rfl)))) rfl ?_
    refine ne (eo_as rfl rfl) rfl ?_
    refine go_nil ?_
    refine gq_next ?_
    refine gc_ret ?_
    refine gq_block_ret ?_
    refine gq_then_ret ?_
    refine gq_results (res1 rfl rfl) ?_
    exact fun W1 hO => ⟨rfl, hO.toExt⟩
  ·
    have hd0 := of_decide_eq_false hc0
    refine gc_seq ?_
    refine gc_region ?_
    refine ne (eo_eql rfl rfl rfl) rfl ?_
    refine ne (eo_as rfl rfl) rfl ?_
    refine go_nil ?_
    refine gq_next ?_
    refine gc_cond rfl (fun hc1 => ?_) (fun hc1 => ?_)
    ·
      have hd1 := of_decide_eq_true hc1
      refine gc_seq ?_
      refine gc_region ?_
      refine ne (eo_indexArr rfl Try.underlying49 sz9 rfl rfl (by omega) (by omega)) rfl ?_
      refine ne (eo_load 0 rfl s9 rfl rfl rfl (arr_get (n := 30) (F := fun k => Value.string (glyS (chC (k + 32)))) (by kernel_rfl) (by omega) (congrArg (fun z => Value.string (glyS z)) (show _ = c from by rw [hd1]; rfl)))) rfl ?_
      refine ne (eo_as rfl rfl) rfl ?_
      refine go_nil ?_
      refine gq_next ?_
      refine gc_ret ?_
      refine gq_block_ret ?_
      refine gq_then_ret ?_
      refine gq_results (res1 rfl rfl) ?_
      exact fun W1 hO => ⟨rfl, hO.toExt⟩
    ·
      have hd1 := of_decide_eq_false hc1
      refine gc_seq ?_
      refine gc_region ?_
      refine ne (eo_eql rfl rfl rfl) rfl ?_
      refine ne (eo_as rfl rfl) rfl ?_
      refine go_nil ?_
      refine gq_next ?_
      refine gc_cond rfl (fun hc2 => ?_) (fun hc2 => ?_)
      ·
        have hd2 := of_decide_eq_true hc2
        refine gc_seq ?_
        refine gc_region ?_
        refine ne (eo_indexArr rfl Try.underlying49 sz9 rfl rfl (by omega) (by omega)) rfl ?_
        refine ne (eo_load 0 rfl s9 rfl rfl rfl (arr_get (n := 30) (F := fun k => Value.string (glyS (chC (k + 32)))) (by kernel_rfl) (by omega) (congrArg (fun z => Value.string (glyS z)) (show _ = c from by rw [hd2]; rfl)))) rfl ?_
        refine ne (eo_as rfl rfl) rfl ?_
        refine go_nil ?_
        refine gq_next ?_
        refine gc_ret ?_
        refine gq_block_ret ?_
        refine gq_then_ret ?_
        refine gq_results (res1 rfl rfl) ?_
        exact fun W1 hO => ⟨rfl, hO.toExt⟩
      ·
        have hd2 := of_decide_eq_false hc2
        refine gc_skip ?_
        refine gq_block_end ?_
        refine gq_next ?_
        refine gc_seq ?_
        refine gc_region ?_
        refine ne (eo_mv rfl rfl) rfl ?_
        refine ne (eo_subk rfl rfl rfl (u8_in (by omega) (by omega))) rfl ?_
        refine ne (eo_indexArr rfl Try.underlying49 sz9 rfl rfl (by omega) (by omega)) rfl ?_
        refine ne (eo_load 0 rfl s9 rfl rfl rfl (arr_get (n := 30) (F := fun k => Value.string (glyS (chC (k + 32)))) (by kernel_rfl) (by omega) (congrArg (fun z => Value.string (glyS z)) (show chC (0 + (c - 64).toNat * 1 + 32) = c from by unfold chC; rw [if_pos (by omega)]; omega)))) rfl ?_
        refine ne (eo_as rfl rfl) rfl ?_
        refine go_nil ?_
        refine gq_next ?_
        refine gc_ret ?_
        refine gq_results (res1 rfl rfl) ?_
        exact fun W1 hO => ⟨rfl, hO.toExt⟩

/-- barscan/font.Glyph -/
theorem glyph_x (c : Int) (w : World)  (h0 : 0 ≤ c) (h1 : c ≤ 255) :
    Calls Try.prog 13 #[.int .u8 c] w (fun e w' => ∃ v Hn, e = .returned v ∧ RX (glyR c) v Hn ∧ Ow [] w w' Hn) := by
  refine calls_enter (N := ⟨35, []⟩) [] ([]) Try.func13 rfl rfl rfl (Ow.start _) ?_
  refine gc_seq ?_
  refine gc_region ?_
  refine nx (xo_alloc rfl z25) rfl ?_
  rintro _ _ ⟨g2, rfl, rfl⟩
  refine ne (eo_as rfl rfl) rfl ?_
  refine go_nil ?_
  refine gq_next ?_
  refine gc_seq ?_
  refine gc_seq ?_
  refine gc_region ?_
  refine ne (eo_mv rfl rfl) rfl ?_
  refine ne (eo_convk rfl rfl ⟨_, Try.underlying5⟩ Try.underlying21 (i32_in (by omega) (by omega))) rfl ?_
  refine ne (eo_call rfl en24 rfl (fun W1 hO => known_c _ W1  )) rfl ?_
  refine ne (eo_not rfl rfl) rfl ?_
  refine go_nil ?_
  refine gq_next ?_
  refine gc_cond rfl (fun hc0 => ?_) (fun hc0 => ?_)
  ·
    have hd0 := (not_t hc0)
    refine gc_seq ?_
    refine gc_region ?_
    refine ne (eo_build rfl rfl (b25_)) rfl ?_
    refine nu (xo_storeA 0 rfl a25 rfl rfl (ones_cons (by first | rfl | exact AS.one) (ones_cons (by first | rfl | exact AS.one) (ones_cons (by first | rfl | exact AS.one) ones_nil))) rfl rfl rfl rfl) ?_
    rintro _ _ ⟨rfl, rfl⟩
    refine ne (eo_as rfl rfl) rfl ?_
    refine go_nil ?_
    refine gq_next ?_
    refine gc_ret ?_
    refine gq_then_ret ?_
    refine gq_results (resCT 0 rfl a25 rfl rfl rfl rfl rfl) ?_
    exact fun W1 hO => rx_nil hO (glyR_no (not_t hc0))
  ·
    have hd0 := (not_f hc0)
    have hkn := not_f hc0
    have hk8 := known_u8 hkn
    refine gc_skip ?_
    refine gq_next ?_
    refine gc_seq ?_
    refine gc_region ?_
    refine ne (eo_as rfl rfl) rfl ?_
    refine go_nil ?_
    refine gq_next ?_
    refine gc_seq ?_
    refine gc_seq ?_
    refine gc_region ?_
    refine ne (eo_mv rfl rfl) rfl ?_
    refine ne (eo_lss rfl rfl rfl) rfl ?_
    refine go_nil ?_
    refine gq_next ?_
    refine gc_cond rfl (fun hc1 => ?_) (fun hc1 => ?_)
    ·
      replace hc1 := of_decide_eq_true hc1
      refine gc_region ?_
      refine ne (eo_mv rfl rfl) rfl ?_
      refine ne (eo_call rfl en27 rfl (fun W1 hO => signs_c _ W1  (by omega) (by omega))) rfl ?_
      refine ne (eo_as rfl rfl) rfl ?_
      refine go_nil ?_
      refine gq_next ?_
      refine gc_seq ?_
      refine gc_region ?_
      refine ne (eo_build rfl rfl (b25_01 _ _)) rfl ?_
      refine nx (xo_alloc rfl z25) rfl ?_
      rintro _ _ ⟨g5, rfl, rfl⟩
      refine nu (xo_storeA 0 rfl a25 rfl rfl (ones_cons (by first | rfl | exact AS.one) (ones_cons (by first | rfl | exact AS.one) (ones_cons (by first | rfl | exact AS.one) ones_nil))) rfl rfl rfl rfl) ?_
      rintro _ _ ⟨rfl, rfl⟩
      refine go_nil ?_
      refine gq_next ?_
      refine gc_seq ?_
      refine gc_seq ?_
      refine gc_region ?_
      refine ne (eo_mv rfl rfl) rfl ?_
      refine go_rangeS rfl Try.underlying9 rfl ?_
      intro it21 Wi21 hit21 hni21 hBi21
      refine go_nil ?_
      refine gq_next ?_
      refine gc_block ?_
      refine loopS3 (fun (p : Nat) (k : Nat) (s : AS) => p ≤ 41 ∧ k = p / 6 * 5 + min (p % 6) 5 ∧ s.Ok 1 k (tab k (bv (gpx c)))) (fun (p : Nat) (k : Nat) (s : AS) => p) (fun (p : Nat) (k : Nat) (s : AS) => [(2, .pointer (some ⟨g2, 0, none⟩)), (5, .pointer (some ⟨g5, 0, none⟩)), (21, .pointer (some ⟨it21, 0, none⟩))]) (fun (p : Nat) (k : Nat) (s : AS) => ⟨g5, 25, [.int .i64 5, .int .i64 7, s.val k]⟩ :: ⟨g2, 25, [.int .i64 0, .int .i64 0, .slice none 0 0]⟩ :: s.blks 4 (tab k (bv (gpx c)))) 0 0 .nil hit21 hni21 ⟨by omega, by rfl, AS.Ok0⟩ ⟨rfl, rfl, rfl, trivial⟩ (List.Sublist.refl _) ?_
      rintro p k s ⟨hp, hk, hs⟩
      intro Wr0 hir0 hnr0 hBr0
      refine gc_seq ?_
      refine gc_region ?_
      by_cases hps22 : p < (glyS c).size
      ·
        refine go_nextS hir0 hnr0 rfl hps22 rfl ?_
        intro Wn22 hin22 hBn22 hnn22
        have hsz := glyS_size c
        have hpl : p < 41 := by omega
        refine ne (eo_extract rfl rfl rfl) rfl ?_
        refine go_nil ?_
        refine gq_next ?_
        refine gc_seq ?_
        refine gc_cond rfl (fun hc2 => ?_) (fun hc2 => ?_)
        ·
          refine gc_skip ?_
          refine gq_next ?_
          refine gc_block ?_
          refine gc_seq ?_
          refine gc_region ?_
          refine ne (eo_extract rfl rfl rfl) rfl ?_
          refine ne (eo_as rfl rfl) rfl ?_
          refine go_nil ?_
          refine gq_next ?_
          refine gc_seq ?_
          refine gc_region ?_
          refine ne (eo_mv rfl rfl) rfl ?_
          refine ne (eo_neq rfl rfl rfl) rfl ?_
          refine go_nil ?_
          refine gq_next ?_
          refine gc_cond rfl (fun hc3 => ?_) (fun hc3 => ?_)
          ·
            replace hc3 := of_decide_eq_true hc3
            obtain ⟨hb1, hb2⟩ := gly_bit hpl hc3 hk
            refine gc_region ?_
            refine ne (eo_field rfl f25_2 rfl) rfl ?_
            refine ne (eo_load 0 rfl s23 rfl rfl rfl rfl) rfl ?_
            refine ne (eo_mv rfl rfl) rfl ?_
            refine ne (eo_eql rfl rfl rfl) rfl ?_
            refine nx (xo_lit1 rfl Try.underlying23 e4 rfl (by first | rfl | exact AS.one)) rfl ?_
            rintro _ _ ⟨g31, rfl, rfl⟩
            refine nx (xo_app1b 3 rfl rfl Try.underlying23 e4 rfl hs rfl rfl hb2 (by omega)) rfl ?_
            rintro _ _ ⟨s32, hs32, rfl, rfl⟩
            refine ne (eo_field rfl f25_2 rfl) rfl ?_
            refine nu (xo_store 1 rfl s23 rfl rfl (by first | rfl | exact AS.one) rfl rfl (by simp)) ?_
            rintro _ _ ⟨rfl, rfl⟩
            refine go_nil ?_
            refine gq_block_end ?_
            exact roundS3 hin22 hnn22 (fun W4 H4 k4 => (hBr0 _ _ (hBn22 _ _ k4))) (p + 1) (k + 1) s32 (by show p + 1 = _; rw [gly_w (by omega)]) ⟨by omega, by omega, hs32⟩ (by omega) ⟨rfl, rfl, rfl, trivial⟩ (List.Sublist.cons _ (List.Sublist.refl _))
          ·
            replace hc3 := of_decide_eq_false hc3
            have hb1 := gly_sp hpl hc3
            refine gc_skip ?_
            refine gq_block_end ?_
            exact roundS3 hin22 hnn22 (fun W4 H4 k4 => (hBr0 _ _ (hBn22 _ _ k4))) (p + 1) k s (by show p + 1 = _; rw [gly_w (by omega)]) ⟨by omega, by omega, hs⟩ (by omega) ⟨rfl, rfl, rfl, trivial⟩ (List.Sublist.refl _)
        ·
          first | exact absurd hc2 (by decide) | exact Bool.noConfusion hc2 | (exfalso; omega)
      ·
        refine go_nextE hir0 hnr0 rfl hps22 rfl ?_
        have hsz := glyS_size c
        refine ne (eo_extract rfl rfl rfl) rfl ?_
        refine go_nil ?_
        refine gq_next ?_
        refine gc_seq ?_
        refine gc_cond rfl (fun hc2 => ?_) (fun hc2 => ?_)
        ·
          first | exact absurd hc2 (by decide) | exact Bool.noConfusion hc2 | (exfalso; omega)
        ·
          refine gc_exit ?_
          refine gq_then_exit ?_
          refine gq_then_exit ?_
          refine gq_block_hit ?_
          refine gq_next ?_
          refine gc_seq ?_
          refine gc_region ?_
          refine ne (eo_loadA 0 rfl a25 rfl rfl rfl rfl) rfl ?_
          refine nu (xo_storeA 1 rfl a25 rfl rfl (ones_cons (by first | rfl | exact AS.one) (ones_cons (by first | rfl | exact AS.one) (ones_cons (by first | rfl | exact AS.one) ones_nil))) rfl rfl rfl rfl) ?_
          rintro _ _ ⟨rfl, rfl⟩
          refine ne (eo_as rfl rfl) rfl ?_
          refine go_nil ?_
          refine gq_next ?_
          refine gc_ret ?_
          refine gq_results (resCT 1 rfl a25 rfl rfl rfl rfl rfl) ?_
          obtain rfl : k = 35 := by omega
          exact fun W1 hO9 => have hO := (hBi21 _ _ (hBr0 _ _ (Ow.more1 hO9))); rx_as 2 hO rfl hs (glyR_ok hkn)
    ·
      replace hc1 := of_decide_eq_false hc1
      refine gc_region ?_
      refine ne (eo_mv rfl rfl) rfl ?_
      refine ne (eo_call rfl en28 rfl (fun W1 hO => letters_c _ W1  (by omega) (by assumption))) rfl ?_
      refine ne (eo_as rfl rfl) rfl ?_
      refine go_nil ?_
      refine gq_next ?_
      refine gc_seq ?_
      refine gc_region ?_
      refine ne (eo_build rfl rfl (b25_01 _ _)) rfl ?_
      refine nx (xo_alloc rfl z25) rfl ?_
      rintro _ _ ⟨g5, rfl, rfl⟩
      refine nu (xo_storeA 0 rfl a25 rfl rfl (ones_cons (by first | rfl | exact AS.one) (ones_cons (by first | rfl | exact AS.one) (ones_cons (by first | rfl | exact AS.one) ones_nil))) rfl rfl rfl rfl) ?_
      rintro _ _ ⟨rfl, rfl⟩
      refine go_nil ?_
      refine gq_next ?_
      refine gc_seq ?_
      refine gc_seq ?_
      refine gc_region ?_
      refine ne (eo_mv rfl rfl) rfl ?_
      refine go_rangeS rfl Try.underlying9 rfl ?_
      intro it21 Wi21 hit21 hni21 hBi21
      refine go_nil ?_
      refine gq_next ?_
      refine gc_block ?_
      refine loopS3 (fun (p : Nat) (k : Nat) (s : AS) => p ≤ 41 ∧ k = p / 6 * 5 + min (p % 6) 5 ∧ s.Ok 1 k (tab k (bv (gpx c)))) (fun (p : Nat) (k : Nat) (s : AS) => p) (fun (p : Nat) (k : Nat) (s : AS) => [(2, .pointer (some ⟨g2, 0, none⟩)), (5, .pointer (some ⟨g5, 0, none⟩)), (21, .pointer (some ⟨it21, 0, none⟩))]) (fun (p : Nat) (k : Nat) (s : AS) => ⟨g5, 25, [.int .i64 5, .int .i64 7, s.val k]⟩ :: ⟨g2, 25, [.int .i64 0, .int .i64 0, .slice none 0 0]⟩ :: s.blks 4 (tab k (bv (gpx c)))) 0 0 .nil hit21 hni21 ⟨by omega, by rfl, AS.Ok0⟩ ⟨rfl, rfl, rfl, trivial⟩ (List.Sublist.refl _) ?_
      rintro p k s ⟨hp, hk, hs⟩
      intro Wr0 hir0 hnr0 hBr0
      refine gc_seq ?_
      refine gc_region ?_
      by_cases hps22 : p < (glyS c).size
      ·
        refine go_nextS hir0 hnr0 rfl hps22 rfl ?_
        intro Wn22 hin22 hBn22 hnn22
        have hsz := glyS_size c
        have hpl : p < 41 := by omega
        refine ne (eo_extract rfl rfl rfl) rfl ?_
        refine go_nil ?_
        refine gq_next ?_
        refine gc_seq ?_
        refine gc_cond rfl (fun hc2 => ?_) (fun hc2 => ?_)
        ·
          refine gc_skip ?_
          refine gq_next ?_
          refine gc_block ?_
          refine gc_seq ?_
          refine gc_region ?_
          refine ne (eo_extract rfl rfl rfl) rfl ?_
          refine ne (eo_as rfl rfl) rfl ?_
          refine go_nil ?_
          refine gq_next ?_
          refine gc_seq ?_
          refine gc_region ?_
          refine ne (eo_mv rfl rfl) rfl ?_
          refine ne (eo_neq rfl rfl rfl) rfl ?_
          refine go_nil ?_
          refine gq_next ?_
          refine gc_cond rfl (fun hc3 => ?_) (fun hc3 => ?_)
          ·
            replace hc3 := of_decide_eq_true hc3
            obtain ⟨hb1, hb2⟩ := gly_bit hpl hc3 hk
            refine gc_region ?_
            refine ne (eo_field rfl f25_2 rfl) rfl ?_
            refine ne (eo_load 0 rfl s23 rfl rfl rfl rfl) rfl ?_
            refine ne (eo_mv rfl rfl) rfl ?_
            refine ne (eo_eql rfl rfl rfl) rfl ?_
            refine nx (xo_lit1 rfl Try.underlying23 e4 rfl (by first | rfl | exact AS.one)) rfl ?_
            rintro _ _ ⟨g31, rfl, rfl⟩
            refine nx (xo_app1b 3 rfl rfl Try.underlying23 e4 rfl hs rfl rfl hb2 (by omega)) rfl ?_
            rintro _ _ ⟨s32, hs32, rfl, rfl⟩
            refine ne (eo_field rfl f25_2 rfl) rfl ?_
            refine nu (xo_store 1 rfl s23 rfl rfl (by first | rfl | exact AS.one) rfl rfl (by simp)) ?_
            rintro _ _ ⟨rfl, rfl⟩
            refine go_nil ?_
            refine gq_block_end ?_
            exact roundS3 hin22 hnn22 (fun W4 H4 k4 => (hBr0 _ _ (hBn22 _ _ k4))) (p + 1) (k + 1) s32 (by show p + 1 = _; rw [gly_w (by omega)]) ⟨by omega, by omega, hs32⟩ (by omega) ⟨rfl, rfl, rfl, trivial⟩ (List.Sublist.cons _ (List.Sublist.refl _))
          ·
            replace hc3 := of_decide_eq_false hc3
            have hb1 := gly_sp hpl hc3
            refine gc_skip ?_
            refine gq_block_end ?_
            exact roundS3 hin22 hnn22 (fun W4 H4 k4 => (hBr0 _ _ (hBn22 _ _ k4))) (p + 1) k s (by show p + 1 = _; rw [gly_w (by omega)]) ⟨by omega, by omega, hs⟩ (by omega) ⟨rfl, rfl, rfl, trivial⟩ (List.Sublist.refl _)
        ·
          first | exact absurd hc2 (by decide) | exact Bool.noConfusion hc2 | (exfalso; omega)
      ·
        refine go_nextE hir0 hnr0 rfl hps22 rfl ?_
        have hsz := glyS_size c
        refine ne (eo_extract rfl rfl rfl) rfl ?_
        refine go_nil ?_
        refine gq_next ?_
        refine gc_seq ?_
        refine gc_cond rfl (fun hc2 => ?_) (fun hc2 => ?_)
        ·
          first | exact absurd hc2 (by decide) | exact Bool.noConfusion hc2 | (exfalso; omega)
        ·
          refine gc_exit ?_
          refine gq_then_exit ?_
          refine gq_then_exit ?_
          refine gq_block_hit ?_
          refine gq_next ?_
          refine gc_seq ?_
          refine gc_region ?_
          refine ne (eo_loadA 0 rfl a25 rfl rfl rfl rfl) rfl ?_
          refine nu (xo_storeA 1 rfl a25 rfl rfl (ones_cons (by first | rfl | exact AS.one) (ones_cons (by first | rfl | exact AS.one) (ones_cons (by first | rfl | exact AS.one) ones_nil))) rfl rfl rfl rfl) ?_
          rintro _ _ ⟨rfl, rfl⟩
          refine ne (eo_as rfl rfl) rfl ?_
          refine go_nil ?_
          refine gq_next ?_
          refine gc_ret ?_
          refine gq_results (resCT 1 rfl a25 rfl rfl rfl rfl rfl) ?_
          obtain rfl : k = 35 := by omega
          exact fun W1 hO9 => have hO := (hBi21 _ _ (hBr0 _ _ (Ow.more1 hO9))); rx_as 2 hO rfl hs (glyR_ok hkn)

/-- barscan/barscanref47.signs -/
theorem rsigns_c (c : Int) (w : World)  (h0 : 0 ≤ c) (h1 : c ≤ 47) :
    Calls Try.prog 32 #[.int .u8 c] w (fun e w' => e = .returned (.string (refS c)) ∧ Ext w w') := by
  refine calls_enter (N := ⟨36, []⟩) [] ([]) Try.func32 rfl rfl rfl (Ow.start _) ?_
  refine gc_seq ?_
  refine gc_region ?_
  refine ne (eo_as rfl rfl) rfl ?_
  refine go_nil ?_
  refine gq_next ?_
  refine gc_seq ?_
  refine gc_seq ?_
  refine gc_region ?_
  refine ne (eo_mv rfl rfl) rfl ?_
  refine go_nil ?_
  refine gq_next ?_
  refine gc_block ?_
  refine gc_seq ?_
  refine gc_region ?_
  refine ne (eo_eql rfl rfl rfl) rfl ?_
  refine ne (eo_as rfl rfl) rfl ?_
  refine go_nil ?_
  refine gq_next ?_
  refine gc_cond rfl (fun hc0 => ?_) (fun hc0 => ?_)
  ·
    have hd0 := of_decide_eq_true hc0
    refine gc_seq ?_
    refine gc_region ?_
    refine ne (eo_as rfl rfl) rfl ?_
    refine go_nil ?_
    refine gq_next ?_
    refine gc_ret ?_
    refine gq_block_ret ?_
    refine gq_then_ret ?_
    refine gq_results (res1 rfl rfl) ?_
    subst hd0
    exact fun W1 hO => ⟨congrArg (fun z => Ending.returned (Value.string z)) (by kernel_rfl), hO.toExt⟩
  ·
    have hd0 := of_decide_eq_false hc0
    refine gc_seq ?_
    refine gc_region ?_
    refine ne (eo_eql rfl rfl rfl) rfl ?_
    refine ne (eo_as rfl rfl) rfl ?_
    refine go_nil ?_
    refine gq_next ?_
    refine gc_cond rfl (fun hc1 => ?_) (fun hc1 => ?_)
    ·
      have hd1 := of_decide_eq_true hc1
      refine gc_seq ?_
      refine gc_region ?_
      refine ne (eo_as rfl rfl) rfl ?_
      refine go_nil ?_
      refine gq_next ?_
      refine gc_ret ?_
      refine gq_block_ret ?_
      refine gq_then_ret ?_
      refine gq_results (res1 rfl rfl) ?_
      subst hd1
      exact fun W1 hO => ⟨congrArg (fun z => Ending.returned (Value.string z)) (by kernel_rfl), hO.toExt⟩
    ·
      have hd1 := of_decide_eq_false hc1
      refine gc_seq ?_
      refine gc_region ?_
      refine ne (eo_eql rfl rfl rfl) rfl ?_
      refine ne (eo_as rfl rfl) rfl ?_
      refine go_nil ?_
      refine gq_next ?_
      refine gc_cond rfl (fun hc2 => ?_) (fun hc2 => ?_)
      ·
        have hd2 := of_decide_eq_true hc2
        refine gc_seq ?_
        refine gc_region ?_
        refine ne (eo_as rfl rfl) rfl ?_
        refine go_nil ?_
        refine gq_next ?_
        refine gc_ret ?_
        refine gq_block_ret ?_
        refine gq_then_ret ?_
        refine gq_results (res1 rfl rfl) ?_
        subst hd2
        exact fun W1 hO => ⟨congrArg (fun z => Ending.returned (Value.string z)) (by kernel_rfl), hO.toExt⟩
      ·
        have hd2 := of_decide_eq_false hc2
        refine gc_seq ?_
        refine gc_region ?_
        refine ne (eo_eql rfl rfl rfl) rfl ?_
        refine ne (eo_as rfl rfl) rfl ?_
        refine go_nil ?_
        refine gq_next ?_
        refine gc_cond rfl (fun hc3 => ?_) (fun hc3 => ?_)
        ·
          have hd3 := of_decide_eq_true hc3
          refine gc_seq ?_
          refine gc_region ?_
          refine ne (eo_as rfl rfl) rfl ?_
          refine go_nil ?_
          refine gq_next ?_
          refine gc_ret ?_
          refine gq_block_ret ?_
          refine gq_then_ret ?_
          refine gq_results (res1 rfl rfl) ?_
          subst hd3
          exact fun W1 hO => ⟨congrArg (fun z => Ending.returned (Value.string z)) (by kernel_rfl), hO.toExt⟩
        ·
          have hd3 := of_decide_eq_false hc3
          refine gc_seq ?_
          refine gc_region ?_
          refine ne (eo_eql rfl rfl rfl) rfl ?_
          refine ne (eo_as rfl rfl) rfl ?_
          refine go_nil ?_
          refine gq_next ?_
          refine gc_cond rfl (fun hc4 => ?_) (fun hc4 => ?_)
          ·
            have hd4 := of_decide_eq_true hc4
            refine gc_seq ?_
            refine gc_region ?_
            refine ne (eo_as rfl rfl) rfl ?_
            refine go_nil ?_
            refine gq_next ?_
            refine gc_ret ?_
            refine gq_block_ret ?_
            refine gq_then_ret ?_
            refine gq_results (res1 rfl rfl) ?_
            subst hd4
            exact fun W1 hO => ⟨congrArg (fun z => Ending.returned (Value.string z)) (by kernel_rfl), hO.toExt⟩
          ·
            have hd4 := of_decide_eq_false hc4
            refine gc_seq ?_
            refine gc_region ?_
            refine ne (eo_eql rfl rfl rfl) rfl ?_
            refine ne (eo_as rfl rfl) rfl ?_
            refine go_nil ?_
            refine gq_next ?_
            refine gc_cond rfl (fun hc5 => ?_) (fun hc5 => ?_)
            ·
              have hd5 := of_decide_eq_true hc5
              refine gc_seq ?_
              refine gc_region ?_
              refine ne (eo_as rfl rfl) rfl ?_
              refine go_nil ?_
              refine gq_next ?_
              refine gc_ret ?_
              refine gq_block_ret ?_
              refine gq_then_ret ?_
              refine gq_results (res1 rfl rfl) ?_
              subst hd5
              exact fun W1 hO => ⟨congrArg (fun z => Ending.returned (Value.string z)) (by kernel_rfl), hO.toExt⟩
            ·
              have hd5 := of_decide_eq_false hc5
              refine gc_seq ?_
              refine gc_region ?_
              refine ne (eo_eql rfl rfl rfl) rfl ?_
              refine ne (eo_as rfl rfl) rfl ?_
              refine go_nil ?_
              refine gq_next ?_
              refine gc_cond rfl (fun hc6 => ?_) (fun hc6 => ?_)
              ·
                have hd6 := of_decide_eq_true hc6
                refine gc_seq ?_
                refine gc_region ?_
                refine ne (eo_as rfl rfl) rfl ?_
                refine go_nil ?_
                refine gq_next ?_
                refine gc_ret ?_
                refine gq_block_ret ?_
                refine gq_then_ret ?_
                refine gq_results (res1 rfl rfl) ?_
                subst hd6
                exact fun W1 hO => ⟨congrArg (fun z => Ending.returned (Value.string z)) (by kernel_rfl), hO.toExt⟩
              ·
                have hd6 := of_decide_eq_false hc6
                refine gc_seq ?_
                refine gc_region ?_
                refine ne (eo_eql rfl rfl rfl) rfl ?_
                refine ne (eo_as rfl rfl) rfl ?_
                refine go_nil ?_
                refine gq_next ?_
                refine gc_cond rfl (fun hc7 => ?_) (fun hc7 => ?_)
                ·
                  have hd7 := of_decide_eq_true hc7
                  refine gc_seq ?_
                  refine gc_region ?_
                  refine ne (eo_as rfl rfl) rfl ?_
                  refine go_nil ?_
                  refine gq_next ?_
                  refine gc_ret ?_
                  refine gq_block_ret ?_
                  refine gq_then_ret ?_
                  refine gq_results (res1 rfl rfl) ?_
                  subst hd7
                  exact fun W1 hO => ⟨congrArg (fun z => Ending.returned (Value.string z)) (by kernel_rfl), hO.toExt⟩
                ·
                  have hd7 := of_decide_eq_false hc7
                  refine gc_seq ?_
                  refine gc_region ?_
                  refine ne (eo_eql rfl rfl rfl) rfl ?_
                  refine ne (eo_as rfl rfl) rfl ?_
                  refine go_nil ?_
                  refine gq_next ?_
                  refine gc_cond rfl (fun hc8 => ?_) (fun hc8 => ?_)
                  ·
                    have hd8 := of_decide_eq_true hc8
                    refine gc_seq ?_
                    refine gc_region ?_
                    refine ne (eo_as rfl rfl) rfl ?_
                    refine go_nil ?_
                    refine gq_next ?_
                    refine gc_ret ?_
                    refine gq_block_ret ?_
                    refine gq_then_ret ?_
                    refine gq_results (res1 rfl rfl) ?_
                    subst hd8
                    exact fun W1 hO => ⟨congrArg (fun z => Ending.returned (Value.string z)) (by kernel_rfl), hO.toExt⟩
                  ·
                    have hd8 := of_decide_eq_false hc8
                    refine gc_seq ?_
                    refine gc_region ?_
                    refine ne (eo_eql rfl rfl rfl) rfl ?_
                    refine ne (eo_as rfl rfl) rfl ?_
                    refine go_nil ?_
                    refine gq_next ?_
                    refine gc_cond rfl (fun hc9 => ?_) (fun hc9 => ?_)
                    ·
                      have hd9 := of_decide_eq_true hc9
                      refine gc_seq ?_
                      refine gc_region ?_
                      refine ne (eo_as rfl rfl) rfl ?_
                      refine go_nil ?_
                      refine gq_next ?_
                      refine gc_ret ?_
                      refine gq_block_ret ?_
                      refine gq_then_ret ?_
                      refine gq_results (res1 rfl rfl) ?_
                      subst hd9
                      exact fun W1 hO => ⟨congrArg (fun z => Ending.returned (Value.string z)) (by kernel_rfl), hO.toExt⟩
                    ·
                      have hd9 := of_decide_eq_false hc9
                      refine gc_seq ?_
                      refine gc_region ?_
                      refine ne (eo_eql rfl rfl rfl) rfl ?_
                      refine ne (eo_as rfl rfl) rfl ?_
                      refine go_nil ?_
                      refine gq_next ?_
                      refine gc_cond rfl (fun hc10 => ?_) (fun hc10 => ?_)
                      ·
                        have hd10 := of_decide_eq_true hc10
                        refine gc_seq ?_
                        refine gc_region ?_
                        refine ne (eo_as rfl rfl) rfl ?_
                        refine go_nil ?_
                        refine gq_next ?_
                        refine gc_ret ?_
                        refine gq_block_ret ?_
                        refine gq_then_ret ?_
                        refine gq_results (res1 rfl rfl) ?_
                        subst hd10
                        exact fun W1 hO => ⟨congrArg (fun z => Ending.returned (Value.string z)) (by kernel_rfl), hO.toExt⟩
                      ·
                        have hd10 := of_decide_eq_false hc10
                        refine gc_seq ?_
                        refine gc_region ?_
                        refine ne (eo_eql rfl rfl rfl) rfl ?_
                        refine ne (eo_as rfl rfl) rfl ?_
                        refine go_nil ?_
                        refine gq_next ?_
                        refine gc_cond rfl (fun hc11 => ?_) (fun hc11 => ?_)
                        ·
                          have hd11 := of_decide_eq_true hc11
                          refine gc_seq ?_
                          refine gc_region ?_
                          refine ne (eo_as rfl rfl) rfl ?_
                          refine go_nil ?_
                          refine gq_next ?_
                          refine gc_ret ?_
                          refine gq_block_ret ?_
                          refine gq_then_ret ?_
                          refine gq_results (res1 rfl rfl) ?_
                          subst hd11
                          exact fun W1 hO => ⟨congrArg (fun z => Ending.returned (Value.string z)) (by kernel_rfl), hO.toExt⟩
                        ·
                          have hd11 := of_decide_eq_false hc11
                          refine gc_seq ?_
                          refine gc_region ?_
                          refine ne (eo_eql rfl rfl rfl) rfl ?_
                          refine ne (eo_as rfl rfl) rfl ?_
                          refine go_nil ?_
                          refine gq_next ?_
                          refine gc_cond rfl (fun hc12 => ?_) (fun hc12 => ?_)
                          ·
                            have hd12 := of_decide_eq_true hc12
                            refine gc_seq ?_
                            refine gc_region ?_
                            refine ne (eo_as rfl rfl) rfl ?_
                            refine go_nil ?_
                            refine gq_next ?_
                            refine gc_ret ?_
                            refine gq_block_ret ?_
                            refine gq_then_ret ?_
                            refine gq_results (res1 rfl rfl) ?_
                            subst hd12
                            exact fun W1 hO => ⟨congrArg (fun z => Ending.returned (Value.string z)) (by kernel_rfl), hO.toExt⟩
                          ·
                            have hd12 := of_decide_eq_false hc12
                            refine gc_seq ?_
                            refine gc_region ?_
                            refine ne (eo_eql rfl rfl rfl) rfl ?_
                            refine ne (eo_as rfl rfl) rfl ?_
                            refine go_nil ?_
                            refine gq_next ?_
                            refine gc_cond rfl (fun hc13 => ?_) (fun hc13 => ?_)
                            ·
                              have hd13 := of_decide_eq_true hc13
                              refine gc_seq ?_
                              refine gc_region ?_
                              refine ne (eo_as rfl rfl) rfl ?_
                              refine go_nil ?_
                              refine gq_next ?_
                              refine gc_ret ?_
                              refine gq_block_ret ?_
                              refine gq_then_ret ?_
                              refine gq_results (res1 rfl rfl) ?_
                              subst hd13
                              exact fun W1 hO => ⟨congrArg (fun z => Ending.returned (Value.string z)) (by kernel_rfl), hO.toExt⟩
                            ·
                              have hd13 := of_decide_eq_false hc13
                              refine gc_seq ?_
                              refine gc_region ?_
                              refine ne (eo_eql rfl rfl rfl) rfl ?_
                              refine ne (eo_as rfl rfl) rfl ?_
                              refine go_nil ?_
                              refine gq_next ?_
                              refine gc_cond rfl (fun hc14 => ?_) (fun hc14 => ?_)
                              ·
                                have hd14 := of_decide_eq_true hc14
                                refine gc_seq ?_
                                refine gc_region ?_
                                refine ne (eo_as rfl rfl) rfl ?_
                                refine go_nil ?_
                                refine gq_next ?_
                                refine gc_ret ?_
                                refine gq_block_ret ?_
                                refine gq_then_ret ?_
                                refine gq_results (res1 rfl rfl) ?_
                                subst hd14
                                exact fun W1 hO => ⟨congrArg (fun z => Ending.returned (Value.string z)) (by kernel_rfl), hO.toExt⟩
                              ·
                                have hd14 := of_decide_eq_false hc14
                                refine gc_seq ?_
                                refine gc_region ?_
                                refine ne (eo_eql rfl rfl rfl) rfl ?_
                                refine ne (eo_as rfl rfl) rfl ?_
                                refine go_nil ?_
                                refine gq_next ?_
                                refine gc_cond rfl (fun hc15 => ?_) (fun hc15 => ?_)
                                ·
                                  have hd15 := of_decide_eq_true hc15
                                  refine gc_seq ?_
                                  refine gc_region ?_
                                  refine ne (eo_as rfl rfl) rfl ?_
                                  refine go_nil ?_
                                  refine gq_next ?_
                                  refine gc_ret ?_
                                  refine gq_block_ret ?_
                                  refine gq_then_ret ?_
                                  refine gq_results (res1 rfl rfl) ?_
                                  subst hd15
                                  exact fun W1 hO => ⟨congrArg (fun z => Ending.returned (Value.string z)) (by kernel_rfl), hO.toExt⟩
                                ·
                                  have hd15 := of_decide_eq_false hc15
                                  refine gc_skip ?_
                                  refine gq_block_end ?_
                                  refine gq_next ?_
                                  refine gc_seq ?_
                                  refine gc_region ?_
                                  refine ne (eo_as rfl rfl) rfl ?_
                                  refine go_nil ?_
                                  refine gq_next ?_
                                  refine gc_ret ?_
                                  refine gq_results (res1 rfl rfl) ?_
                                  exact fun W1 hO => ⟨congrArg (fun z => Ending.returned (Value.string z)) (by rw [refS, if_neg]; rw [known_iff]; omega), hO.toExt⟩

/-- barscan/barscanref47.digits -/
theorem rdigits_c (c : Int) (w : World)  (h0 : 48 ≤ c) (h1 : c ≤ 64) :
    Calls Try.prog 33 #[.int .u8 c] w (fun e w' => e = .returned (.string (refS c)) ∧ Ext w w') := by
  refine calls_enter (N := ⟨38, []⟩) [] ([]) Try.func33 rfl rfl rfl (Ow.start _) ?_
  refine gc_seq ?_
  refine gc_region ?_
  refine ne (eo_as rfl rfl) rfl ?_
  refine go_nil ?_
  refine gq_next ?_
  refine gc_seq ?_
  refine gc_seq ?_
  refine gc_region ?_
  refine ne (eo_mv rfl rfl) rfl ?_
  refine go_nil ?_
  refine gq_next ?_
  refine gc_block ?_
  refine gc_seq ?_
  refine gc_region ?_
  refine ne (eo_eql rfl rfl rfl) rfl ?_
  refine ne (eo_as rfl rfl) rfl ?_
  refine go_nil ?_
  refine gq_next ?_
  refine gc_cond rfl (fun hc0 => ?_) (fun hc0 => ?_)
  ·
    have hd0 := of_decide_eq_true hc0
    refine gc_seq ?_
    refine gc_region ?_
    refine ne (eo_as rfl rfl) rfl ?_
    refine go_nil ?_
    refine gq_next ?_
    refine gc_ret ?_
    refine gq_block_ret ?_
    refine gq_then_ret ?_
    refine gq_results (res1 rfl rfl) ?_
    subst hd0
    exact fun W1 hO => ⟨congrArg (fun z => Ending.returned (Value.string z)) (by kernel_rfl), hO.toExt⟩
  ·
    have hd0 := of_decide_eq_false hc0
    refine gc_seq ?_
    refine gc_region ?_
    refine ne (eo_eql rfl rfl rfl) rfl ?_
    refine ne (eo_as rfl rfl) rfl ?_
    refine go_nil ?_
    refine gq_next ?_
    refine gc_cond rfl (fun hc1 => ?_) (fun hc1 => ?_)
    ·
      have hd1 := of_decide_eq_true hc1
      refine gc_seq ?_
      refine gc_region ?_
      refine ne (eo_as rfl rfl) rfl ?_
      refine go_nil ?_
      refine gq_next ?_
      refine gc_ret ?_
      refine gq_block_ret ?_
      refine gq_then_ret ?_
      refine gq_results (res1 rfl rfl) ?_
      subst hd1
      exact fun W1 hO => ⟨congrArg (fun z => Ending.returned (Value.string z)) (by kernel_rfl), hO.toExt⟩
    ·
      have hd1 := of_decide_eq_false hc1
      refine gc_seq ?_
      refine gc_region ?_
      refine ne (eo_eql rfl rfl rfl) rfl ?_
      refine ne (eo_as rfl rfl) rfl ?_
      refine go_nil ?_
      refine gq_next ?_
      refine gc_cond rfl (fun hc2 => ?_) (fun hc2 => ?_)
      ·
        have hd2 := of_decide_eq_true hc2
        refine gc_seq ?_
        refine gc_region ?_
        refine ne (eo_as rfl rfl) rfl ?_
        refine go_nil ?_
        refine gq_next ?_
        refine gc_ret ?_
        refine gq_block_ret ?_
        refine gq_then_ret ?_
        refine gq_results (res1 rfl rfl) ?_
        subst hd2
        exact fun W1 hO => ⟨congrArg (fun z => Ending.returned (Value.string z)) (by kernel_rfl), hO.toExt⟩
      ·
        have hd2 := of_decide_eq_false hc2
        refine gc_seq ?_
        refine gc_region ?_
        refine ne (eo_eql rfl rfl rfl) rfl ?_
        refine ne (eo_as rfl rfl) rfl ?_
        refine go_nil ?_
        refine gq_next ?_
        refine gc_cond rfl (fun hc3 => ?_) (fun hc3 => ?_)
        ·
          have hd3 := of_decide_eq_true hc3
          refine gc_seq ?_
          refine gc_region ?_
          refine ne (eo_as rfl rfl) rfl ?_
          refine go_nil ?_
          refine gq_next ?_
          refine gc_ret ?_
          refine gq_block_ret ?_
          refine gq_then_ret ?_
          refine gq_results (res1 rfl rfl) ?_
          subst hd3
          exact fun W1 hO => ⟨congrArg (fun z => Ending.returned (Value.string z)) (by kernel_rfl), hO.toExt⟩
        ·
          have hd3 := of_decide_eq_false hc3
          refine gc_seq ?_
          refine gc_region ?_
          refine ne (eo_eql rfl rfl rfl) rfl ?_
          refine ne (eo_as rfl rfl) rfl ?_
          refine go_nil ?_
          refine gq_next ?_
          refine gc_cond rfl (fun hc4 => ?_) (fun hc4 => ?_)
          ·
            have hd4 := of_decide_eq_true hc4
            refine gc_seq ?_
            refine gc_region ?_
            refine ne (eo_as rfl rfl) rfl ?_
            refine go_nil ?_
            refine gq_next ?_
            refine gc_ret ?_
            refine gq_block_ret ?_
            refine gq_then_ret ?_
            refine gq_results (res1 rfl rfl) ?_
            subst hd4
            exact fun W1 hO => ⟨congrArg (fun z => Ending.returned (Value.string z)) (by kernel_rfl), hO.toExt⟩
          ·
            have hd4 := of_decide_eq_false hc4
            refine gc_seq ?_
            refine gc_region ?_
            refine ne (eo_eql rfl rfl rfl) rfl ?_
            refine ne (eo_as rfl rfl) rfl ?_
            refine go_nil ?_
            refine gq_next ?_
            refine gc_cond rfl (fun hc5 => ?_) (fun hc5 => ?_)
            ·
              have hd5 := of_decide_eq_true hc5
              refine gc_seq ?_
              refine gc_region ?_
              refine ne (eo_as rfl rfl) rfl ?_
              refine go_nil ?_
              refine gq_next ?_
              refine gc_ret ?_
              refine gq_block_ret ?_
              refine gq_then_ret ?_
              refine gq_results (res1 rfl rfl) ?_
              subst hd5
              exact fun W1 hO => ⟨congrArg (fun z => Ending.returned (Value.string z)) (by kernel_rfl), hO.toExt⟩
            ·
              have hd5 := of_decide_eq_false hc5
              refine gc_seq ?_
              refine gc_region ?_
              refine ne (eo_eql rfl rfl rfl) rfl ?_
              refine ne (eo_as rfl rfl) rfl ?_
              refine go_nil ?_
              refine gq_next ?_
              refine gc_cond rfl (fun hc6 => ?_) (fun hc6 => ?_)
              ·
                have hd6 := of_decide_eq_true hc6
                refine gc_seq ?_
                refine gc_region ?_
                refine ne (eo_as rfl rfl) rfl ?_
                refine go_nil ?_
                refine gq_next ?_
                refine gc_ret ?_
                refine gq_block_ret ?_
                refine gq_then_ret ?_
                refine gq_results (res1 rfl rfl) ?_
                subst hd6
                exact fun W1 hO => ⟨congrArg (fun z => Ending.returned (Value.string z)) (by kernel_rfl), hO.toExt⟩
              ·
                have hd6 := of_decide_eq_false hc6
                refine gc_seq ?_
                refine gc_region ?_
                refine ne (eo_eql rfl rfl rfl) rfl ?_
                refine ne (eo_as rfl rfl) rfl ?_
                refine go_nil ?_
                refine gq_next ?_
                refine gc_cond rfl (fun hc7 => ?_) (fun hc7 => ?_)
                ·
                  have hd7 := of_decide_eq_true hc7
                  refine gc_seq ?_
                  refine gc_region ?_
                  refine ne (eo_as rfl rfl) rfl ?_
                  refine go_nil ?_
                  refine gq_next ?_
                  refine gc_ret ?_
                  refine gq_block_ret ?_
                  refine gq_then_ret ?_
                  refine gq_results (res1 rfl rfl) ?_
                  subst hd7
                  exact fun W1 hO => ⟨congrArg (fun z => Ending.returned (Value.string z)) (by kernel_rfl), hO.toExt⟩
                ·
                  have hd7 := of_decide_eq_false hc7
                  refine gc_seq ?_
                  refine gc_region ?_
                  refine ne (eo_eql rfl rfl rfl) rfl ?_
                  refine ne (eo_as rfl rfl) rfl ?_
                  refine go_nil ?_
                  refine gq_next ?_
                  refine gc_cond rfl (fun hc8 => ?_) (fun hc8 => ?_)
                  ·
                    have hd8 := of_decide_eq_true hc8
                    refine gc_seq ?_
                    refine gc_region ?_
                    refine ne (eo_as rfl rfl) rfl ?_
                    refine go_nil ?_
                    refine gq_next ?_
                    refine gc_ret ?_
                    refine gq_block_ret ?_
                    refine gq_then_ret ?_
                    refine gq_results (res1 rfl rfl) ?_
                    subst hd8
                    exact fun W1 hO => ⟨congrArg (fun z => Ending.returned (Value.string z)) (by kernel_rfl), hO.toExt⟩
                  ·
                    have hd8 := of_decide_eq_false hc8
                    refine gc_seq ?_
                    refine gc_region ?_
                    refine ne (eo_eql rfl rfl rfl) rfl ?_
                    refine ne (eo_as rfl rfl) rfl ?_
                    refine go_nil ?_
                    refine gq_next ?_
                    refine gc_cond rfl (fun hc9 => ?_) (fun hc9 => ?_)
                    ·
                      have hd9 := of_decide_eq_true hc9
                      refine gc_seq ?_
                      refine gc_region ?_
                      refine ne (eo_as rfl rfl) rfl ?_
                      refine go_nil ?_
                      refine gq_next ?_
                      refine gc_ret ?_
                      refine gq_block_ret ?_
                      refine gq_then_ret ?_
                      refine gq_results (res1 rfl rfl) ?_
                      subst hd9
                      exact fun W1 hO => ⟨congrArg (fun z => Ending.returned (Value.string z)) (by kernel_rfl), hO.toExt⟩
                    ·
                      have hd9 := of_decide_eq_false hc9
                      refine gc_seq ?_
                      refine gc_region ?_
                      refine ne (eo_eql rfl rfl rfl) rfl ?_
                      refine ne (eo_as rfl rfl) rfl ?_
                      refine go_nil ?_
                      refine gq_next ?_
                      refine gc_cond rfl (fun hc10 => ?_) (fun hc10 => ?_)
                      ·
                        have hd10 := of_decide_eq_true hc10
                        refine gc_seq ?_
                        refine gc_region ?_
                        refine ne (eo_as rfl rfl) rfl ?_
                        refine go_nil ?_
                        refine gq_next ?_
                        refine gc_ret ?_
                        refine gq_block_ret ?_
                        refine gq_then_ret ?_
                        refine gq_results (res1 rfl rfl) ?_
                        subst hd10
                        exact fun W1 hO => ⟨congrArg (fun z => Ending.returned (Value.string z)) (by kernel_rfl), hO.toExt⟩
                      ·
                        have hd10 := of_decide_eq_false hc10
                        refine gc_seq ?_
                        refine gc_region ?_
                        refine ne (eo_eql rfl rfl rfl) rfl ?_
                        refine ne (eo_as rfl rfl) rfl ?_
                        refine go_nil ?_
                        refine gq_next ?_
                        refine gc_cond rfl (fun hc11 => ?_) (fun hc11 => ?_)
                        ·
                          have hd11 := of_decide_eq_true hc11
                          refine gc_seq ?_
                          refine gc_region ?_
                          refine ne (eo_as rfl rfl) rfl ?_
                          refine go_nil ?_
                          refine gq_next ?_
                          refine gc_ret ?_
                          refine gq_block_ret ?_
                          refine gq_then_ret ?_
                          refine gq_results (res1 rfl rfl) ?_
                          subst hd11
                          exact fun W1 hO => ⟨congrArg (fun z => Ending.returned (Value.string z)) (by kernel_rfl), hO.toExt⟩
                        ·
                          have hd11 := of_decide_eq_false hc11
                          refine gc_seq ?_
                          refine gc_region ?_
                          refine ne (eo_eql rfl rfl rfl) rfl ?_
                          refine ne (eo_as rfl rfl) rfl ?_
                          refine go_nil ?_
                          refine gq_next ?_
                          refine gc_cond rfl (fun hc12 => ?_) (fun hc12 => ?_)
                          ·
                            have hd12 := of_decide_eq_true hc12
                            refine gc_seq ?_
                            refine gc_region ?_
                            refine ne (eo_as rfl rfl) rfl ?_
                            refine go_nil ?_
                            refine gq_next ?_
                            refine gc_ret ?_
                            refine gq_block_ret ?_
                            refine gq_then_ret ?_
                            refine gq_results (res1 rfl rfl) ?_
                            subst hd12
                            exact fun W1 hO => ⟨congrArg (fun z => Ending.returned (Value.string z)) (by kernel_rfl), hO.toExt⟩
                          ·
                            have hd12 := of_decide_eq_false hc12
                            refine gc_seq ?_
                            refine gc_region ?_
                            refine ne (eo_eql rfl rfl rfl) rfl ?_
                            refine ne (eo_as rfl rfl) rfl ?_
                            refine go_nil ?_
                            refine gq_next ?_
                            refine gc_cond rfl (fun hc13 => ?_) (fun hc13 => ?_)
                            ·
                              have hd13 := of_decide_eq_true hc13
                              refine gc_seq ?_
                              refine gc_region ?_
                              refine ne (eo_as rfl rfl) rfl ?_
                              refine go_nil ?_
                              refine gq_next ?_
                              refine gc_ret ?_
                              refine gq_block_ret ?_
                              refine gq_then_ret ?_
                              refine gq_results (res1 rfl rfl) ?_
                              subst hd13
                              exact fun W1 hO => ⟨congrArg (fun z => Ending.returned (Value.string z)) (by kernel_rfl), hO.toExt⟩
                            ·
                              have hd13 := of_decide_eq_false hc13
                              refine gc_seq ?_
                              refine gc_region ?_
                              refine ne (eo_eql rfl rfl rfl) rfl ?_
                              refine ne (eo_as rfl rfl) rfl ?_
                              refine go_nil ?_
                              refine gq_next ?_
                              refine gc_cond rfl (fun hc14 => ?_) (fun hc14 => ?_)
                              ·
                                have hd14 := of_decide_eq_true hc14
                                refine gc_seq ?_
                                refine gc_region ?_
                                refine ne (eo_as rfl rfl) rfl ?_
                                refine go_nil ?_
                                refine gq_next ?_
                                refine gc_ret ?_
                                refine gq_block_ret ?_
                                refine gq_then_ret ?_
                                refine gq_results (res1 rfl rfl) ?_
                                subst hd14
                                exact fun W1 hO => ⟨congrArg (fun z => Ending.returned (Value.string z)) (by kernel_rfl), hO.toExt⟩
                              ·
                                have hd14 := of_decide_eq_false hc14
                                refine gc_seq ?_
                                refine gc_region ?_
                                refine ne (eo_eql rfl rfl rfl) rfl ?_
                                refine ne (eo_as rfl rfl) rfl ?_
                                refine go_nil ?_
                                refine gq_next ?_
                                refine gc_cond rfl (fun hc15 => ?_) (fun hc15 => ?_)
                                ·
                                  have hd15 := of_decide_eq_true hc15
                                  refine gc_seq ?_
                                  refine gc_region ?_
                                  refine ne (eo_as rfl rfl) rfl ?_
                                  refine go_nil ?_
                                  refine gq_next ?_
                                  refine gc_ret ?_
                                  refine gq_block_ret ?_
                                  refine gq_then_ret ?_
                                  refine gq_results (res1 rfl rfl) ?_
                                  subst hd15
                                  exact fun W1 hO => ⟨congrArg (fun z => Ending.returned (Value.string z)) (by kernel_rfl), hO.toExt⟩
                                ·
                                  have hd15 := of_decide_eq_false hc15
                                  refine gc_seq ?_
                                  refine gc_region ?_
                                  refine ne (eo_eql rfl rfl rfl) rfl ?_
                                  refine ne (eo_as rfl rfl) rfl ?_
                                  refine go_nil ?_
                                  refine gq_next ?_
                                  refine gc_cond rfl (fun hc16 => ?_) (fun hc16 => ?_)
                                  ·
                                    have hd16 := of_decide_eq_true hc16
                                    refine gc_seq ?_
                                    refine gc_region ?_
                                    refine ne (eo_as rfl rfl) rfl ?_
                                    refine go_nil ?_
                                    refine gq_next ?_
                                    refine gc_ret ?_
                                    refine gq_block_ret ?_
                                    refine gq_then_ret ?_
                                    refine gq_results (res1 rfl rfl) ?_
                                    subst hd16
                                    exact fun W1 hO => ⟨congrArg (fun z => Ending.returned (Value.string z)) (by kernel_rfl), hO.toExt⟩
                                  ·
                                    have hd16 := of_decide_eq_false hc16
                                    refine gc_skip ?_
                                    refine gq_block_end ?_
                                    refine gq_next ?_
                                    refine gc_seq ?_
                                    refine gc_region ?_
                                    refine ne (eo_as rfl rfl) rfl ?_
                                    refine go_nil ?_
                                    refine gq_next ?_
                                    refine gc_ret ?_
                                    refine gq_results (res1 rfl rfl) ?_
                                    exact fun W1 hO => ⟨congrArg (fun z => Ending.returned (Value.string z)) (by rw [refS, if_neg]; rw [known_iff]; omega), hO.toExt⟩

/-- barscan/barscanref47.letters -/
theorem rletters_c (c : Int) (w : World)  (h0 : 65 ≤ c) (h1 : c ≤ 77) :
    Calls Try.prog 34 #[.int .u8 c] w (fun e w' => e = .returned (.string (refS c)) ∧ Ext w w') := by
  refine calls_enter (N := ⟨30, []⟩) [] ([]) Try.func34 rfl rfl rfl (Ow.start _) ?_
  refine gc_seq ?_
  refine gc_region ?_
  refine ne (eo_as rfl rfl) rfl ?_
  refine go_nil ?_
  refine gq_next ?_
  refine gc_seq ?_
  refine gc_seq ?_
  refine gc_region ?_
  refine ne (eo_mv rfl rfl) rfl ?_
  refine go_nil ?_
  refine gq_next ?_
  refine gc_block ?_
  refine gc_seq ?_
  refine gc_region ?_
  refine ne (eo_eql rfl rfl rfl) rfl ?_
  refine ne (eo_as rfl rfl) rfl ?_
  refine go_nil ?_
  refine gq_next ?_
  refine gc_cond rfl (fun hc0 => ?_) (fun hc0 => ?_)
  ·
    have hd0 := of_decide_eq_true hc0
    refine gc_seq ?_
    refine gc_region ?_
    refine ne (eo_as rfl rfl) rfl ?_
    refine go_nil ?_
    refine gq_next ?_
    refine gc_ret ?_
    refine gq_block_ret ?_
    refine gq_then_ret ?_
    refine gq_results (res1 rfl rfl) ?_
    subst hd0
    exact fun W1 hO => ⟨congrArg (fun z => Ending.returned (Value.string z)) (by kernel_rfl), hO.toExt⟩
  ·
    have hd0 := of_decide_eq_false hc0
    refine gc_seq ?_
    refine gc_region ?_
    refine ne (eo_eql rfl rfl rfl) rfl ?_
    refine ne (eo_as rfl rfl) rfl ?_
    refine go_nil ?_
    refine gq_next ?_
    refine gc_cond rfl (fun hc1 => ?_) (fun hc1 => ?_)
    ·
      have hd1 := of_decide_eq_true hc1
      refine gc_seq ?_
      refine gc_region ?_
      refine ne (eo_as rfl rfl) rfl ?_
      refine go_nil ?_
      refine gq_next ?_
      refine gc_ret ?_
      refine gq_block_ret ?_
      refine gq_then_ret ?_
      refine gq_results (res1 rfl rfl) ?_
      subst hd1
      exact fun W1 hO => ⟨congrArg (fun z => Ending.returned (Value.string z)) (by kernel_rfl), hO.toExt⟩
    ·
      have hd1 := of_decide_eq_false hc1
      refine gc_seq ?_
      refine gc_region ?_
      refine ne (eo_eql rfl rfl rfl) rfl ?_
      refine ne (eo_as rfl rfl) rfl ?_
      refine go_nil ?_
      refine gq_next ?_
      refine gc_cond rfl (fun hc2 => ?_) (fun hc2 => ?_)
      ·
        have hd2 := of_decide_eq_true hc2
        refine gc_seq ?_
        refine gc_region ?_
        refine ne (eo_as rfl rfl) rfl ?_
        refine go_nil ?_
        refine gq_next ?_
        refine gc_ret ?_
        refine gq_block_ret ?_
        refine gq_then_ret ?_
        refine gq_results (res1 rfl rfl) ?_
        subst hd2
        exact fun W1 hO => ⟨congrArg (fun z => Ending.returned (Value.string z)) (by kernel_rfl), hO.toExt⟩
      ·
        have hd2 := of_decide_eq_false hc2
        refine gc_seq ?_
        refine gc_region ?_
        refine ne (eo_eql rfl rfl rfl) rfl ?_
        refine ne (eo_as rfl rfl) rfl ?_
        refine go_nil ?_
        refine gq_next ?_
        refine gc_cond rfl (fun hc3 => ?_) (fun hc3 => ?_)
        ·
          have hd3 := of_decide_eq_true hc3
          refine gc_seq ?_
          refine gc_region ?_
          refine ne (eo_as rfl rfl) rfl ?_
          refine go_nil ?_
          refine gq_next ?_
          refine gc_ret ?_
          refine gq_block_ret ?_
          refine gq_then_ret ?_
          refine gq_results (res1 rfl rfl) ?_
          subst hd3
          exact fun W1 hO => ⟨congrArg (fun z => Ending.returned (Value.string z)) (by kernel_rfl), hO.toExt⟩
        ·
          have hd3 := of_decide_eq_false hc3
          refine gc_seq ?_
          refine gc_region ?_
          refine ne (eo_eql rfl rfl rfl) rfl ?_
          refine ne (eo_as rfl rfl) rfl ?_
          refine go_nil ?_
          refine gq_next ?_
          refine gc_cond rfl (fun hc4 => ?_) (fun hc4 => ?_)
          ·
            have hd4 := of_decide_eq_true hc4
            refine gc_seq ?_
            refine gc_region ?_
            refine ne (eo_as rfl rfl) rfl ?_
            refine go_nil ?_
            refine gq_next ?_
            refine gc_ret ?_
            refine gq_block_ret ?_
            refine gq_then_ret ?_
            refine gq_results (res1 rfl rfl) ?_
            subst hd4
            exact fun W1 hO => ⟨congrArg (fun z => Ending.returned (Value.string z)) (by kernel_rfl), hO.toExt⟩
          ·
            have hd4 := of_decide_eq_false hc4
            refine gc_seq ?_
            refine gc_region ?_
            refine ne (eo_eql rfl rfl rfl) rfl ?_
            refine ne (eo_as rfl rfl) rfl ?_
            refine go_nil ?_
            refine gq_next ?_
            refine gc_cond rfl (fun hc5 => ?_) (fun hc5 => ?_)
            ·
              have hd5 := of_decide_eq_true hc5
              refine gc_seq ?_
              refine gc_region ?_
              refine ne (eo_as rfl rfl) rfl ?_
              refine go_nil ?_
              refine gq_next ?_
              refine gc_ret ?_
              refine gq_block_ret ?_
              refine gq_then_ret ?_
              refine gq_results (res1 rfl rfl) ?_
              subst hd5
              exact fun W1 hO => ⟨congrArg (fun z => Ending.returned (Value.string z)) (by kernel_rfl), hO.toExt⟩
            ·
              have hd5 := of_decide_eq_false hc5
              refine gc_seq ?_
              refine gc_region ?_
              refine ne (eo_eql rfl rfl rfl) rfl ?_
              refine ne (eo_as rfl rfl) rfl ?_
              refine go_nil ?_
              refine gq_next ?_
              refine gc_cond rfl (fun hc6 => ?_) (fun hc6 => ?_)
              ·
                have hd6 := of_decide_eq_true hc6
                refine gc_seq ?_
                refine gc_region ?_
                refine ne (eo_as rfl rfl) rfl ?_
                refine go_nil ?_
                refine gq_next ?_
                refine gc_ret ?_
                refine gq_block_ret ?_
                refine gq_then_ret ?_
                refine gq_results (res1 rfl rfl) ?_
                subst hd6
                exact fun W1 hO => ⟨congrArg (fun z => Ending.returned (Value.string z)) (by kernel_rfl), hO.toExt⟩
              ·
                have hd6 := of_decide_eq_false hc6
                refine gc_seq ?_
                refine gc_region ?_
                refine ne (eo_eql rfl rfl rfl) rfl ?_
                refine ne (eo_as rfl rfl) rfl ?_
                refine go_nil ?_
                refine gq_next ?_
                refine gc_cond rfl (fun hc7 => ?_) (fun hc7 => ?_)
                ·
                  have hd7 := of_decide_eq_true hc7
                  refine gc_seq ?_
                  refine gc_region ?_
                  refine ne (eo_as rfl rfl) rfl ?_
                  refine go_nil ?_
                  refine gq_next ?_
                  refine gc_ret ?_
                  refine gq_block_ret ?_
                  refine gq_then_ret ?_
                  refine gq_results (res1 rfl rfl) ?_
                  subst hd7
                  exact fun W1 hO => ⟨congrArg (fun z => Ending.returned (Value.string z)) (by kernel_rfl), hO.toExt⟩
                ·
                  have hd7 := of_decide_eq_false hc7
                  refine gc_seq ?_
                  refine gc_region ?_
                  refine ne (eo_eql rfl rfl rfl) rfl ?_
                  refine ne (eo_as rfl rfl) rfl ?_
                  refine go_nil ?_
                  refine gq_next ?_
                  refine gc_cond rfl (fun hc8 => ?_) (fun hc8 => ?_)
                  ·
                    have hd8 := of_decide_eq_true hc8
                    refine gc_seq ?_
                    refine gc_region ?_
                    refine ne (eo_as rfl rfl) rfl ?_
                    refine go_nil ?_
                    refine gq_next ?_
                    refine gc_ret ?_
                    refine gq_block_ret ?_
                    refine gq_then_ret ?_
                    refine gq_results (res1 rfl rfl) ?_
                    subst hd8
                    exact fun W1 hO => ⟨congrArg (fun z => Ending.returned (Value.string z)) (by kernel_rfl), hO.toExt⟩
                  ·
                    have hd8 := of_decide_eq_false hc8
                    refine gc_seq ?_
                    refine gc_region ?_
                    refine ne (eo_eql rfl rfl rfl) rfl ?_
                    refine ne (eo_as rfl rfl) rfl ?_
                    refine go_nil ?_
                    refine gq_next ?_
                    refine gc_cond rfl (fun hc9 => ?_) (fun hc9 => ?_)
                    ·
                      have hd9 := of_decide_eq_true hc9
                      refine gc_seq ?_
                      refine gc_region ?_
                      refine ne (eo_as rfl rfl) rfl ?_
                      refine go_nil ?_
                      refine gq_next ?_
                      refine gc_ret ?_
                      refine gq_block_ret ?_
                      refine gq_then_ret ?_
                      refine gq_results (res1 rfl rfl) ?_
                      subst hd9
                      exact fun W1 hO => ⟨congrArg (fun z => Ending.returned (Value.string z)) (by kernel_rfl), hO.toExt⟩
                    ·
                      have hd9 := of_decide_eq_false hc9
                      refine gc_seq ?_
                      refine gc_region ?_
                      refine ne (eo_eql rfl rfl rfl) rfl ?_
                      refine ne (eo_as rfl rfl) rfl ?_
                      refine go_nil ?_
                      refine gq_next ?_
                      refine gc_cond rfl (fun hc10 => ?_) (fun hc10 => ?_)
                      ·
                        have hd10 := of_decide_eq_true hc10
                        refine gc_seq ?_
                        refine gc_region ?_
                        refine ne (eo_as rfl rfl) rfl ?_
                        refine go_nil ?_
                        refine gq_next ?_
                        refine gc_ret ?_
                        refine gq_block_ret ?_
                        refine gq_then_ret ?_
                        refine gq_results (res1 rfl rfl) ?_
                        subst hd10
                        exact fun W1 hO => ⟨congrArg (fun z => Ending.returned (Value.string z)) (by kernel_rfl), hO.toExt⟩
                      ·
                        have hd10 := of_decide_eq_false hc10
                        refine gc_seq ?_
                        refine gc_region ?_
                        refine ne (eo_eql rfl rfl rfl) rfl ?_
                        refine ne (eo_as rfl rfl) rfl ?_
                        refine go_nil ?_
                        refine gq_next ?_
                        refine gc_cond rfl (fun hc11 => ?_) (fun hc11 => ?_)
                        ·
                          have hd11 := of_decide_eq_true hc11
                          refine gc_seq ?_
                          refine gc_region ?_
                          refine ne (eo_as rfl rfl) rfl ?_
                          refine go_nil ?_
                          refine gq_next ?_
                          refine gc_ret ?_
                          refine gq_block_ret ?_
                          refine gq_then_ret ?_
                          refine gq_results (res1 rfl rfl) ?_
                          subst hd11
                          exact fun W1 hO => ⟨congrArg (fun z => Ending.returned (Value.string z)) (by kernel_rfl), hO.toExt⟩
                        ·
                          have hd11 := of_decide_eq_false hc11
                          refine gc_seq ?_
                          refine gc_region ?_
                          refine ne (eo_eql rfl rfl rfl) rfl ?_
                          refine ne (eo_as rfl rfl) rfl ?_
                          refine go_nil ?_
                          refine gq_next ?_
                          refine gc_cond rfl (fun hc12 => ?_) (fun hc12 => ?_)
                          ·
                            have hd12 := of_decide_eq_true hc12
                            refine gc_seq ?_
                            refine gc_region ?_
                            refine ne (eo_as rfl rfl) rfl ?_
                            refine go_nil ?_
                            refine gq_next ?_
                            refine gc_ret ?_
                            refine gq_block_ret ?_
                            refine gq_then_ret ?_
                            refine gq_results (res1 rfl rfl) ?_
                            subst hd12
                            exact fun W1 hO => ⟨congrArg (fun z => Ending.returned (Value.string z)) (by kernel_rfl), hO.toExt⟩
                          ·
                            have hd12 := of_decide_eq_false hc12
                            refine gc_skip ?_
                            refine gq_block_end ?_
                            refine gq_next ?_
                            refine gc_seq ?_
                            refine gc_region ?_
                            refine ne (eo_as rfl rfl) rfl ?_
                            refine go_nil ?_
                            refine gq_next ?_
                            refine gc_ret ?_
                            refine gq_results (res1 rfl rfl) ?_
                            exact fun W1 hO => ⟨congrArg (fun z => Ending.returned (Value.string z)) (by rw [refS, if_neg]; rw [known_iff]; omega), hO.toExt⟩

/-- barscan/barscanref47.others -/
theorem rothers_c (c : Int) (w : World)  (h0 : 78 ≤ c) (h1 : c ≤ 255) :
    Calls Try.prog 35 #[.int .u8 c] w (fun e w' => e = .returned (.string (refS c)) ∧ Ext w w') := by
  refine calls_enter (N := ⟨36, []⟩) [] ([]) Try.func35 rfl rfl rfl (Ow.start _) ?_
  refine gc_seq ?_
  refine gc_region ?_
  refine ne (eo_as rfl rfl) rfl ?_
  refine go_nil ?_
  refine gq_next ?_
  refine gc_seq ?_
  refine gc_seq ?_
  refine gc_region ?_
  refine ne (eo_mv rfl rfl) rfl ?_
  refine go_nil ?_
  refine gq_next ?_
  refine gc_block ?_
  refine gc_seq ?_
  refine gc_region ?_
  refine ne (eo_eql rfl rfl rfl) rfl ?_
  refine ne (eo_as rfl rfl) rfl ?_
  refine go_nil ?_
  refine gq_next ?_
  refine gc_cond rfl (fun hc0 => ?_) (fun hc0 => ?_)
  ·
    have hd0 := of_decide_eq_true hc0
    refine gc_seq ?_
    refine gc_region ?_
    refine ne (eo_as rfl rfl) rfl ?_
    refine go_nil ?_
    refine gq_next ?_
    refine gc_ret ?_
    refine gq_block_ret ?_
    refine gq_then_ret ?_
    refine gq_results (res1 rfl rfl) ?_
    subst hd0
    exact fun W1 hO => ⟨congrArg (fun z => Ending.returned (Value.string z)) (by kernel_rfl), hO.toExt⟩
  ·
    have hd0 := of_decide_eq_false hc0
    refine gc_seq ?_
    refine gc_region ?_
    refine ne (eo_eql rfl rfl rfl) rfl ?_
    refine ne (eo_as rfl rfl) rfl ?_
    refine go_nil ?_
    refine gq_next ?_
    refine gc_cond rfl (fun hc1 => ?_) (fun hc1 => ?_)
    ·
      have hd1 := of_decide_eq_true hc1
      refine gc_seq ?_
      refine gc_region ?_
      refine ne (eo_as rfl rfl) rfl ?_
      refine go_nil ?_
      refine gq_next ?_
      refine gc_ret ?_
      refine gq_block_ret ?_
      refine gq_then_ret ?_
      refine gq_results (res1 rfl rfl) ?_
      subst hd1
      exact fun W1 hO => ⟨congrArg (fun z => Ending.returned (Value.string z)) (by kernel_rfl), hO.toExt⟩
    ·
      have hd1 := of_decide_eq_false hc1
      refine gc_seq ?_
      refine gc_region ?_
      refine ne (eo_eql rfl rfl rfl) rfl ?_
      refine ne (eo_as rfl rfl) rfl ?_
      refine go_nil ?_
      refine gq_next ?_
      refine gc_cond rfl (fun hc2 => ?_) (fun hc2 => ?_)
      ·
        have hd2 := of_decide_eq_true hc2
        refine gc_seq ?_
        refine gc_region ?_
        refine ne (eo_as rfl rfl) rfl ?_
        refine go_nil ?_
        refine gq_next ?_
        refine gc_ret ?_
        refine gq_block_ret ?_
        refine gq_then_ret ?_
        refine gq_results (res1 rfl rfl) ?_
        subst hd2
        exact fun W1 hO => ⟨congrArg (fun z => Ending.returned (Value.string z)) (by kernel_rfl), hO.toExt⟩
      ·
        have hd2 := of_decide_eq_false hc2
        refine gc_seq ?_
        refine gc_region ?_
        refine ne (eo_eql rfl rfl rfl) rfl ?_
        refine ne (eo_as rfl rfl) rfl ?_
        refine go_nil ?_
        refine gq_next ?_
        refine gc_cond rfl (fun hc3 => ?_) (fun hc3 => ?_)
        ·
          have hd3 := of_decide_eq_true hc3
          refine gc_seq ?_
          refine gc_region ?_
          refine ne (eo_as rfl rfl) rfl ?_
          refine go_nil ?_
          refine gq_next ?_
          refine gc_ret ?_
          refine gq_block_ret ?_
          refine gq_then_ret ?_
          refine gq_results (res1 rfl rfl) ?_
          subst hd3
          exact fun W1 hO => ⟨congrArg (fun z => Ending.returned (Value.string z)) (by kernel_rfl), hO.toExt⟩
        ·
          have hd3 := of_decide_eq_false hc3
          refine gc_seq ?_
          refine gc_region ?_
          refine ne (eo_eql rfl rfl rfl) rfl ?_
          refine ne (eo_as rfl rfl) rfl ?_
          refine go_nil ?_
          refine gq_next ?_
          refine gc_cond rfl (fun hc4 => ?_) (fun hc4 => ?_)
          ·
            have hd4 := of_decide_eq_true hc4
            refine gc_seq ?_
            refine gc_region ?_
            refine ne (eo_as rfl rfl) rfl ?_
            refine go_nil ?_
            refine gq_next ?_
            refine gc_ret ?_
            refine gq_block_ret ?_
            refine gq_then_ret ?_
            refine gq_results (res1 rfl rfl) ?_
            subst hd4
            exact fun W1 hO => ⟨congrArg (fun z => Ending.returned (Value.string z)) (by kernel_rfl), hO.toExt⟩
          ·
            have hd4 := of_decide_eq_false hc4
            refine gc_seq ?_
            refine gc_region ?_
            refine ne (eo_eql rfl rfl rfl) rfl ?_
            refine ne (eo_as rfl rfl) rfl ?_
            refine go_nil ?_
            refine gq_next ?_
            refine gc_cond rfl (fun hc5 => ?_) (fun hc5 => ?_)
            ·
              have hd5 := of_decide_eq_true hc5
              refine gc_seq ?_
              refine gc_region ?_
              refine ne (eo_as rfl rfl) rfl ?_
              refine go_nil ?_
              refine gq_next ?_
              refine gc_ret ?_
              refine gq_block_ret ?_
              refine gq_then_ret ?_
              refine gq_results (res1 rfl rfl) ?_
              subst hd5
              exact fun W1 hO => ⟨congrArg (fun z => Ending.returned (Value.string z)) (by kernel_rfl), hO.toExt⟩
            ·
              have hd5 := of_decide_eq_false hc5
              refine gc_seq ?_
              refine gc_region ?_
              refine ne (eo_eql rfl rfl rfl) rfl ?_
              refine ne (eo_as rfl rfl) rfl ?_
              refine go_nil ?_
              refine gq_next ?_
              refine gc_cond rfl (fun hc6 => ?_) (fun hc6 => ?_)
              ·
                have hd6 := of_decide_eq_true hc6
                refine gc_seq ?_
                refine gc_region ?_
                refine ne (eo_as rfl rfl) rfl ?_
                refine go_nil ?_
                refine gq_next ?_
                refine gc_ret ?_
                refine gq_block_ret ?_
                refine gq_then_ret ?_
                refine gq_results (res1 rfl rfl) ?_
                subst hd6
                exact fun W1 hO => ⟨congrArg (fun z => Ending.returned (Value.string z)) (by kernel_rfl), hO.toExt⟩
              ·
                have hd6 := of_decide_eq_false hc6
                refine gc_seq ?_
                refine gc_region ?_
                refine ne (eo_eql rfl rfl rfl) rfl ?_
                refine ne (eo_as rfl rfl) rfl ?_
                refine go_nil ?_
                refine gq_next ?_
                refine gc_cond rfl (fun hc7 => ?_) (fun hc7 => ?_)
                ·
                  have hd7 := of_decide_eq_true hc7
                  refine gc_seq ?_
                  refine gc_region ?_
                  refine ne (eo_as rfl rfl) rfl ?_
                  refine go_nil ?_
                  refine gq_next ?_
                  refine gc_ret ?_
                  refine gq_block_ret ?_
                  refine gq_then_ret ?_
                  refine gq_results (res1 rfl rfl) ?_
                  subst hd7
                  exact fun W1 hO => ⟨congrArg (fun z => Ending.returned (Value.string z)) (by kernel_rfl), hO.toExt⟩
                ·
                  have hd7 := of_decide_eq_false hc7
                  refine gc_seq ?_
                  refine gc_region ?_
                  refine ne (eo_eql rfl rfl rfl) rfl ?_
                  refine ne (eo_as rfl rfl) rfl ?_
                  refine go_nil ?_
                  refine gq_next ?_
                  refine gc_cond rfl (fun hc8 => ?_) (fun hc8 => ?_)
                  ·
                    have hd8 := of_decide_eq_true hc8
                    refine gc_seq ?_
                    refine gc_region ?_
                    refine ne (eo_as rfl rfl) rfl ?_
                    refine go_nil ?_
                    refine gq_next ?_
                    refine gc_ret ?_
                    refine gq_block_ret ?_
                    refine gq_then_ret ?_
                    refine gq_results (res1 rfl rfl) ?_
                    subst hd8
                    exact fun W1 hO => ⟨congrArg (fun z => Ending.returned (Value.string z)) (by kernel_rfl), hO.toExt⟩
                  ·
                    have hd8 := of_decide_eq_false hc8
                    refine gc_seq ?_
                    refine gc_region ?_
                    refine ne (eo_eql rfl rfl rfl) rfl ?_
                    refine ne (eo_as rfl rfl) rfl ?_
                    refine go_nil ?_
                    refine gq_next ?_
                    refine gc_cond rfl (fun hc9 => ?_) (fun hc9 => ?_)
                    ·
                      have hd9 := of_decide_eq_true hc9
                      refine gc_seq ?_
                      refine gc_region ?_
                      refine ne (eo_as rfl rfl) rfl ?_
                      refine go_nil ?_
                      refine gq_next ?_
                      refine gc_ret ?_
                      refine gq_block_ret ?_
                      refine gq_then_ret ?_
                      refine gq_results (res1 rfl rfl) ?_
                      subst hd9
                      exact fun W1 hO => ⟨congrArg (fun z => Ending.returned (Value.string z)) (by kernel_rfl), hO.toExt⟩
                    ·
                      have hd9 := of_decide_eq_false hc9
                      refine gc_seq ?_
                      refine gc_region ?_
                      refine ne (eo_eql rfl rfl rfl) rfl ?_
                      refine ne (eo_as rfl rfl) rfl ?_
                      refine go_nil ?_
                      refine gq_next ?_
                      refine gc_cond rfl (fun hc10 => ?_) (fun hc10 => ?_)
                      ·
                        have hd10 := of_decide_eq_true hc10
                        refine gc_seq ?_
                        refine gc_region ?_
                        refine ne (eo_as rfl rfl) rfl ?_
                        refine go_nil ?_
                        refine gq_next ?_
                        refine gc_ret ?_
                        refine gq_block_ret ?_
                        refine gq_then_ret ?_
                        refine gq_results (res1 rfl rfl) ?_
                        subst hd10
                        exact fun W1 hO => ⟨congrArg (fun z => Ending.returned (Value.string z)) (by kernel_rfl), hO.toExt⟩
                      ·
                        have hd10 := of_decide_eq_false hc10
                        refine gc_seq ?_
                        refine gc_region ?_
                        refine ne (eo_eql rfl rfl rfl) rfl ?_
                        refine ne (eo_as rfl rfl) rfl ?_
                        refine go_nil ?_
                        refine gq_next ?_
                        refine gc_cond rfl (fun hc11 => ?_) (fun hc11 => ?_)
                        ·
                          have hd11 := of_decide_eq_true hc11
                          refine gc_seq ?_
                          refine gc_region ?_
                          refine ne (eo_as rfl rfl) rfl ?_
                          refine go_nil ?_
                          refine gq_next ?_
                          refine gc_ret ?_
                          refine gq_block_ret ?_
                          refine gq_then_ret ?_
                          refine gq_results (res1 rfl rfl) ?_
                          subst hd11
                          exact fun W1 hO => ⟨congrArg (fun z => Ending.returned (Value.string z)) (by kernel_rfl), hO.toExt⟩
                        ·
                          have hd11 := of_decide_eq_false hc11
                          refine gc_seq ?_
                          refine gc_region ?_
                          refine ne (eo_eql rfl rfl rfl) rfl ?_
                          refine ne (eo_as rfl rfl) rfl ?_
                          refine go_nil ?_
                          refine gq_next ?_
                          refine gc_cond rfl (fun hc12 => ?_) (fun hc12 => ?_)
                          ·
                            have hd12 := of_decide_eq_true hc12
                            refine gc_seq ?_
                            refine gc_region ?_
                            refine ne (eo_as rfl rfl) rfl ?_
                            refine go_nil ?_
                            refine gq_next ?_
                            refine gc_ret ?_
                            refine gq_block_ret ?_
                            refine gq_then_ret ?_
                            refine gq_results (res1 rfl rfl) ?_
                            subst hd12
                            exact fun W1 hO => ⟨congrArg (fun z => Ending.returned (Value.string z)) (by kernel_rfl), hO.toExt⟩
                          ·
                            have hd12 := of_decide_eq_false hc12
                            refine gc_seq ?_
                            refine gc_region ?_
                            refine ne (eo_eql rfl rfl rfl) rfl ?_
                            refine ne (eo_as rfl rfl) rfl ?_
                            refine go_nil ?_
                            refine gq_next ?_
                            refine gc_cond rfl (fun hc13 => ?_) (fun hc13 => ?_)
                            ·
                              have hd13 := of_decide_eq_true hc13
                              refine gc_seq ?_
                              refine gc_region ?_
                              refine ne (eo_as rfl rfl) rfl ?_
                              refine go_nil ?_
                              refine gq_next ?_
                              refine gc_ret ?_
                              refine gq_block_ret ?_
                              refine gq_then_ret ?_
                              refine gq_results (res1 rfl rfl) ?_
                              subst hd13
                              exact fun W1 hO => ⟨congrArg (fun z => Ending.returned (Value.string z)) (by kernel_rfl), hO.toExt⟩
                            ·
                              have hd13 := of_decide_eq_false hc13
                              refine gc_seq ?_
                              refine gc_region ?_
                              refine ne (eo_eql rfl rfl rfl) rfl ?_
                              refine ne (eo_as rfl rfl) rfl ?_
                              refine go_nil ?_
                              refine gq_next ?_
                              refine gc_cond rfl (fun hc14 => ?_) (fun hc14 => ?_)
                              ·
                                have hd14 := of_decide_eq_true hc14
                                refine gc_seq ?_
                                refine gc_region ?_
                                refine ne (eo_as rfl rfl) rfl ?_
                                refine go_nil ?_
                                refine gq_next ?_
                                refine gc_ret ?_
                                refine gq_block_ret ?_
                                refine gq_then_ret ?_
                                refine gq_results (res1 rfl rfl) ?_
                                subst hd14
                                exact fun W1 hO => ⟨congrArg (fun z => Ending.returned (Value.string z)) (by kernel_rfl), hO.toExt⟩
                              ·
                                have hd14 := of_decide_eq_false hc14
                                refine gc_seq ?_
                                refine gc_region ?_
                                refine ne (eo_eql rfl rfl rfl) rfl ?_
                                refine ne (eo_as rfl rfl) rfl ?_
                                refine go_nil ?_
                                refine gq_next ?_
                                refine gc_cond rfl (fun hc15 => ?_) (fun hc15 => ?_)
                                ·
                                  have hd15 := of_decide_eq_true hc15
                                  refine gc_seq ?_
                                  refine gc_region ?_
                                  refine ne (eo_as rfl rfl) rfl ?_
                                  refine go_nil ?_
                                  refine gq_next ?_
                                  refine gc_ret ?_
                                  refine gq_block_ret ?_
                                  refine gq_then_ret ?_
                                  refine gq_results (res1 rfl rfl) ?_
                                  subst hd15
                                  exact fun W1 hO => ⟨congrArg (fun z => Ending.returned (Value.string z)) (by kernel_rfl), hO.toExt⟩
                                ·
                                  have hd15 := of_decide_eq_false hc15
                                  refine gc_skip ?_
                                  refine gq_block_end ?_
                                  refine gq_next ?_
                                  refine gc_seq ?_
                                  refine gc_region ?_
                                  refine ne (eo_as rfl rfl) rfl ?_
                                  refine go_nil ?_
                                  refine gq_next ?_
                                  refine gc_ret ?_
                                  refine gq_results (res1 rfl rfl) ?_
                                  exact fun W1 hO => ⟨congrArg (fun z => Ending.returned (Value.string z)) (by rw [refS, if_neg]; rw [known_iff]; omega), hO.toExt⟩

/-- barscan/barscanref47.rows -/
theorem rows_c (c : Int) (w : World)  (h0 : 0 ≤ c) (h1 : c ≤ 255) :
    Calls Try.prog 25 #[.int .u8 c] w (fun e w' => e = .returned (.string (refS c)) ∧ Ext w w') := by
  refine calls_enter (N := ⟨17, []⟩) [] ([]) Try.func25 rfl rfl rfl (Ow.start _) ?_
  refine gc_seq ?_
  refine gc_region ?_
  refine ne (eo_as rfl rfl) rfl ?_
  refine go_nil ?_
  refine gq_next ?_
  refine gc_seq ?_
  refine gc_seq ?_
  refine gc_region ?_
  refine ne (eo_mv rfl rfl) rfl ?_
  refine ne (eo_lss rfl rfl rfl) rfl ?_
  refine go_nil ?_
  refine gq_next ?_
  refine gc_cond rfl (fun hc0 => ?_) (fun hc0 => ?_)
  ·
    replace hc0 := of_decide_eq_true hc0
    refine gc_seq ?_
    refine gc_region ?_
    refine ne (eo_mv rfl rfl) rfl ?_
    refine ne (eo_call rfl en32 rfl (fun W1 hO => rsigns_c _ W1  (by omega) (by omega))) rfl ?_
    refine ne (eo_as rfl rfl) rfl ?_
    refine go_nil ?_
    refine gq_next ?_
    refine gc_ret ?_
    refine gq_then_ret ?_
    refine gq_results (res1 rfl rfl) ?_
    exact fun W1 hO => ⟨rfl, hO.toExt⟩
  ·
    replace hc0 := of_decide_eq_false hc0
    refine gc_skip ?_
    refine gq_next ?_
    refine gc_seq ?_
    refine gc_seq ?_
    refine gc_region ?_
    refine ne (eo_mv rfl rfl) rfl ?_
    refine ne (eo_lss rfl rfl rfl) rfl ?_
    refine go_nil ?_
    refine gq_next ?_
    refine gc_cond rfl (fun hc1 => ?_) (fun hc1 => ?_)
    ·
      replace hc1 := of_decide_eq_true hc1
      refine gc_seq ?_
      refine gc_region ?_
      refine ne (eo_mv rfl rfl) rfl ?_
      refine ne (eo_call rfl en33 rfl (fun W1 hO => rdigits_c _ W1  (by omega) (by omega))) rfl ?_
      refine ne (eo_as rfl rfl) rfl ?_
      refine go_nil ?_
      refine gq_next ?_
      refine gc_ret ?_
      refine gq_then_ret ?_
      refine gq_results (res1 rfl rfl) ?_
      exact fun W1 hO => ⟨rfl, hO.toExt⟩
    ·
      replace hc1 := of_decide_eq_false hc1
      refine gc_skip ?_
      refine gq_next ?_
      refine gc_seq ?_
      refine gc_seq ?_
      refine gc_region ?_
      refine ne (eo_mv rfl rfl) rfl ?_
      refine ne (eo_lss rfl rfl rfl) rfl ?_
      refine go_nil ?_
      refine gq_next ?_
      refine gc_cond rfl (fun hc2 => ?_) (fun hc2 => ?_)
      ·
        replace hc2 := of_decide_eq_true hc2
        refine gc_seq ?_
        refine gc_region ?_
        refine ne (eo_mv rfl rfl) rfl ?_
        refine ne (eo_call rfl en34 rfl (fun W1 hO => rletters_c _ W1  (by omega) (by omega))) rfl ?_
        refine ne (eo_as rfl rfl) rfl ?_
        refine go_nil ?_
        refine gq_next ?_
        refine gc_ret ?_
        refine gq_then_ret ?_
        refine gq_results (res1 rfl rfl) ?_
        exact fun W1 hO => ⟨rfl, hO.toExt⟩
      ·
        replace hc2 := of_decide_eq_false hc2
        refine gc_skip ?_
        refine gq_next ?_
        refine gc_seq ?_
        refine gc_region ?_
        refine ne (eo_mv rfl rfl) rfl ?_
        refine ne (eo_call rfl en35 rfl (fun W1 hO => rothers_c _ W1  (by omega) (by omega))) rfl ?_
        refine ne (eo_as rfl rfl) rfl ?_
        refine go_nil ?_
        refine gq_next ?_
        refine gc_ret ?_
        refine gq_results (res1 rfl rfl) ?_
        exact fun W1 hO => ⟨rfl, hO.toExt⟩

end Go.Proofs.Ytjndoanhkfdngaa
