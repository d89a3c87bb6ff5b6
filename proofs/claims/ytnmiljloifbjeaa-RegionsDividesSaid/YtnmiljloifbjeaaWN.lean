/-
  The walks of the functions of package regions and of the document's answers (part N): what each call returns, at every argument.
-/
import Derived.Test.YtnmiljloifbjeaaWL
import Derived.Test.YtnmiljloifbjeaaWM
import Derived.Test.YtnmiljloifbjeaaWG
import Derived.Test.YtnmiljloifbjeaaWF
namespace Go.Proofs.Ytnmiljloifbjeaa
open Go.RowKit Go.Eng

open Go.Bs
theorem lit22_d46c12b4 (W : World) : (Instr.buildSlice 22 7 #[(0, .bool true), (1, .bool false), (2, .bool false), (3, .bool true), (4, .bool false), (5, .bool true), (6, .bool true)]).run Try.prog W = .ok (.slice (some ⟨W.heap.size, 0, none⟩) 7 7) (W.alloc (.cells (tab 7 (bv (litF false [true, false, false, true, false, true, true])) ++ []).toArray 4)) := by kernel_rfl
theorem en13 : Ent Try.prog 13 := ent_of Try.func13 (by kernel_rfl) rfl
theorem b32_23 (x2 : Int) (x3 : Int) (W : World) : (Instr.build 32 #[(2, .int .i64 x2), (3, .int .i64 x3)]).run Try.prog W = .ok (.agg #[.int .i64 0, .int .i64 0, .int .i64 x2, .int .i64 x3]) W := by kernel_rfl
theorem en12 : Ent Try.prog 12 := ent_of Try.func12 (by kernel_rfl) rfl
theorem en17 : Ent Try.prog 17 := ent_of Try.func17 (by kernel_rfl) rfl
theorem en21 : Ent Try.prog 21 := ent_of Try.func21 (by kernel_rfl) rfl
theorem lit22_e9ce4cfc (W : World) : (Instr.buildSlice 22 7 #[(0, .bool true), (1, .bool false), (2, .bool false), (3, .bool true), (4, .bool true), (5, .bool true), (6, .bool true)]).run Try.prog W = .ok (.slice (some ⟨W.heap.size, 0, none⟩) 7 7) (W.alloc (.cells (tab 7 (bv (litF false [true, false, false, true, true, true, true])) ++ []).toArray 4)) := by kernel_rfl
theorem en14 : Ent Try.prog 14 := ent_of Try.func14 (by kernel_rfl) rfl
theorem b32_023 (x0 : Int) (x2 : Int) (x3 : Int) (W : World) : (Instr.build 32 #[(0, .int .i64 x0), (2, .int .i64 x2), (3, .int .i64 x3)]).run Try.prog W = .ok (.agg #[.int .i64 x0, .int .i64 0, .int .i64 x2, .int .i64 x3]) W := by kernel_rfl
theorem litboxes (W : World) : (Instr.buildSlice 27 3 #[(0, .agg #[.int .i64 0, .int .i64 0, .int .i64 1, .int .i64 1]), (1, .agg #[.int .i64 5, .int .i64 0, .int .i64 1, .int .i64 1]), (2, .agg #[.int .i64 5, .int .i64 3, .int .i64 1, .int .i64 1])]).run Try.prog W = .ok (.slice (some ⟨W.heap.size, 0, none⟩) 3 3) (W.alloc (.cells (tab 12 (iv .i64 (litF 0 [0, 0, 1, 1, 5, 0, 1, 1, 5, 3, 1, 1])) ++ []).toArray 32)) := by kernel_rfl
theorem en23 : Ent Try.prog 23 := ent_of Try.func23 (by kernel_rfl) rfl
theorem sl49 : TySl Try.prog 49 54 5 := ⟨Try.underlying49, by kernel_rfl⟩
theorem f54_0 : FieldAt Try.prog 54 0 0 := ⟨_, _, 0, Try.underlying54, rfl, by kernel_rfl, rfl⟩
theorem s44 : TyS Try.prog 44 := ⟨⟨_, Try.underlying44, rfl⟩, by kernel_rfl⟩

set_option maxRecDepth 100000 in
/-- barscan/barscanlaw46.alive -/
theorem alive46_c  (w : World)   :
    Calls Try.prog 10 #[] w (fun e w' => e = .returned (.bool true) ∧ Ext w w') := by
  refine calls_enter (N := ⟨109, []⟩) [] ([]) Try.func10 rfl rfl rfl (Ow.start _) ?_
  refine gc_seq ?_
  refine gc_region ?_
  refine ne (eo_as rfl rfl) rfl ?_
  refine go_nil ?_
  refine gq_next ?_
  refine gc_seq ?_
  refine gc_region ?_
  refine nx (xo_lit rfl rfl lit22_d46c12b4) rfl ?_
  rintro _ _ ⟨g13, rfl, rfl⟩
  refine ne (eo_build rfl rfl (b24_012 _ _ _ _ _)) rfl ?_
  refine nx (xo_freshT rfl en13 rfl (fun W1 hO => smooth_x _ _ _ _ _ _ _ W1 (tabs_rd hO 0 rfl) (by omega))) rfl ?_
  rintro _ _ ⟨S15, ⟨A15, k15, rfl, hk15, hS15⟩, rfl⟩
  refine ne (eo_mv rfl rfl) rfl ?_
  refine ne (eo_extract rfl rfl rfl) rfl ?_
  refine ne (eo_extract rfl rfl rfl) rfl ?_
  refine nx (xo_alloc rfl z24) rfl ?_
  rintro _ _ ⟨g1, rfl, rfl⟩
  refine nu (xo_storeA 0 rfl a24 rfl rfl (ones_cons (by first | rfl | exact AS.one) (ones_cons (by first | rfl | exact AS.one) (ones_cons (by first | rfl | exact AS.one) ones_nil))) rfl rfl rfl rfl) ?_
  rintro _ _ ⟨rfl, rfl⟩
  refine ne (eo_as rfl rfl) rfl ?_
  refine go_nil ?_
  refine gq_next ?_
  refine gc_seq ?_
  refine gc_region ?_
  refine nx (xo_makeb rfl Try.underlying22 e4 rfl rfl (by omega) (by omega) (by omega)) rfl ?_
  rintro _ _ ⟨g18, rfl, rfl⟩
  refine ne (eo_build rfl rfl (b24_012 _ _ _ _ _)) rfl ?_
  refine nx (xo_alloc rfl z24) rfl ?_
  rintro _ _ ⟨g3, rfl, rfl⟩
  refine nu (xo_storeA 0 rfl a24 rfl rfl (ones_cons (by first | rfl | exact AS.one) (ones_cons (by first | rfl | exact AS.one) (ones_cons (by first | rfl | exact AS.one) ones_nil))) rfl rfl rfl rfl) ?_
  rintro _ _ ⟨rfl, rfl⟩
  refine go_nil ?_
  refine gq_next ?_
  refine gc_seq ?_
  refine gc_region ?_
  refine ne (eo_field rfl f24_2 rfl) rfl ?_
  refine ne (eo_load 0 rfl s22 rfl rfl rfl rfl) rfl ?_
  refine ne (eo_index0 rfl sl22 rfl rfl (by omega) (by omega)) rfl ?_
  refine nu (xo_setb 1 rfl s4 rfl rfl rfl (by omega)) ?_
  rintro _ _ ⟨rfl, rfl⟩
  refine go_nil ?_
  refine gq_next ?_
  refine gc_seq ?_
  refine gc_region ?_
  refine ne (eo_field rfl f24_2 rfl) rfl ?_
  refine ne (eo_load 0 rfl s22 rfl rfl rfl rfl) rfl ?_
  refine ne (eo_index0 rfl sl22 rfl rfl (by omega) (by omega)) rfl ?_
  refine nu (xo_setb 1 rfl s4 rfl rfl rfl (by omega)) ?_
  rintro _ _ ⟨rfl, rfl⟩
  refine go_nil ?_
  refine gq_next ?_
  refine gc_seq ?_
  refine gc_region ?_
  refine ne (eo_field rfl f24_2 rfl) rfl ?_
  refine ne (eo_load 0 rfl s22 rfl rfl rfl rfl) rfl ?_
  refine ne (eo_index0 rfl sl22 rfl rfl (by omega) (by omega)) rfl ?_
  refine nu (xo_setb 1 rfl s4 rfl rfl rfl (by omega)) ?_
  rintro _ _ ⟨rfl, rfl⟩
  refine go_nil ?_
  refine gq_next ?_
  refine gc_seq ?_
  refine gc_weak (L' := [(1, .pointer (some ⟨g1, 0, none⟩)), (2, .int .i64 ((smR ⟨7, 1, 7, (litF false [true, false, false, true, false, true, true])⟩ 1).2)), (3, .pointer (some ⟨g3, 0, none⟩))]) (H' := ⟨g3, 24, [.int .i64 6, .int .i64 4, .slice (some ⟨g18, 0, none⟩) 24 24]⟩ :: ⟨g18, 4, tab 24 (bv (upd (upd (upd (fun _ => false) (0) true) (5) true) (23) true)) ++ []⟩ :: ⟨g1, 24, [.int .i64 ((smR ⟨7, 1, 7, (litF false [true, false, false, true, false, true, true])⟩ 1).1.W), .int .i64 ((smR ⟨7, 1, 7, (litF false [true, false, false, true, false, true, true])⟩ 1).1.H), .slice A15 ((smR ⟨7, 1, 7, (litF false [true, false, false, true, false, true, true])⟩ 1).1.n) k15]⟩ :: ⟨g13, 4, tab 7 (bv (litF false [true, false, false, true, false, true, true])) ++ []⟩ :: S15) ⟨rfl, rfl, rfl, trivial⟩ (List.Sublist.refl _) ?_
  refine gc_region ?_
  refine ne (eo_loadA 0 rfl a24 rfl rfl rfl rfl) rfl ?_
  refine nx (xo_freshT rfl en11 rfl (fun W1 hO => cut_x _ _ _ _ _ _ _ _ W1 (tabs_rd hO 1 rfl) (by omega))) rfl ?_
  rintro _ _ ⟨S31, ⟨A31, k31, rfl, hk31, hS31⟩, rfl⟩
  refine ne (eo_mv rfl rfl) rfl ?_
  refine ne (eo_extract rfl rfl rfl) rfl ?_
  refine ne (eo_extract rfl rfl rfl) rfl ?_
  refine ne (eo_as rfl rfl) rfl ?_
  refine ne (eo_as rfl rfl) rfl ?_
  refine go_nil ?_
  refine gq_next ?_
  refine gc_seq ?_
  refine gc_region ?_
  refine ne (eo_loadA 0 rfl a24 rfl rfl rfl rfl) rfl ?_
  refine ne (eo_build rfl rfl (b32_23 _ _)) rfl ?_
  refine nx (xo_freshT rfl en12 rfl (fun W1 hO => Gaps_x _ _ _ _ _ _ _ _ _ _ _ W1 (tabs_rd hO 1 rfl))) rfl ?_
  rintro _ _ ⟨S37, ⟨A37, k37, rfl, hk37, hS37⟩, rfl⟩
  refine ne (eo_mv rfl rfl) rfl ?_
  refine ne (eo_extract rfl rfl rfl) rfl ?_
  refine ne (eo_extract rfl rfl rfl) rfl ?_
  refine ne (eo_as rfl rfl) rfl ?_
  refine ne (eo_as rfl rfl) rfl ?_
  refine go_nil ?_
  refine gq_next ?_
  refine gc_seq ?_
  refine gc_region ?_
  refine ne (eo_loadA 0 rfl a24 rfl rfl rfl rfl) rfl ?_
  refine ne (eo_build rfl rfl (b32_23 _ _)) rfl ?_
  refine ne (eo_call rfl en17 rfl (fun W1 hO => classify_c _ _ _ _ _ _ _ _ _ _ W1 (tabs_rd hO 1 rfl) )) rfl ?_
  refine ne (eo_mv rfl rfl) rfl ?_
  refine ne (eo_extract rfl rfl rfl) rfl ?_
  refine ne (eo_extract rfl rfl rfl) rfl ?_
  refine ne (eo_as rfl rfl) rfl ?_
  refine ne (eo_as rfl rfl) rfl ?_
  refine go_nil ?_
  refine gq_next ?_
  refine gc_seq ?_
  refine gc_region ?_
  refine ne (eo_loadA 0 rfl a24 rfl rfl rfl rfl) rfl ?_
  refine nx (xo_freshT rfl en21 rfl (fun W1 hO => regions_x _ _ _ _ _ _ _ _ W1 (tabs_rd hO 1 rfl) (by omega))) rfl ?_
  rintro _ _ ⟨S48, ⟨A48, k48, rfl, hk48, hS48⟩, rfl⟩
  refine ne (eo_mv rfl rfl) rfl ?_
  refine ne (eo_extract rfl rfl rfl) rfl ?_
  refine ne (eo_extract rfl rfl rfl) rfl ?_
  refine ne (eo_as rfl rfl) rfl ?_
  refine ne (eo_as rfl rfl) rfl ?_
  refine go_nil ?_
  refine gq_next ?_
  refine gc_seq ?_
  refine gc_seq ?_
  refine gc_weak (L' := [(1, .pointer (some ⟨g1, 0, none⟩)), (2, .int .i64 ((smR ⟨7, 1, 7, (litF false [true, false, false, true, false, true, true])⟩ 1).2)), (4, .slice A31 ((cutR ⟨6, 4, 24, upd (upd (upd (fun _ => false) (0) true) (5) true) (23) true⟩ 3 2).1.length) k31), (5, .int .i64 ((cutR ⟨6, 4, 24, upd (upd (upd (fun _ => false) (0) true) (5) true) (23) true⟩ 3 2).2)), (6, .slice A37 ((gapR ⟨6, 4, 24, upd (upd (upd (fun _ => false) (0) true) (5) true) (23) true⟩ ⟨0, 0, 6, 4⟩ true).1.length) k37), (7, .int .i64 ((gapR ⟨6, 4, 24, upd (upd (upd (fun _ => false) (0) true) (5) true) (23) true⟩ ⟨0, 0, 6, 4⟩ true).2)), (8, .int .i64 ((clsR ⟨6, 4, 24, upd (upd (upd (fun _ => false) (0) true) (5) true) (23) true⟩ ⟨0, 0, 6, 4⟩).1)), (9, .int .i64 ((clsR ⟨6, 4, 24, upd (upd (upd (fun _ => false) (0) true) (5) true) (23) true⟩ ⟨0, 0, 6, 4⟩).2)), (10, .slice A48 ((cutR ⟨6, 4, 24, upd (upd (upd (fun _ => false) (0) true) (5) true) (23) true⟩ 3 2).1.length) k48), (11, .int .i64 ((cutR ⟨6, 4, 24, upd (upd (upd (fun _ => false) (0) true) (5) true) (23) true⟩ 3 2).2))]) (H' := ⟨g3, 24, [.int .i64 6, .int .i64 4, .slice (some ⟨g18, 0, none⟩) 24 24]⟩ :: ⟨g18, 4, tab 24 (bv (upd (upd (upd (fun _ => false) (0) true) (5) true) (23) true)) ++ []⟩ :: ⟨g1, 24, [.int .i64 ((smR ⟨7, 1, 7, (litF false [true, false, false, true, false, true, true])⟩ 1).1.W), .int .i64 ((smR ⟨7, 1, 7, (litF false [true, false, false, true, false, true, true])⟩ 1).1.H), .slice A15 ((smR ⟨7, 1, 7, (litF false [true, false, false, true, false, true, true])⟩ 1).1.n) k15]⟩ :: ⟨g13, 4, tab 7 (bv (litF false [true, false, false, true, false, true, true])) ++ []⟩ :: (((S15 ++ S31) ++ S37) ++ S48)) ⟨rfl, rfl, rfl, rfl, rfl, rfl, rfl, rfl, rfl, rfl, trivial⟩ (List.Sublist.refl _) ?_
  have q2 : (smR ⟨7, 1, 7, (litF false [true, false, false, true, false, true, true])⟩ 1).2 = 0 := by kernel_rfl
  have q5 : (cutR ⟨6, 4, 24, upd (upd (upd (fun _ => false) (0) true) (5) true) (23) true⟩ 3 2).2 = 0 := by kernel_rfl
  have q7 : (gapR ⟨6, 4, 24, upd (upd (upd (fun _ => false) (0) true) (5) true) (23) true⟩ ⟨0, 0, 6, 4⟩ true).2 = 0 := by kernel_rfl
  have q9 : (clsR ⟨6, 4, 24, upd (upd (upd (fun _ => false) (0) true) (5) true) (23) true⟩ ⟨0, 0, 6, 4⟩).2 = 0 := by kernel_rfl
  have q11 : (cutR ⟨6, 4, 24, upd (upd (upd (fun _ => false) (0) true) (5) true) (23) true⟩ 3 2).2 = 0 := by kernel_rfl
  have z6 : (gapR ⟨6, 4, 24, upd (upd (upd (fun _ => false) (0) true) (5) true) (23) true⟩ ⟨0, 0, 6, 4⟩ true).1.length = 1 := by kernel_rfl
  have z10 : (cutR ⟨6, 4, 24, upd (upd (upd (fun _ => false) (0) true) (5) true) (23) true⟩ 3 2).1.length = 3 := by kernel_rfl
  refine gc_region ?_
  refine ne (eo_mv rfl rfl) rfl ?_
  refine ne (eo_neq rfl rfl rfl) rfl ?_
  refine ne (eo_mv rfl rfl) rfl ?_
  refine ng rfl rfl (fun h => eo_mv rfl rfl) rfl ?_
  refine ng rfl rfl (fun h => eo_neq rfl (ev_if h rfl) rfl) rfl ?_
  refine ne (eo_or rfl rfl (fun hb => ev_if hb rfl)) rfl ?_
  refine ne (eo_mv rfl rfl) rfl ?_
  refine ng rfl rfl (fun h => eo_mv rfl rfl) rfl ?_
  refine ng rfl rfl (fun h => eo_neq rfl (ev_if h rfl) rfl) rfl ?_
  refine ne (eo_or rfl rfl (fun hb => ev_if hb rfl)) rfl ?_
  refine ne (eo_mv rfl rfl) rfl ?_
  refine ng rfl rfl (fun h => eo_mv rfl rfl) rfl ?_
  refine ng rfl rfl (fun h => eo_neq rfl (ev_if h rfl) rfl) rfl ?_
  refine ne (eo_or rfl rfl (fun hb => ev_if hb rfl)) rfl ?_
  refine ne (eo_mv rfl rfl) rfl ?_
  refine ng rfl rfl (fun h => eo_mv rfl rfl) rfl ?_
  refine ng rfl rfl (fun h => eo_neq rfl (ev_if h rfl) rfl) rfl ?_
  refine ne (eo_or rfl rfl (fun hb => ev_if hb rfl)) rfl ?_
  refine ne (eo_mv rfl rfl) rfl ?_
  refine ng rfl rfl (fun h => eo_mv rfl rfl) rfl ?_
  refine ng rfl rfl (fun h => eo_len rfl Try.underlying34 (ev_if h rfl)) rfl ?_
  refine ng rfl rfl (fun h => eo_neq rfl (ev_if h rfl) rfl) rfl ?_
  refine ne (eo_or rfl rfl (fun hb => ev_if hb rfl)) rfl ?_
  refine ne (eo_mv rfl rfl) rfl ?_
  refine ng rfl rfl (fun h => eo_mv rfl rfl) rfl ?_
  refine ng rfl rfl (fun h => eo_len rfl Try.underlying49 (ev_if h rfl)) rfl ?_
  refine ng rfl rfl (fun h => eo_neq rfl (ev_if h rfl) rfl) rfl ?_
  refine ne (eo_or rfl rfl (fun hb => ev_if hb rfl)) rfl ?_
  refine go_nil ?_
  refine gq_next ?_
  refine gc_cond rfl (fun hc0 => ?_) (fun hc0 => ?_)
  ·
    have hd0 := (or_t hc0).imp (fun h => (or_t h).imp (fun h => (or_t h).imp (fun h => (or_t h).imp (fun h => (or_t h).imp (fun h => (or_t h).imp (fun h => of_decide_eq_true h) (fun h => of_decide_eq_true h)) (fun h => of_decide_eq_true h)) (fun h => of_decide_eq_true h)) (fun h => of_decide_eq_true h)) (fun h => of_decide_eq_true h)) (fun h => of_decide_eq_true h)
    exfalso; omega
  ·
    have hd0 := (or_f hc0).imp (fun h => (or_f h).imp (fun h => (or_f h).imp (fun h => (or_f h).imp (fun h => (or_f h).imp (fun h => (or_f h).imp (fun h => ne_f h) (fun h => ne_f h)) (fun h => ne_f h)) (fun h => ne_f h)) (fun h => ne_f h)) (fun h => ne_f h)) (fun h => ne_f h)
    refine gc_skip ?_
    refine gq_next ?_
    refine gc_seq ?_
    refine gc_region ?_
    refine ne (eo_loadA 2 rfl a24 rfl rfl rfl rfl) rfl ?_
    refine nx (xo_lit rfl rfl lit22_e9ce4cfc) rfl ?_
    rintro _ _ ⟨g80, rfl, rfl⟩
    refine ne (eo_build rfl rfl (b24_012 _ _ _ _ _)) rfl ?_
    refine ne (eo_call rfl en14 rfl (fun W1 hO => calls_bool (b' := true) (by kernel_rfl) (same20_c _ _ _ _ _ _ _ _ _ _ _ _ W1 (hS15.rd (hO.tl 5 rfl (((List.sublist_append_left _ _).trans (List.sublist_append_left _ _)).trans (List.sublist_append_left _ _)))) (tabs_rd hO 0 rfl) (Nat.le_trans smR_le (by decide))))) rfl ?_
    refine ne (eo_mv rfl rfl) rfl ?_
    refine ng rfl rfl (fun h => eo_mv rfl rfl) rfl ?_
    refine ng rfl rfl (fun h => eo_build rfl rfl (b32_23 _ _)) rfl ?_
    refine ng rfl rfl (fun h => eo_build rfl rfl (b32_023 _ _ _)) rfl ?_
    refine ng rfl rfl (fun h => eo_build rfl rfl (b32_0123 _ _ _ _)) rfl ?_
    refine nxg rfl rfl (xo_lit rfl rfl litboxes) rfl ?_
    rintro _ _ ⟨g88, rfl, rfl⟩
    refine ng rfl rfl (fun h => eo_call rfl en23 (evs_cons (ev_if h rfl) (evs_cons rfl evs_nil)) (fun W1 hO => calls_bool (b' := true) (by kernel_rfl) (boxes_c _ _ _ _ _ _ _ _ W1 (hS31.rd (hO.tl 6 rfl (((List.sublist_append_right _ _).trans (List.sublist_append_left _ _)).trans (List.sublist_append_left _ _)))) (tabs_rd hO 0 rfl) (by omega)))) rfl ?_
    refine ne (eo_and rfl rfl (fun hb => ev_if hb rfl)) rfl ?_
    refine ne (eo_mv rfl rfl) rfl ?_
    refine go_weak (L' := [(6, .slice A37 ((gapR ⟨6, 4, 24, upd (upd (upd (fun _ => false) (0) true) (5) true) (23) true⟩ ⟨0, 0, 6, 4⟩ true).1.length) k37), (8, .int .i64 ((clsR ⟨6, 4, 24, upd (upd (upd (fun _ => false) (0) true) (5) true) (23) true⟩ ⟨0, 0, 6, 4⟩).1)), (10, .slice A48 ((cutR ⟨6, 4, 24, upd (upd (upd (fun _ => false) (0) true) (5) true) (23) true⟩ 3 2).1.length) k48), (91, .bool true)]) (H' := ⟨g88, 32, tab 12 (iv .i64 (litF 0 [0, 0, 1, 1, 5, 0, 1, 1, 5, 3, 1, 1])) ++ []⟩ :: ⟨g80, 4, tab 7 (bv (litF false [true, false, false, true, true, true, true])) ++ []⟩ :: ⟨g3, 24, [.int .i64 6, .int .i64 4, .slice (some ⟨g18, 0, none⟩) 24 24]⟩ :: ⟨g18, 4, tab 24 (bv (upd (upd (upd (fun _ => false) (0) true) (5) true) (23) true)) ++ []⟩ :: ⟨g1, 24, [.int .i64 ((smR ⟨7, 1, 7, (litF false [true, false, false, true, false, true, true])⟩ 1).1.W), .int .i64 ((smR ⟨7, 1, 7, (litF false [true, false, false, true, false, true, true])⟩ 1).1.H), .slice A15 ((smR ⟨7, 1, 7, (litF false [true, false, false, true, false, true, true])⟩ 1).1.n) k15]⟩ :: ⟨g13, 4, tab 7 (bv (litF false [true, false, false, true, false, true, true])) ++ []⟩ :: (((S15 ++ S31) ++ S37) ++ S48)) ⟨rfl, rfl, rfl, (look_bool rfl (by kernel_rfl)), trivial⟩ (List.Sublist.refl _) ?_
    refine ng rfl rfl (fun h => eo_mv rfl rfl) rfl ?_
    refine ng rfl rfl (fun h => eo_indexNS rfl sl34 (ev_if h rfl) rfl (fun W1 hO => (hS37.rd (hO.tl 6 rfl ((List.sublist_append_right _ _).trans (List.sublist_append_left _ _))))) (by omega) (by omega) (by omega)) rfl ?_
    refine ng rfl rfl (fun h => eo_loadNA rfl a38 (ev_if h rfl) (fun W1 hO => (hS37.rd (hO.tl 6 rfl ((List.sublist_append_right _ _).trans (List.sublist_append_left _ _))))) (by omega)) rfl ?_
    refine ng rfl rfl (fun h => eo_build rfl rfl (b38_01 _ _)) rfl ?_
    refine ng rfl rfl (fun h => eo_eqA rfl (ev_if h rfl) (ev_if h rfl) st38 (eq38 _ _ _ _)) rfl ?_
    refine ne (eo_and rfl rfl (fun hb => ev_if hb rfl)) rfl ?_
    refine ne (eo_mv rfl rfl) rfl ?_
    refine go_weak (L' := [(8, .int .i64 ((clsR ⟨6, 4, 24, upd (upd (upd (fun _ => false) (0) true) (5) true) (23) true⟩ ⟨0, 0, 6, 4⟩).1)), (10, .slice A48 ((cutR ⟨6, 4, 24, upd (upd (upd (fun _ => false) (0) true) (5) true) (23) true⟩ 3 2).1.length) k48), (98, .bool true)]) (H' := ⟨g88, 32, tab 12 (iv .i64 (litF 0 [0, 0, 1, 1, 5, 0, 1, 1, 5, 3, 1, 1])) ++ []⟩ :: ⟨g80, 4, tab 7 (bv (litF false [true, false, false, true, true, true, true])) ++ []⟩ :: ⟨g3, 24, [.int .i64 6, .int .i64 4, .slice (some ⟨g18, 0, none⟩) 24 24]⟩ :: ⟨g18, 4, tab 24 (bv (upd (upd (upd (fun _ => false) (0) true) (5) true) (23) true)) ++ []⟩ :: ⟨g1, 24, [.int .i64 ((smR ⟨7, 1, 7, (litF false [true, false, false, true, false, true, true])⟩ 1).1.W), .int .i64 ((smR ⟨7, 1, 7, (litF false [true, false, false, true, false, true, true])⟩ 1).1.H), .slice A15 ((smR ⟨7, 1, 7, (litF false [true, false, false, true, false, true, true])⟩ 1).1.n) k15]⟩ :: ⟨g13, 4, tab 7 (bv (litF false [true, false, false, true, false, true, true])) ++ []⟩ :: (((S15 ++ S31) ++ S37) ++ S48)) ⟨rfl, rfl, (look_bool rfl (by kernel_rfl)), trivial⟩ (List.Sublist.refl _) ?_
    refine ng rfl rfl (fun h => eo_mv rfl rfl) rfl ?_
    refine ng rfl rfl (fun h => eo_eql rfl (ev_if h rfl) rfl) rfl ?_
    refine ne (eo_and rfl rfl (fun hb => ev_if hb rfl)) rfl ?_
    refine ne (eo_mv rfl rfl) rfl ?_
    refine go_weak (L' := [(10, .slice A48 ((cutR ⟨6, 4, 24, upd (upd (upd (fun _ => false) (0) true) (5) true) (23) true⟩ 3 2).1.length) k48), (102, .bool true)]) (H' := ⟨g88, 32, tab 12 (iv .i64 (litF 0 [0, 0, 1, 1, 5, 0, 1, 1, 5, 3, 1, 1])) ++ []⟩ :: ⟨g80, 4, tab 7 (bv (litF false [true, false, false, true, true, true, true])) ++ []⟩ :: ⟨g3, 24, [.int .i64 6, .int .i64 4, .slice (some ⟨g18, 0, none⟩) 24 24]⟩ :: ⟨g18, 4, tab 24 (bv (upd (upd (upd (fun _ => false) (0) true) (5) true) (23) true)) ++ []⟩ :: ⟨g1, 24, [.int .i64 ((smR ⟨7, 1, 7, (litF false [true, false, false, true, false, true, true])⟩ 1).1.W), .int .i64 ((smR ⟨7, 1, 7, (litF false [true, false, false, true, false, true, true])⟩ 1).1.H), .slice A15 ((smR ⟨7, 1, 7, (litF false [true, false, false, true, false, true, true])⟩ 1).1.n) k15]⟩ :: ⟨g13, 4, tab 7 (bv (litF false [true, false, false, true, false, true, true])) ++ []⟩ :: (((S15 ++ S31) ++ S37) ++ S48)) ⟨rfl, (look_bool rfl (by kernel_rfl)), trivial⟩ (List.Sublist.refl _) ?_
    refine ng rfl rfl (fun h => eo_mv rfl rfl) rfl ?_
    refine ng rfl rfl (fun h => eo_indexNS rfl sl49 (ev_if h rfl) rfl (fun W1 hO => (hS48.rd (hO.tl 6 rfl (List.sublist_append_right _ _)))) (by omega) (by omega) (by omega)) rfl ?_
    refine ng rfl rfl (fun h => eo_field rfl f54_0 (ev_if h rfl)) rfl ?_
    refine ng rfl rfl (fun h => eo_loadNS rfl s44 (ev_if h rfl) (fun W1 hO => (hS48.rd (hO.tl 6 rfl (List.sublist_append_right _ _)))) (by omega)) rfl ?_
    refine ng rfl rfl (fun h => eo_eql rfl (ev_if h rfl) rfl) rfl ?_
    refine ne (eo_and rfl rfl (fun hb => ev_if hb rfl)) rfl ?_
    refine ne (eo_as rfl rfl) rfl ?_
    refine go_nil ?_
    refine gq_next ?_
    refine gc_ret ?_
    refine gq_results (res1 rfl rfl) ?_
    exact fun W1 hO => ⟨ret_bool (show (true && decide (((rgG (clsI (upd (upd (upd (fun _ => false) (0) true) (5) true) (23) true) 6) (cutR ⟨6, 4, 24, upd (upd (upd (fun _ => false) (0) true) (5) true) (23) true⟩ 3 2).1) (0 * 5 + 0)) = 5)) = true from by kernel_rfl), hO.toExt⟩

end Go.Proofs.Ytnmiljloifbjeaa
