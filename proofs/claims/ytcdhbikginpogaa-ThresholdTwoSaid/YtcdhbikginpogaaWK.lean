/-
  The walks of the functions of packages bigint and threshold and of the document's answers (part K): what each call returns, at every argument.
-/
import Derived.Test.YtcdhbikginpogaaWJ
namespace Go.Proofs.Ytcdhbikginpogaa
open Go.RowKit Go.Eng

open Go.Bs
theorem lit22_eae796af (W : World) : (Instr.buildSlice 22 3 #[(0, .int .u8 10), (1, .int .u8 20), (2, .int .u8 200)]).run Try.prog W = .ok (.slice (some ⟨W.heap.size, 0, none⟩) 3 3) (W.alloc (.cells (tab 3 (iv .u8 (litF 0 [10, 20, 200])) ++ []).toArray 5)) := by kernel_rfl
theorem b24_012 (x0 : Int) (x1 : Int) (x2A : Option Addr) (x2n x2c : Nat) (W : World) : (Instr.build 24 #[(0, .int .i64 x0), (1, .int .i64 x1), (2, .slice x2A x2n x2c)]).run Try.prog W = .ok (.agg #[.int .i64 x0, .int .i64 x1, .slice x2A x2n x2c]) W := by kernel_rfl
theorem z24 : TyZ Try.prog 24 [.int .i64 0, .int .i64 0, .slice none 0 0] := .inl (by kernel_rfl)
theorem en17 : Ent Try.prog 17 := ent_of Try.func17 (by kernel_rfl) rfl
theorem lit22_04cd0e01 (W : World) : (Instr.buildSlice 22 2 #[(0, .int .u8 1), (1, .int .u8 2)]).run Try.prog W = .ok (.slice (some ⟨W.heap.size, 0, none⟩) 2 2) (W.alloc (.cells (tab 2 (iv .u8 (litF 0 [1, 2])) ++ []).toArray 5)) := by kernel_rfl
theorem en22 : Ent Try.prog 22 := ent_of Try.func22 (by kernel_rfl) rfl
theorem lit33_ce96bbb6 (W : World) : (Instr.buildSlice 33 3 #[(0, .bool true), (1, .bool true), (2, .bool false)]).run Try.prog W = .ok (.slice (some ⟨W.heap.size, 0, none⟩) 3 3) (W.alloc (.cells (tab 3 (bv (litF false [true, true, false])) ++ []).toArray 4)) := by kernel_rfl
theorem en19 : Ent Try.prog 19 := ent_of Try.func19 (by kernel_rfl) rfl
theorem lit41_f2476617 (W : World) : (Instr.buildSlice 41 6 #[(0, .int .i64 0), (1, .int .i64 0), (2, .int .i64 0), (3, .int .i64 0), (4, .int .i64 1), (5, .int .i64 3)]).run Try.prog W = .ok (.slice (some ⟨W.heap.size, 0, none⟩) 6 6) (W.alloc (.cells (tab 6 (iv .i64 (litF 0 [0, 0, 0, 0, 1, 3])) ++ []).toArray 3)) := by kernel_rfl
theorem en24 : Ent Try.prog 24 := ent_of Try.func24 (by kernel_rfl) rfl

set_option maxRecDepth 100000 in
/-- barscan/barscanlaw36.alive -/
theorem alive36_c  (w : World)   :
    Calls Try.prog 10 #[] w (fun e w' => e = .returned (.bool true) ∧ Ext w w') := by
  have hp : PixOk 3 (litF 0 [10, 20, 200]) := fun i hi => by rcases (show i = 0 ∨ i = 1 ∨ i = 2 by omega) with rfl | rfl | rfl <;> decide
  have hp2 : PixOk 2 (litF 0 [1, 2]) := fun i hi => by rcases (show i = 0 ∨ i = 1 by omega) with rfl | rfl <;> decide
  have y0 : (otsR ⟨3, 1, 3, (litF 0 [10, 20, 200])⟩).1 = 21 := by kernel_rfl
  have y1 : (otsR ⟨3, 1, 3, (litF 0 [10, 20, 200])⟩).2 = 0 := by kernel_rfl
  have y2 : (autR ⟨3, 1, 3, (litF 0 [10, 20, 200])⟩).2 = 0 := by kernel_rfl
  have y3 : eqP (autR ⟨3, 1, 3, (litF 0 [10, 20, 200])⟩).1 ⟨3, 1, 3, (litF false [true, true, false])⟩ = true := by kernel_rfl
  have y4 : (intR ⟨2, 1, 2, (litF 0 [1, 2])⟩).2 = 0 := by kernel_rfl
  have y5 : eqS (intR ⟨2, 1, 2, (litF 0 [1, 2])⟩).1.1 (intR ⟨2, 1, 2, (litF 0 [1, 2])⟩).1.2 6 (litF 0 [0, 0, 0, 0, 1, 3]) = true := by kernel_rfl
  have y6 : (hisR ⟨3, 1, 3, (litF 0 [10, 20, 200])⟩).2 = 0 := by kernel_rfl
  have y7 : (hisR ⟨3, 1, 3, (litF 0 [10, 20, 200])⟩).1 (0 + (10 : Int).toNat * 1) = 1 := by kernel_rfl
  have y8 : (hisR ⟨3, 1, 3, (litF 0 [10, 20, 200])⟩).1 (0 + (11 : Int).toNat * 1) = 0 := by kernel_rfl
  have y9 : (locR ⟨3, 1, 3, (litF 0 [10, 20, 200])⟩ 1 100).2 = 0 := by kernel_rfl
  have y10 : eqS (locR ⟨3, 1, 3, (litF 0 [10, 20, 200])⟩ 1 100).1.n (locR ⟨3, 1, 3, (litF 0 [10, 20, 200])⟩ 1 100).1.f 3 (litF false [true, true, false]) = true := by kernel_rfl
  refine calls_enter (N := ⟨87, []⟩) [] ([]) Try.func10 rfl rfl rfl (Ow.start _) ?_
  refine gc_seq ?_
  refine gc_region ?_
  refine ne (eo_as rfl rfl) rfl ?_
  refine go_nil ?_
  refine gq_next ?_
  refine gc_seq ?_
  refine gc_region ?_
  refine nx (xo_lit rfl rfl lit22_eae796af) rfl ?_
  rintro _ _ ⟨g12, rfl, rfl⟩
  refine ne (eo_build rfl rfl (b24_012 _ _ _ _ _)) rfl ?_
  refine nx (xo_alloc rfl z24) rfl ?_
  rintro _ _ ⟨g1, rfl, rfl⟩
  refine nu (xo_storeA 0 rfl a24 rfl rfl (ones_cons (by first | rfl | exact AS.one) (ones_cons (by first | rfl | exact AS.one) (ones_cons (by first | rfl | exact AS.one) ones_nil))) rfl rfl rfl rfl) ?_
  rintro _ _ ⟨rfl, rfl⟩
  refine go_nil ?_
  refine gq_next ?_
  refine gc_seq ?_
  refine gc_region ?_
  refine ne (eo_loadA 0 rfl a24 rfl rfl rfl rfl) rfl ?_
  refine ne (eo_call rfl en13 rfl (fun W1 hO => otsu_c _ _ _ _ _ _ W1 (tabs_rd hO 1 rfl) (by assumption) (by omega))) rfl ?_
  refine ne (eo_mv rfl rfl) rfl ?_
  refine ne (eo_extract rfl rfl rfl) rfl ?_
  refine ne (eo_extract rfl rfl rfl) rfl ?_
  refine ne (eo_as rfl rfl) rfl ?_
  refine ne (eo_as rfl rfl) rfl ?_
  refine go_nil ?_
  refine gq_next ?_
  refine gc_seq ?_
  refine gc_region ?_
  refine ne (eo_loadA 0 rfl a24 rfl rfl rfl rfl) rfl ?_
  refine nx (xo_freshT rfl en17 rfl (fun W1 hO => auto_x _ _ _ _ _ _ W1 (tabs_rd hO 1 rfl) (by assumption) (by omega))) rfl ?_
  rintro _ _ ⟨S21, ⟨A21, k21, rfl, hk21, hS21⟩, rfl⟩
  refine ne (eo_mv rfl rfl) rfl ?_
  refine ne (eo_extract rfl rfl rfl) rfl ?_
  refine ne (eo_extract rfl rfl rfl) rfl ?_
  refine nx (xo_alloc rfl z35) rfl ?_
  rintro _ _ ⟨g4, rfl, rfl⟩
  refine nu (xo_storeA 0 rfl a35 rfl rfl (ones_cons (by first | rfl | exact AS.one) (ones_cons (by first | rfl | exact AS.one) (ones_cons (by first | rfl | exact AS.one) ones_nil))) rfl rfl rfl rfl) ?_
  rintro _ _ ⟨rfl, rfl⟩
  refine ne (eo_as rfl rfl) rfl ?_
  refine go_nil ?_
  refine gq_next ?_
  refine gc_seq ?_
  refine gc_region ?_
  refine nx (xo_lit rfl rfl lit22_04cd0e01) rfl ?_
  rintro _ _ ⟨g25, rfl, rfl⟩
  refine ne (eo_build rfl rfl (b24_012 _ _ _ _ _)) rfl ?_
  refine nx (xo_freshT rfl en20 rfl (fun W1 hO => int_x _ _ _ _ _ _ W1 (tabs_rd hO 0 rfl) (by assumption))) rfl ?_
  rintro _ _ ⟨S27, ⟨A27, k27, rfl, hk27, hS27⟩, rfl⟩
  refine ne (eo_mv rfl rfl) rfl ?_
  refine ne (eo_extract rfl rfl rfl) rfl ?_
  refine ne (eo_extract rfl rfl rfl) rfl ?_
  refine ne (eo_as rfl rfl) rfl ?_
  refine ne (eo_as rfl rfl) rfl ?_
  refine go_nil ?_
  refine gq_next ?_
  refine gc_seq ?_
  refine gc_region ?_
  refine ne (eo_loadA 2 rfl a24 rfl rfl rfl rfl) rfl ?_
  refine ne (eo_call rfl en11 rfl (fun W1 hO => hist_c _ _ _ _ _ _ W1 (tabs_rd hO 3 rfl) (by assumption) (by omega))) rfl ?_
  refine ne (eo_mv rfl rfl) rfl ?_
  refine ne (eo_extract rfl rfl rfl) rfl ?_
  refine ne (eo_extract rfl rfl rfl) rfl ?_
  refine nx (xo_alloc rfl z27) rfl ?_
  rintro _ _ ⟨g8, rfl, rfl⟩
  refine nu (xo_storeA 0 rfl a27 rfl rfl tab_onei0 (by simp) rfl rfl (by simp)) ?_
  rintro _ _ ⟨rfl, rfl⟩
  refine ne (eo_as rfl rfl) rfl ?_
  refine go_nil ?_
  refine gq_next ?_
  refine gc_seq ?_
  refine gc_region ?_
  refine ne (eo_loadA 3 rfl a24 rfl rfl rfl rfl) rfl ?_
  refine nx (xo_freshT rfl en22 rfl (fun W1 hO => loc_x _ _ _ _ _ _ _ _ W1 (tabs_rd hO 4 rfl) (by assumption))) rfl ?_
  rintro _ _ ⟨S37, ⟨A37, k37, rfl, hk37, hS37⟩, rfl⟩
  refine ne (eo_mv rfl rfl) rfl ?_
  refine ne (eo_extract rfl rfl rfl) rfl ?_
  refine ne (eo_extract rfl rfl rfl) rfl ?_
  refine nx (xo_alloc rfl z35) rfl ?_
  rintro _ _ ⟨g10, rfl, rfl⟩
  refine nu (xo_storeA 0 rfl a35 rfl rfl (ones_cons (by first | rfl | exact AS.one) (ones_cons (by first | rfl | exact AS.one) (ones_cons (by first | rfl | exact AS.one) ones_nil))) rfl rfl rfl rfl) ?_
  rintro _ _ ⟨rfl, rfl⟩
  refine ne (eo_as rfl rfl) rfl ?_
  refine go_nil ?_
  refine gq_next ?_
  refine gc_seq ?_
  refine gc_seq ?_
  refine gc_region ?_
  refine ne (eo_mv rfl rfl) rfl ?_
  refine ne (eo_neq rfl rfl rfl) rfl ?_
  refine ne (eo_mv rfl rfl) rfl ?_
  refine ng rfl rfl (fun h => eo_mv rfl rfl) rfl ?_
  refine ng rfl rfl (fun h => eo_neq rfl (ev_if h rfl) rfl) rfl ?_
  refine ne (eo_or rfl rfl (fun hb => ev_if hb rfl)) rfl ?_
  refine ne (eo_mv rfl rfl) rfl ?_
  refine ng rfl rfl (fun h => eo_mv rfl rfl) rfl ?_
  refine ng rfl rfl (fun h => eo_neq rfl (ev_if h rfl) rfl) rfl ?_
  refine ne (eo_or rfl rfl (fun hb => ev_if hb rfl)) rfl ?_
  refine ne (eo_mv rfl rfl) rfl ?_
  refine ng rfl rfl (fun h => eo_mv rfl rfl) rfl ?_
  refine ng rfl rfl (fun h => eo_neq rfl (ev_if h rfl) rfl) rfl ?_
  refine ne (eo_or rfl rfl (fun hb => ev_if hb rfl)) rfl ?_
  refine ne (eo_mv rfl rfl) rfl ?_
  refine ng rfl rfl (fun h => eo_mv rfl rfl) rfl ?_
  refine ng rfl rfl (fun h => eo_neq rfl (ev_if h rfl) rfl) rfl ?_
  refine ne (eo_or rfl rfl (fun hb => ev_if hb rfl)) rfl ?_
  refine go_nil ?_
  refine gq_next ?_
  refine gc_cond rfl (fun hc0 => ?_) (fun hc0 => ?_)
  ·
    have hd0 := (or_t hc0).imp (fun h => (or_t h).imp (fun h => (or_t h).imp (fun h => (or_t h).imp (fun h => of_decide_eq_true h) (fun h => of_decide_eq_true h)) (fun h => of_decide_eq_true h)) (fun h => of_decide_eq_true h)) (fun h => of_decide_eq_true h)
    exfalso; omega
  ·
    have hd0 := (or_f hc0).imp (fun h => (or_f h).imp (fun h => (or_f h).imp (fun h => (or_f h).imp (fun h => ne_f h) (fun h => ne_f h)) (fun h => ne_f h)) (fun h => ne_f h)) (fun h => ne_f h)
    refine gc_skip ?_
    refine gq_next ?_
    refine gc_seq ?_
    refine gc_region ?_
    refine ne (eo_mv rfl rfl) rfl ?_
    refine ne (eo_eql rfl rfl rfl) rfl ?_
    refine ne (eo_mv rfl rfl) rfl ?_
    rw [show decide ((otsR ⟨3, 1, 3, (litF 0 [10, 20, 200])⟩).1 = 21) = true from by simp [y0]]
    refine ng rfl rfl (fun h => eo_loadA 3 rfl a35 rfl rfl rfl rfl) rfl ?_
    refine nxg rfl rfl (xo_lit rfl rfl lit33_ce96bbb6) rfl ?_
    rintro _ _ ⟨g62, rfl, rfl⟩
    refine ng rfl rfl (fun h => eo_build rfl rfl (b35_012 _ _ _ _ _)) rfl ?_
    refine ng rfl rfl (fun h => eo_call rfl en19 (evs_cons (ev_if h rfl) (evs_cons (ev_if h rfl) evs_nil)) (fun W1 hO => calls_bool (b' := true) y3 (same20_c _ _ _ _ _ _ _ _ _ _ _ _ W1 (hS21.rd (hO.tl 7 rfl ((List.sublist_append_left _ _).trans (List.sublist_append_left _ _)))) (tabs_rd hO 0 rfl) (Nat.le_trans autR_le (by decide))))) rfl ?_
    refine ne (eo_and rfl rfl (fun hb => ev_if hb rfl)) rfl ?_
    refine ne (eo_mv rfl rfl) rfl ?_
    rw [show (true && true) = true from by rfl]
    refine ng rfl rfl (fun h => eo_mv rfl rfl) rfl ?_
    refine nxg rfl rfl (xo_lit rfl rfl lit41_f2476617) rfl ?_
    rintro _ _ ⟨g68, rfl, rfl⟩
    refine ng rfl rfl (fun h => eo_call rfl en24 (evs_cons (ev_if h rfl) (evs_cons rfl evs_nil)) (fun W1 hO => rsamei_c _ _ _ _ _ _ _ _ W1 (hS27.rd (hO.tl 8 rfl ((List.sublist_append_right _ _).trans (List.sublist_append_left _ _)))) (tabs_rd hO 0 rfl) (Nat.le_trans intR_le (by decide)))) rfl ?_
    refine ne (eo_and rfl rfl (fun hb => ev_if hb rfl)) rfl ?_
    refine ne (eo_mv rfl rfl) rfl ?_
    rw [show (true && (eqS ((intR ⟨2, 1, 2, (litF 0 [1, 2])⟩).1.1) ((intR ⟨2, 1, 2, (litF 0 [1, 2])⟩).1.2) 6 (litF 0 [0, 0, 0, 0, 1, 3]))) = true from by simp [y5]]
    refine ng rfl rfl (fun h => eo_indexArr rfl Try.underlying27 sz3 rfl rfl (by omega) (by omega)) rfl ?_
    refine ng rfl rfl (fun h => eo_geti 3 rfl s3 (ev_if h rfl) rfl (by omega)) rfl ?_
    refine ng rfl rfl (fun h => eo_eql rfl (ev_if h rfl) rfl) rfl ?_
    refine ne (eo_and rfl rfl (fun hb => ev_if hb rfl)) rfl ?_
    refine ne (eo_mv rfl rfl) rfl ?_
    rw [show (true && decide ((hisR ⟨3, 1, 3, (litF 0 [10, 20, 200])⟩).1 (0 + (10 : Int).toNat * 1) = 1)) = true from by rw [y7]; rfl]
    refine ng rfl rfl (fun h => eo_indexArr rfl Try.underlying27 sz3 rfl rfl (by omega) (by omega)) rfl ?_
    refine ng rfl rfl (fun h => eo_geti 3 rfl s3 (ev_if h rfl) rfl (by omega)) rfl ?_
    refine ng rfl rfl (fun h => eo_eql rfl (ev_if h rfl) rfl) rfl ?_
    refine ne (eo_and rfl rfl (fun hb => ev_if hb rfl)) rfl ?_
    refine ne (eo_mv rfl rfl) rfl ?_
    rw [show (true && decide ((hisR ⟨3, 1, 3, (litF 0 [10, 20, 200])⟩).1 (0 + (11 : Int).toNat * 1) = 0)) = true from by rw [y8]; rfl]
    refine ng rfl rfl (fun h => eo_field rfl f35_2 rfl) rfl ?_
    refine ng rfl rfl (fun h => eo_load 2 rfl s33 (ev_if h rfl) rfl rfl rfl) rfl ?_
    refine nxg rfl rfl (xo_lit rfl rfl lit33_ce96bbb6) rfl ?_
    rintro _ _ ⟨g84, rfl, rfl⟩
    refine ng rfl rfl (fun h => eo_call rfl en27 (evs_cons (ev_if h rfl) (evs_cons rfl evs_nil)) (fun W1 hO => rsameb_c _ _ _ _ _ _ _ _ W1 (hS37.rd (hO.tl 9 rfl (List.sublist_append_right _ _))) (tabs_rd hO 0 rfl) (Nat.le_trans locR_le (by decide)))) rfl ?_
    refine ne (eo_and rfl rfl (fun hb => ev_if hb rfl)) rfl ?_
    refine ne (eo_as rfl rfl) rfl ?_
    refine go_nil ?_
    refine gq_next ?_
    refine gc_ret ?_
    refine gq_results (res1 rfl rfl) ?_
    exact fun W1 hO => ⟨ret_bool (show (true && (eqS ((locR ⟨3, 1, 3, (litF 0 [10, 20, 200])⟩ 1 100).1.n) ((locR ⟨3, 1, 3, (litF 0 [10, 20, 200])⟩ 1 100).1.f) 3 (litF false [true, true, false]))) = true from by simp [y10]), hO.toExt⟩

end Go.Proofs.Ytcdhbikginpogaa
