/-
  The walks of the functions of packages bigint and threshold and of the document's answers (part C): what each call returns, at every argument.
-/
import Derived.Test.YtcdhbikginpogaaWB
namespace Go.Proofs.Ytcdhbikginpogaa
open Go.RowKit Go.Eng

open Go.Bs
theorem e72 : TyE Try.prog 72 (.int .u32 0) 4 := ⟨rfl, by kernel_rfl⟩
theorem z54 : TyZ Try.prog 54 [.bool false, .slice none 0 0] := .inl (by kernel_rfl)
theorem b54_  (W : World) : (Instr.build 54 #[]).run Try.prog W = .ok (.agg #[.bool false, .slice none 0 0]) W := by kernel_rfl
theorem a54 : TyA Try.prog 54 2 := ⟨⟨_, Try.underlying54, rfl⟩, by kernel_rfl⟩
theorem b54_01 (x0 : Bool) (x1A : Option Addr) (x1n x1c : Nat) (W : World) : (Instr.build 54 #[(0, .bool x0), (1, .slice x1A x1n x1c)]).run Try.prog W = .ok (.agg #[.bool x0, .slice x1A x1n x1c]) W := by kernel_rfl
theorem en39 : Ent Try.prog 39 := ent_of Try.func39 (by kernel_rfl) rfl
theorem f54_1 : FieldAt Try.prog 54 1 1 := ⟨_, _, 0, Try.underlying54, rfl, by kernel_rfl, rfl⟩
theorem s52 : TyS Try.prog 52 := ⟨⟨_, Try.underlying52, rfl⟩, by kernel_rfl⟩
theorem f54_0 : FieldAt Try.prog 54 0 0 := ⟨_, _, 0, Try.underlying54, rfl, by kernel_rfl, rfl⟩
theorem s4 : TyS Try.prog 4 := ⟨⟨_, Try.underlying4, rfl⟩, by kernel_rfl⟩
theorem en40 : Ent Try.prog 40 := ent_of Try.func40 (by kernel_rfl) rfl
theorem en41 : Ent Try.prog 41 := ent_of Try.func41 (by kernel_rfl) rfl
theorem en44 : Ent Try.prog 44 := ent_of Try.func44 (by kernel_rfl) rfl
theorem en43 : Ent Try.prog 43 := ent_of Try.func43 (by kernel_rfl) rfl
theorem en42 : Ent Try.prog 42 := ent_of Try.func42 (by kernel_rfl) rfl

/-- barscan/bigint.multiply -/
theorem mult_x (x y : Int) (p : NS) (q : NS) (w : World) (hrp : Rd w p.A (tab p.m (iv .u32 p.f))) (hrq : Rd w q.A (tab q.m (iv .u32 q.f))) (hx : Nm x p.m p.f) (hy : Nm y q.m q.f) (h1 : p.m ≤ 512) (h2 : q.m ≤ 512) :
    Calls Try.prog 43 #[.slice p.A p.m p.c, .slice q.A q.m q.c] w (fun e w' => ∃ v Hn, e = .returned v ∧ RN (x * y) v Hn ∧ Ow [] w w' Hn) := by
  refine calls_enter (N := ⟨69, []⟩) [] ([]) Try.func43 rfl rfl rfl (Ow.start _) ?_
  refine gc_seq ?_
  refine gc_region ?_
  refine ne (eo_as rfl rfl) rfl ?_
  refine go_nil ?_
  refine gq_next ?_
  refine gc_seq ?_
  refine gc_region ?_
  refine ne (eo_mv rfl rfl) rfl ?_
  refine ne (eo_len rfl Try.underlying52 rfl) rfl ?_
  refine ne (eo_mv rfl rfl) rfl ?_
  refine ne (eo_len rfl Try.underlying52 rfl) rfl ?_
  refine ne (eo_add rfl rfl rfl (by omega) (by omega)) rfl ?_
  refine nx (xo_makei rfl Try.underlying52 e72 rfl rfl (by omega) (by omega) (by omega)) rfl ?_
  rintro _ _ ⟨g17, rfl, rfl⟩
  refine ne (eo_as rfl rfl) rfl ?_
  refine go_nil ?_
  refine gq_next ?_
  refine gc_seq ?_
  refine gc_seq ?_
  refine gc_region ?_
  refine ne (eo_mv rfl rfl) rfl ?_
  refine ne (eo_len rfl Try.underlying52 rfl) rfl ?_
  refine ne (eo_mv rfl rfl) rfl ?_
  refine go_nil ?_
  refine gq_next ?_
  refine gc_block ?_
  refine loop2 (fun (i : Nat) (f1 : Nat → Int) => i ≤ p.m ∧ Mo p.f p.m q.f q.m i f1) (fun (i : Nat) (f1 : Nat → Int) => p.m - i) (fun (i : Nat) (f1 : Nat → Int) => [(1, .slice q.A q.m q.c), (5, .slice (some ⟨g17, 0, none⟩) (((((p.m : Nat) : Int) + ((q.m : Nat) : Int))).toNat) (((((p.m : Nat) : Int) + ((q.m : Nat) : Int))).toNat)), (18, .slice p.A p.m p.c), (19, .int .i64 ((p.m : Nat) : Int)), (20, .int .i64 (i : Int))]) (fun (i : Nat) (f1 : Nat → Int) => [⟨g17, 72, tab (((((p.m : Nat) : Int) + ((q.m : Nat) : Int))).toNat) (iv .u32 f1) ++ []⟩]) 0 (fun _ => 0) ⟨by omega, mo_new⟩ ⟨rfl, rfl, rfl, rfl, rfl, trivial⟩ (List.Sublist.refl _) ?_
  rintro i f1 ⟨hi, hI⟩
  refine gc_seq ?_
  refine gc_region ?_
  refine ne (eo_lss rfl rfl rfl) rfl ?_
  refine go_nil ?_
  refine gq_next ?_
  refine gc_seq ?_
  refine gc_cond rfl (fun hc0 => ?_) (fun hc0 => ?_)
  ·
    replace hc0 := of_decide_eq_true hc0
    refine gc_skip ?_
    refine gq_next ?_
    refine gc_seq ?_
    refine gc_block ?_
    refine gc_seq ?_
    refine gc_region ?_
    refine ne (eo_mv rfl rfl) rfl ?_
    refine ne (eo_indexR rfl sl52 rfl rfl hrp (by simp) (by omega) (by omega)) rfl ?_
    refine ne (eo_load_old rfl s72 rfl (Rd.tabi hrp (by omega)) (by simp)) rfl ?_
    refine ne (eo_as rfl rfl) rfl ?_
    refine ne (eo_as rfl rfl) rfl ?_
    refine go_nil ?_
    refine gq_next ?_
    refine gc_seq ?_
    refine gc_region ?_
    refine ne (eo_as rfl rfl) rfl ?_
    refine go_nil ?_
    refine gq_next ?_
    refine gc_seq ?_
    refine gc_seq ?_
    refine gc_region ?_
    refine ne (eo_mv rfl rfl) rfl ?_
    refine ne (eo_len rfl Try.underlying52 rfl) rfl ?_
    refine ne (eo_mv rfl rfl) rfl ?_
    refine go_nil ?_
    refine gq_next ?_
    refine gc_block ?_
    refine loop3 (fun (j : Nat) (cy : Int) (f1 : Nat → Int) => j ≤ q.m ∧ Mi p.f p.m q.f q.m i j cy f1) (fun (j : Nat) (cy : Int) (f1 : Nat → Int) => q.m - j) (fun (j : Nat) (cy : Int) (f1 : Nat → Int) => [(1, .slice q.A q.m q.c), (5, .slice (some ⟨g17, 0, none⟩) (((((p.m : Nat) : Int) + ((q.m : Nat) : Int))).toNat) (((((p.m : Nat) : Int) + ((q.m : Nat) : Int))).toNat)), (6, .int .i64 (i : Int)), (7, .int .u32 (p.f (i))), (8, .int .u32 cy), (18, .slice p.A p.m p.c), (19, .int .i64 ((p.m : Nat) : Int)), (20, .int .i64 (i : Int)), (25, .slice q.A q.m q.c), (26, .int .i64 ((q.m : Nat) : Int)), (27, .int .i64 (j : Int))]) (fun (j : Nat) (cy : Int) (f1 : Nat → Int) => [⟨g17, 72, tab (((((p.m : Nat) : Int) + ((q.m : Nat) : Int))).toNat) (iv .u32 f1) ++ []⟩]) 0 0 f1 ⟨by omega, mi_new hI⟩ ⟨rfl, rfl, rfl, rfl, rfl, rfl, rfl, rfl, rfl, rfl, rfl, trivial⟩ (List.Sublist.refl _) ?_
    rintro j cy f1 ⟨hj, hI⟩
    refine gc_seq ?_
    refine gc_region ?_
    refine ne (eo_lss rfl rfl rfl) rfl ?_
    refine go_nil ?_
    refine gq_next ?_
    refine gc_seq ?_
    refine gc_cond rfl (fun hc1 => ?_) (fun hc1 => ?_)
    ·
      replace hc1 := of_decide_eq_true hc1
      have hxb := hx.lm i (by omega)
      have hyb := hy.lm (j : Int).toNat (by omega)
      have hmb := mul_lm hxb hyb
      have hpb := hI.lm ((i : Int) + (j : Int)).toNat (by omega)
      have hcb := hI.cb
      have eij : ((i : Int) + (j : Int)).toNat = i + j := by omega
      refine gc_skip ?_
      refine gq_next ?_
      refine gc_seq ?_
      refine gc_block ?_
      refine gc_seq ?_
      refine gc_region ?_
      refine ne (eo_mv rfl rfl) rfl ?_
      refine ne (eo_indexR rfl sl52 rfl rfl hrq (by simp) (by omega) (by omega)) rfl ?_
      refine ne (eo_load_old rfl s72 rfl (Rd.tabi hrq (by omega)) (by simp)) rfl ?_
      refine ne (eo_as rfl rfl) rfl ?_
      refine ne (eo_as rfl rfl) rfl ?_
      refine go_nil ?_
      refine gq_next ?_
      refine gc_seq ?_
      refine gc_region ?_
      refine ne (eo_mv rfl rfl) rfl ?_
      refine ne (eo_convk rfl rfl ⟨_, Try.underlying72⟩ Try.underlying67 (u64_in (by omega) (by omega))) rfl ?_
      refine ne (eo_mv rfl rfl) rfl ?_
      refine ne (eo_convk rfl rfl ⟨_, Try.underlying72⟩ Try.underlying67 (u64_in (by omega) (by omega))) rfl ?_
      refine ne (eo_mulk rfl rfl rfl (u64_in (by omega) (by omega))) rfl ?_
      refine ne (eo_mv rfl rfl) rfl ?_
      refine ne (eo_mv rfl rfl) rfl ?_
      refine ne (eo_mv rfl rfl) rfl ?_
      refine ne (eo_add rfl rfl rfl (by omega) (by omega)) rfl ?_
      refine ne (eo_index0 rfl sl52 rfl rfl (by omega) (by omega)) rfl ?_
      refine ne (eo_geti 0 rfl s72 rfl rfl (by omega)) rfl ?_
      refine ne (eo_convk rfl rfl ⟨_, Try.underlying72⟩ Try.underlying67 (u64_in (by omega) (by omega))) rfl ?_
      refine ne (eo_addk rfl rfl rfl (u64_in (by omega) (by omega))) rfl ?_
      refine ne (eo_mv rfl rfl) rfl ?_
      refine ne (eo_convk rfl rfl ⟨_, Try.underlying72⟩ Try.underlying67 (u64_in (by omega) (by omega))) rfl ?_
      refine ne (eo_addk rfl rfl rfl (u64_in (by omega) (by omega))) rfl ?_
      refine ne (eo_call rfl en50 rfl (fun W1 hO => split_c _ W1  (by omega) (by omega))) rfl ?_
      refine nx (xo_alloc rfl z73) rfl ?_
      rintro _ _ ⟨g11, rfl, rfl⟩
      refine nu (xo_storeA 0 rfl a73 rfl rfl (ones_cons (by first | rfl | exact AS.one) (ones_cons (by first | rfl | exact AS.one) ones_nil)) rfl rfl rfl rfl) ?_
      rintro _ _ ⟨rfl, rfl⟩
      refine go_nil ?_
      refine gq_next ?_
      refine gc_drawK (H0 := [⟨g11, 73, [.int .u32 (((((p.f (i)) * (q.f (j))) + (f1 ((((i : Int) + (j : Int))).toNat))) + cy) % 4294967296), .int .u32 (((((p.f (i)) * (q.f (j))) + (f1 ((((i : Int) + (j : Int))).toNat))) + cy) / 4294967296)]⟩]) [(0, true), (1, true), (2, true), (3, true), (4, true), (5, true), (6, true), (7, true), (8, false), (9, false), (10, false)] (List.Sublist.cons_cons _ (List.nil_sublist _)) (by kernel_rfl) (by kernel_rfl) ?_
      refine me rfl (eo_mv rfl rfl) rfl ?_
      refine me rfl (eo_mv rfl rfl) rfl ?_
      refine me rfl (eo_mv rfl rfl) rfl ?_
      refine me rfl (eo_add rfl rfl rfl (by omega) (by omega)) rfl ?_
      refine me rfl (eo_indexArr rfl Try.underlying73 sz72 rfl rfl (by omega) (by omega)) rfl ?_
      refine me rfl (eo_load 0 rfl s72 rfl rfl rfl rfl) rfl ?_
      refine me rfl (eo_indexArr rfl Try.underlying73 sz72 rfl rfl (by omega) (by omega)) rfl ?_
      refine me rfl (eo_load 0 rfl s72 rfl rfl rfl rfl) rfl ?_
      refine ma rfl (xo_of_eo (eo_index0 rfl sl52 rfl rfl (by omega) (by omega))) rfl ?_
      rintro _ _ ⟨rfl, rfl⟩
      refine ⟨(List.Sublist.cons_cons _ (List.nil_sublist _)), ?_⟩
      refine mu rfl (xo_seti 1 rfl s72 rfl rfl rfl (by omega)) ?_
      rintro _ _ ⟨rfl, rfl⟩
      refine ⟨(List.Sublist.cons_cons _ (List.nil_sublist _)), ?_⟩
      refine ma rfl (xo_of_eo (eo_as rfl rfl)) rfl ?_
      rintro _ _ ⟨rfl, rfl⟩
      refine ⟨(List.Sublist.cons_cons _ (List.nil_sublist _)), ?_⟩
      refine gm_nil ?_
      refine gq_nq ?_
      refine gq_block_end ?_
      refine gq_next ?_
      refine gc_region ?_
      refine ne (eo_add rfl rfl rfl (by omega) (by omega)) rfl ?_
      refine ne (eo_mv rfl rfl) rfl ?_
      refine go_nil ?_
      exact round3 (j + 1) (((((p.f (i)) * (q.f (j))) + (f1 ((((i : Int) + (j : Int))).toNat))) + cy) / 4294967296) (upd f1 ((((i : Int) + (j : Int))).toNat) (((((p.f (i)) * (q.f (j))) + (f1 ((((i : Int) + (j : Int))).toNat))) + cy) % 4294967296)) ⟨by omega, by rw [eij]; exact mi_step hI hx.lm hy.lm (by omega) (by omega) rfl rfl⟩ (by omega) ⟨rfl, rfl, rfl, rfl, rfl, rfl, rfl, rfl, rfl, rfl, rfl, trivial⟩ (List.Sublist.cons _ (List.Sublist.refl _))
    ·
      replace hc1 := of_decide_eq_false hc1
      refine gc_exit ?_
      refine gq_then_exit ?_
      refine gq_then_exit ?_
      refine gq_block_hit ?_
      refine gq_next ?_
      refine gc_region ?_
      refine ne (eo_mv rfl rfl) rfl ?_
      refine ne (eo_mv rfl rfl) rfl ?_
      refine ne (eo_mv rfl rfl) rfl ?_
      refine ne (eo_len rfl Try.underlying52 rfl) rfl ?_
      refine ne (eo_add rfl rfl rfl (by omega) (by omega)) rfl ?_
      refine ne (eo_mv rfl rfl) rfl ?_
      refine ne (eo_index0 rfl sl52 rfl rfl (by omega) (by omega)) rfl ?_
      refine nu (xo_seti 0 rfl s72 rfl rfl rfl (by omega)) ?_
      rintro _ _ ⟨rfl, rfl⟩
      refine go_nil ?_
      refine gq_block_end ?_
      refine gq_next ?_
      refine gc_region ?_
      refine ne (eo_add rfl rfl rfl (by omega) (by omega)) rfl ?_
      refine ne (eo_mv rfl rfl) rfl ?_
      refine go_nil ?_
      exact round2 (i + 1) (upd f1 ((((i : Int) + ((q.m : Nat) : Int))).toNat) cy) ⟨by omega, by rw [show ((i : Int) + ((q.m : Nat) : Int)).toNat = i + q.m by omega]; exact mo_step (by rwa [show j = q.m by omega] at hI) (by omega)⟩ (by omega) ⟨rfl, rfl, rfl, rfl, rfl, trivial⟩ (List.Sublist.refl _)
  ·
    replace hc0 := of_decide_eq_false hc0
    refine gc_exit ?_
    refine gq_then_exit ?_
    refine gq_then_exit ?_
    refine gq_block_hit ?_
    refine gq_next ?_
    refine gc_seq ?_
    refine gc_region ?_
    refine ne (eo_mv rfl rfl) rfl ?_
    refine ne (eo_call rfl en51 rfl (fun W1 hO => trim_c _ _ _ _ W1 (tabs_rd hO 0 rfl) (by omega) (by omega))) rfl ?_
    refine ne (eo_as rfl rfl) rfl ?_
    refine go_nil ?_
    refine gq_next ?_
    refine gc_ret ?_
    refine gq_results (res1 rfl rfl) ?_
    have hm := mo_end (by rwa [show i = p.m by omega] at hI) hx hy
    rw [show p.m + q.m = (((p.m : Nat) : Int) + ((q.m : Nat) : Int)).toNat by omega] at hm
    exact fun W1 hO => rn_own 0 hO rfl tl_le (Nat.le_trans tl_le (by omega)) hm

/-- barscan/bigint.integer -/
theorem integer_c (b : Bool) (p : NS) (w : World)   :
    Calls Try.prog 39 #[.bool b, .slice p.A p.m p.c] w (fun e w' => e = .returned (.agg #[.bool (b && decide (p.m ≠ 0)), .slice (nsz p).A (nsz p).m (nsz p).c]) ∧ Ext w w') := by
  refine calls_enter (N := ⟨12, []⟩) [] ([]) Try.func39 rfl rfl rfl (Ow.start _) ?_
  refine gc_seq ?_
  refine gc_region ?_
  refine nx (xo_alloc rfl z54) rfl ?_
  rintro _ _ ⟨g4, rfl, rfl⟩
  refine go_nil ?_
  refine gq_next ?_
  refine gc_seq ?_
  refine gc_seq ?_
  refine gc_region ?_
  refine ne (eo_mv rfl rfl) rfl ?_
  refine ne (eo_len rfl Try.underlying52 rfl) rfl ?_
  refine ne (eo_eql rfl rfl rfl) rfl ?_
  refine go_nil ?_
  refine gq_next ?_
  refine gc_cond rfl (fun hc0 => ?_) (fun hc0 => ?_)
  ·
    replace hc0 := of_decide_eq_true hc0
    refine gc_seq ?_
    refine gc_region ?_
    refine ne (eo_build rfl rfl (b54_)) rfl ?_
    refine nu (xo_storeA 0 rfl a54 rfl rfl (ones_cons (by first | rfl | exact AS.one) (ones_cons (by first | rfl | exact AS.one) ones_nil)) rfl rfl rfl rfl) ?_
    rintro _ _ ⟨rfl, rfl⟩
    refine go_nil ?_
    refine gq_next ?_
    refine gc_ret ?_
    refine gq_then_ret ?_
    refine gq_results (resC 0 rfl a54 rfl rfl rfl rfl) ?_
    exact fun W1 hO => ⟨int_nil (by omega), hO.toExt⟩
  ·
    replace hc0 := of_decide_eq_false hc0
    refine gc_skip ?_
    refine gq_next ?_
    refine gc_seq ?_
    refine gc_region ?_
    refine ne (eo_mv rfl rfl) rfl ?_
    refine ne (eo_mv rfl rfl) rfl ?_
    refine ne (eo_build rfl rfl (b54_01 _ _ _ _)) rfl ?_
    refine nu (xo_storeA 0 rfl a54 rfl rfl (ones_cons (by first | rfl | exact AS.one) (ones_cons (by first | rfl | exact AS.one) ones_nil)) rfl rfl rfl rfl) ?_
    rintro _ _ ⟨rfl, rfl⟩
    refine go_nil ?_
    refine gq_next ?_
    refine gc_ret ?_
    refine gq_results (resC 0 rfl a54 rfl rfl rfl rfl) ?_
    exact fun W1 hO => ⟨int_some (by omega), hO.toExt⟩

/-- barscan/bigint.bounded -/
theorem bounded_c (b : Bool) (p : NS) (w : World)  (h5 : p.m ≤ 512) :
    Calls Try.prog 42 #[.bool b, .slice p.A p.m p.c] w (fun e w' => e = .returned (.tuple #[.agg #[.bool (b && decide (p.m ≠ 0)), .slice (nsz p).A (nsz p).m (nsz p).c], .int .i64 0]) ∧ Ext w w') := by
  refine calls_enter (N := ⟨13, []⟩) [] ([]) Try.func42 rfl rfl rfl (Ow.start _) ?_
  refine gc_seq ?_
  refine gc_region ?_
  refine nx (xo_alloc rfl z54) rfl ?_
  rintro _ _ ⟨g4, rfl, rfl⟩
  refine ne (eo_as rfl rfl) rfl ?_
  refine go_nil ?_
  refine gq_next ?_
  refine gc_seq ?_
  refine gc_seq ?_
  refine gc_region ?_
  refine ne (eo_mv rfl rfl) rfl ?_
  refine ne (eo_len rfl Try.underlying52 rfl) rfl ?_
  refine ne (eo_gtr rfl rfl rfl) rfl ?_
  refine go_nil ?_
  refine gq_next ?_
  refine gc_cond rfl (fun hc0 => ?_) (fun hc0 => ?_)
  ·
    replace hc0 := of_decide_eq_true hc0
    exfalso; omega
  ·
    replace hc0 := of_decide_eq_false hc0
    refine gc_skip ?_
    refine gq_next ?_
    refine gc_seq ?_
    refine gc_region ?_
    refine ne (eo_mv rfl rfl) rfl ?_
    refine ne (eo_mv rfl rfl) rfl ?_
    refine ne (eo_call rfl en39 rfl (fun W1 hO => integer_c _ p W1)) rfl ?_
    refine nu (xo_storeA 0 rfl a54 rfl rfl (ones_cons (by first | rfl | exact AS.one) (ones_cons (by first | rfl | exact AS.one) ones_nil)) rfl rfl rfl rfl) ?_
    rintro _ _ ⟨rfl, rfl⟩
    refine ne (eo_as rfl rfl) rfl ?_
    refine go_nil ?_
    refine gq_next ?_
    refine gc_ret ?_
    refine gq_results (resCT 0 rfl a54 rfl rfl rfl rfl rfl) ?_
    exact fun W1 hO => ⟨rfl, hO.toExt⟩

/-- barscan/bigint.Valid -/
theorem valid_c (z : Int) (p : NS) (w : World) (hrp : Rd w p.A (tab p.m (iv .u32 p.f))) (hnp : Nm (nab z) p.m p.f) (h5 : p.m ≤ 512) :
    Calls Try.prog 41 #[.agg #[.bool (decide (z < 0)), .slice p.A p.m p.c]] w (fun e w' => e = .returned (.bool true) ∧ Ext w w') := by
  refine calls_enter (N := ⟨23, []⟩) [] ([]) Try.func41 rfl rfl rfl (Ow.start _) ?_
  refine gc_seq ?_
  refine gc_region ?_
  refine nx (xo_boxA rfl rfl) rfl ?_
  rintro _ _ ⟨g1, rfl, rfl⟩
  refine ne (eo_as rfl rfl) rfl ?_
  refine go_nil ?_
  refine gq_next ?_
  refine gc_seq ?_
  refine gc_region ?_
  refine ne (eo_field rfl f54_1 rfl) rfl ?_
  refine ne (eo_load 0 rfl s52 rfl rfl rfl rfl) rfl ?_
  refine ne (eo_len rfl Try.underlying52 rfl) rfl ?_
  refine ne (eo_as rfl rfl) rfl ?_
  refine go_nil ?_
  refine gq_next ?_
  refine gc_seq ?_
  refine gc_seq ?_
  refine gc_region ?_
  refine ne (eo_mv rfl rfl) rfl ?_
  refine ne (eo_eql rfl rfl rfl) rfl ?_
  refine go_nil ?_
  refine gq_next ?_
  refine gc_cond rfl (fun hc0 => ?_) (fun hc0 => ?_)
  ·
    replace hc0 := of_decide_eq_true hc0
    refine gc_seq ?_
    refine gc_region ?_
    refine ne (eo_field rfl f54_0 rfl) rfl ?_
    refine ne (eo_load 0 rfl s4 rfl rfl rfl rfl) rfl ?_
    refine ne (eo_not rfl rfl) rfl ?_
    refine ne (eo_as rfl rfl) rfl ?_
    refine go_nil ?_
    refine gq_next ?_
    refine gc_ret ?_
    refine gq_then_ret ?_
    refine gq_results (res1 rfl rfl) ?_
    exact fun W1 hO => ⟨ret_bool (by rw [nab_zero.1 (hnp.zero.1 (by omega))]; rfl), hO.toExt⟩
  ·
    replace hc0 := of_decide_eq_false hc0
    refine gc_skip ?_
    refine gq_next ?_
    refine gc_seq ?_
    refine gc_region ?_
    refine ne (eo_mv rfl rfl) rfl ?_
    refine ne (eo_leq rfl rfl rfl) rfl ?_
    refine ne (eo_mv rfl rfl) rfl ?_
    refine ng rfl rfl (fun h => eo_field rfl f54_1 rfl) rfl ?_
    refine ng rfl rfl (fun h => eo_load 0 rfl s52 (ev_if h rfl) rfl rfl rfl) rfl ?_
    refine ng rfl rfl (fun h => eo_mv rfl rfl) rfl ?_
    refine ng rfl rfl (fun h => eo_sub rfl (ev_if h rfl) rfl (by have hg0 := of_decide_eq_true h; omega) (by have hg0 := of_decide_eq_true h; omega)) rfl ?_
    refine ng rfl rfl (fun h => eo_indexR rfl sl52 (ev_if h rfl) (ev_if h rfl) hrp (by simp) (by have hg0 := of_decide_eq_true h; omega) (by have hg0 := of_decide_eq_true h; omega)) rfl ?_
    refine ng rfl rfl (fun h => eo_load_old rfl s72 (ev_if h rfl) (Rd.tabi hrp (by have hg0 := of_decide_eq_true h; omega)) (by simp)) rfl ?_
    refine ng rfl rfl (fun h => eo_neq rfl (ev_if h rfl) rfl) rfl ?_
    refine ne (eo_and rfl rfl (fun hb => ev_if hb rfl)) rfl ?_
    refine ne (eo_as rfl rfl) rfl ?_
    refine go_nil ?_
    refine gq_next ?_
    refine gc_ret ?_
    refine gq_results (res1 rfl rfl) ?_
    exact fun W1 hO => ⟨ret_bool (by simp only [Bool.and_eq_true, decide_eq_true_eq]; exact ⟨by omega, fun e => hnp.nz.elim (fun h => hc0 (by omega)) fun h => h (by rw [← e]; congr 1; omega)⟩), hO.toExt⟩

/-- barscan/barscanref02.Valid -/
theorem rvalid_c (z : Int) (p : NS) (w : World) (hrp : Rd w p.A (tab p.m (iv .u32 p.f))) (hnp : Nm (nab z) p.m p.f) (h5 : p.m ≤ 512) :
    Calls Try.prog 46 #[.agg #[.bool (decide (z < 0)), .slice p.A p.m p.c]] w (fun e w' => e = .returned (.bool true) ∧ Ext w w') := by
  refine calls_enter (N := ⟨23, []⟩) [] ([]) Try.func46 rfl rfl rfl (Ow.start _) ?_
  refine gc_seq ?_
  refine gc_region ?_
  refine nx (xo_boxA rfl rfl) rfl ?_
  rintro _ _ ⟨g1, rfl, rfl⟩
  refine ne (eo_as rfl rfl) rfl ?_
  refine go_nil ?_
  refine gq_next ?_
  refine gc_seq ?_
  refine gc_region ?_
  refine ne (eo_field rfl f54_1 rfl) rfl ?_
  refine ne (eo_load 0 rfl s52 rfl rfl rfl rfl) rfl ?_
  refine ne (eo_len rfl Try.underlying52 rfl) rfl ?_
  refine ne (eo_as rfl rfl) rfl ?_
  refine go_nil ?_
  refine gq_next ?_
  refine gc_seq ?_
  refine gc_seq ?_
  refine gc_region ?_
  refine ne (eo_mv rfl rfl) rfl ?_
  refine ne (eo_eql rfl rfl rfl) rfl ?_
  refine go_nil ?_
  refine gq_next ?_
  refine gc_cond rfl (fun hc0 => ?_) (fun hc0 => ?_)
  ·
    replace hc0 := of_decide_eq_true hc0
    refine gc_seq ?_
    refine gc_region ?_
    refine ne (eo_field rfl f54_0 rfl) rfl ?_
    refine ne (eo_load 0 rfl s4 rfl rfl rfl rfl) rfl ?_
    refine ne (eo_not rfl rfl) rfl ?_
    refine ne (eo_as rfl rfl) rfl ?_
    refine go_nil ?_
    refine gq_next ?_
    refine gc_ret ?_
    refine gq_then_ret ?_
    refine gq_results (res1 rfl rfl) ?_
    exact fun W1 hO => ⟨ret_bool (by rw [nab_zero.1 (hnp.zero.1 (by omega))]; rfl), hO.toExt⟩
  ·
    replace hc0 := of_decide_eq_false hc0
    refine gc_skip ?_
    refine gq_next ?_
    refine gc_seq ?_
    refine gc_region ?_
    refine ne (eo_mv rfl rfl) rfl ?_
    refine ne (eo_leq rfl rfl rfl) rfl ?_
    refine ne (eo_mv rfl rfl) rfl ?_
    refine ng rfl rfl (fun h => eo_field rfl f54_1 rfl) rfl ?_
    refine ng rfl rfl (fun h => eo_load 0 rfl s52 (ev_if h rfl) rfl rfl rfl) rfl ?_
    refine ng rfl rfl (fun h => eo_mv rfl rfl) rfl ?_
    refine ng rfl rfl (fun h => eo_sub rfl (ev_if h rfl) rfl (by have hg0 := of_decide_eq_true h; omega) (by have hg0 := of_decide_eq_true h; omega)) rfl ?_
    refine ng rfl rfl (fun h => eo_indexR rfl sl52 (ev_if h rfl) (ev_if h rfl) hrp (by simp) (by have hg0 := of_decide_eq_true h; omega) (by have hg0 := of_decide_eq_true h; omega)) rfl ?_
    refine ng rfl rfl (fun h => eo_load_old rfl s72 (ev_if h rfl) (Rd.tabi hrp (by have hg0 := of_decide_eq_true h; omega)) (by simp)) rfl ?_
    refine ng rfl rfl (fun h => eo_neq rfl (ev_if h rfl) rfl) rfl ?_
    refine ne (eo_and rfl rfl (fun hb => ev_if hb rfl)) rfl ?_
    refine ne (eo_as rfl rfl) rfl ?_
    refine go_nil ?_
    refine gq_next ?_
    refine gc_ret ?_
    refine gq_results (res1 rfl rfl) ?_
    exact fun W1 hO => ⟨ret_bool (by simp only [Bool.and_eq_true, decide_eq_true_eq]; exact ⟨by omega, fun e => hnp.nz.elim (fun h => hc0 (by omega)) fun h => h (by rw [← e]; congr 1; omega)⟩), hO.toExt⟩

/-- barscan/bigint.FromInt -/
theorem fromint_x (n : Int) (w : World)  (n0 : -9223372036854775808 ≤ n) (n1 : n ≤ 9223372036854775807) :
    Calls Try.prog 33 #[.int .i64 n] w (fun e w' => ∃ v Hn, e = .returned v ∧ RI n v Hn ∧ Ow [] w w' Hn) := by
  refine calls_enter (N := ⟨14, []⟩) [] ([]) Try.func33 rfl rfl rfl (Ow.start _) ?_
  refine gc_seq ?_
  refine gc_region ?_
  refine nx (xo_alloc rfl z54) rfl ?_
  rintro _ _ ⟨g2, rfl, rfl⟩
  refine go_nil ?_
  refine gq_next ?_
  refine gc_seq ?_
  refine gc_seq ?_
  refine gc_region ?_
  refine ne (eo_mv rfl rfl) rfl ?_
  refine ne (eo_lss rfl rfl rfl) rfl ?_
  refine go_nil ?_
  refine gq_next ?_
  refine gc_cond rfl (fun hc0 => ?_) (fun hc0 => ?_)
  ·
    replace hc0 := of_decide_eq_true hc0
    refine gc_seq ?_
    refine gc_region ?_
    refine ne (eo_mv rfl rfl) rfl ?_
    refine ne (eo_wide rfl rfl ⟨_, Try.underlying3⟩ Try.underlying67) rfl ?_
    refine ne (eo_absw rfl rfl n0 hc0) rfl ?_
    refine nx (xo_freshT rfl en40 rfl (fun W1 hO => word_x _ W1 (by omega) (by omega))) rfl ?_
    rintro _ _ ⟨S8, ⟨p8, rfl, hp8⟩, rfl⟩
    refine ne (eo_call rfl en39 rfl (fun W1 hO => integer_c _ p8 W1)) rfl ?_
    refine nu (xo_storeA 0 rfl a54 rfl rfl (ones_cons (by first | rfl | exact AS.one) (ones_cons (by first | rfl | exact AS.one) ones_nil)) rfl rfl rfl rfl) ?_
    rintro _ _ ⟨rfl, rfl⟩
    refine go_nil ?_
    refine gq_next ?_
    refine gc_ret ?_
    refine gq_then_ret ?_
    refine gq_results (resC 0 rfl a54 rfl rfl rfl rfl) ?_
    rw [show (-n) = nab n from (nab_n hc0).symm] at hp8
    exact fun W1 hO => ri_pass (hO.tl 1 rfl (List.Sublist.refl _)) hp8.nsz (sign_of hp8 fun _ => (decide_eq_true hc0).symm)
  ·
    replace hc0 := of_decide_eq_false hc0
    refine gc_skip ?_
    refine gq_next ?_
    refine gc_seq ?_
    refine gc_region ?_
    refine ne (eo_mv rfl rfl) rfl ?_
    refine ne (eo_convk rfl rfl ⟨_, Try.underlying3⟩ Try.underlying67 (u64_in (by omega) (by omega))) rfl ?_
    refine nx (xo_freshT rfl en40 rfl (fun W1 hO => word_x _ W1 (by omega) (by omega))) rfl ?_
    rintro _ _ ⟨S12, ⟨p12, rfl, hp12⟩, rfl⟩
    refine ne (eo_call rfl en39 rfl (fun W1 hO => integer_c _ p12 W1)) rfl ?_
    refine nu (xo_storeA 0 rfl a54 rfl rfl (ones_cons (by first | rfl | exact AS.one) (ones_cons (by first | rfl | exact AS.one) ones_nil)) rfl rfl rfl rfl) ?_
    rintro _ _ ⟨rfl, rfl⟩
    refine go_nil ?_
    refine gq_next ?_
    refine gc_ret ?_
    refine gq_results (resC 0 rfl a54 rfl rfl rfl rfl) ?_
    rw [show n = nab n from (nab_p hc0).symm] at hp12
    exact fun W1 hO => ri_pass (hO.tl 1 rfl (List.Sublist.refl _)) hp12.nsz (sign_of hp12 fun _ => (decide_eq_false hc0).symm)

/-- barscan/bigint.Cmp -/
theorem Cmp_c (z : Int) (p : NS) (y : Int) (q : NS) (w : World) (hrp : Rd w p.A (tab p.m (iv .u32 p.f))) (hnp : Nm (nab z) p.m p.f) (hrq : Rd w q.A (tab q.m (iv .u32 q.f))) (hnq : Nm (nab y) q.m q.f) (h1 : p.m ≤ 512) (h2 : q.m ≤ 512) :
    Calls Try.prog 35 #[.agg #[.bool (decide (z < 0)), .slice p.A p.m p.c], .agg #[.bool (decide (y < 0)), .slice q.A q.m q.c]] w (fun e w' => e = .returned (.int .i64 (cmpZ z y)) ∧ Ext w w') := by
  refine calls_enter (N := ⟨37, []⟩) [] ([]) Try.func35 rfl rfl rfl (Ow.start _) ?_
  refine gc_seq ?_
  refine gc_region ?_
  refine nx (xo_boxA rfl rfl) rfl ?_
  rintro _ _ ⟨g2, rfl, rfl⟩
  refine nx (xo_boxA rfl rfl) rfl ?_
  rintro _ _ ⟨g3, rfl, rfl⟩
  refine ne (eo_as rfl rfl) rfl ?_
  refine go_nil ?_
  refine gq_next ?_
  refine gc_seq ?_
  refine gc_block ?_
  refine gc_seq ?_
  refine gc_region ?_
  refine ne (eo_loadA 1 rfl a54 rfl rfl rfl rfl) rfl ?_
  refine ne (eo_call rfl en41 rfl (fun W1 hO => valid_c _ _ W1 (hrp.old0 hO) hnp (by omega))) rfl ?_
  refine ne (eo_not rfl rfl) rfl ?_
  refine ne (eo_mv rfl rfl) rfl ?_
  refine ng rfl rfl (fun h => eo_loadA 0 rfl a54 rfl rfl rfl rfl) rfl ?_
  refine ng rfl rfl (fun h => eo_call rfl en41 (evs_cons (ev_if h rfl) evs_nil) (fun W1 hO => valid_c _ _ W1 (hrq.old0 hO) hnq (by omega))) rfl ?_
  refine ng rfl rfl (fun h => eo_not rfl (ev_if h rfl)) rfl ?_
  refine ne (eo_or rfl rfl (fun hb => ev_if hb rfl)) rfl ?_
  refine ne (eo_as rfl rfl) rfl ?_
  refine go_nil ?_
  refine gq_next ?_
  refine gc_cond rfl (fun hc0 => ?_) (fun hc0 => ?_)
  ·
    have hd0 := (or_t hc0).imp (fun h => (not_t h)) (fun h => (not_t h))
    exact absurd hc0 (by decide)
  ·
    have hd0 := (or_f hc0).imp (fun h => (not_f h)) (fun h => (not_f h))
    refine gc_seq ?_
    refine gc_region ?_
    refine ne (eo_field rfl f54_0 rfl) rfl ?_
    refine ne (eo_load 1 rfl s4 rfl rfl rfl rfl) rfl ?_
    refine ne (eo_mv rfl rfl) rfl ?_
    refine ng rfl rfl (fun h => eo_field rfl f54_0 rfl) rfl ?_
    refine ng rfl rfl (fun h => eo_load 0 rfl s4 (ev_if h rfl) rfl rfl rfl) rfl ?_
    refine ne (eo_and rfl rfl (fun hb => ev_if hb rfl)) rfl ?_
    refine ne (eo_as rfl rfl) rfl ?_
    refine go_nil ?_
    refine gq_next ?_
    refine gc_cond rfl (fun hc1 => ?_) (fun hc1 => ?_)
    ·
      have hd1 := (and_t hc1).imp (fun h => of_decide_eq_true h) (fun h => of_decide_eq_true h)
      refine gc_seq ?_
      refine gc_region ?_
      refine ne (eo_field rfl f54_1 rfl) rfl ?_
      refine ne (eo_load 0 rfl s52 rfl rfl rfl rfl) rfl ?_
      refine ne (eo_field rfl f54_1 rfl) rfl ?_
      refine ne (eo_load 1 rfl s52 rfl rfl rfl rfl) rfl ?_
      refine ne (eo_call rfl en44 rfl (fun W1 hO => cmp_c _ _ _ _ W1 (hrq.old0 hO) (hrp.old0 hO) hnq hnp (by omega) (by omega))) rfl ?_
      refine ne (eo_as rfl rfl) rfl ?_
      refine go_nil ?_
      refine gq_next ?_
      refine gc_ret ?_
      refine gq_block_ret ?_
      refine gq_then_ret ?_
      refine gq_results (res1 rfl rfl) ?_
      exact fun W1 hO => ⟨ret_int (cmp_nn (by omega) (by omega)), hO.toExt⟩
    ·
      have hd1 := (and_f hc1).imp (fun h => of_decide_eq_false h) (fun h => of_decide_eq_false h)
      refine gc_seq ?_
      refine gc_region ?_
      refine ne (eo_field rfl f54_0 rfl) rfl ?_
      refine ne (eo_load 1 rfl s4 rfl rfl rfl rfl) rfl ?_
      refine ne (eo_as rfl rfl) rfl ?_
      refine go_nil ?_
      refine gq_next ?_
      refine gc_cond rfl (fun hc2 => ?_) (fun hc2 => ?_)
      ·
        have hd2 := of_decide_eq_true hc2
        refine gc_seq ?_
        refine gc_region ?_
        refine ne (eo_as rfl rfl) rfl ?_
        refine go_nil ?_
        refine gq_next ?_
        refine gc_ret ?_
        refine gq_block_ret ?_
        refine gq_then_ret ?_
        refine gq_results (res1 rfl rfl) ?_
        exact fun W1 hO => ⟨ret_int (cmpZ_lt (by omega)).symm, hO.toExt⟩
      ·
        have hd2 := of_decide_eq_false hc2
        refine gc_seq ?_
        refine gc_region ?_
        refine ne (eo_field rfl f54_0 rfl) rfl ?_
        refine ne (eo_load 0 rfl s4 rfl rfl rfl rfl) rfl ?_
        refine ne (eo_as rfl rfl) rfl ?_
        refine go_nil ?_
        refine gq_next ?_
        refine gc_cond rfl (fun hc3 => ?_) (fun hc3 => ?_)
        ·
          have hd3 := of_decide_eq_true hc3
          refine gc_seq ?_
          refine gc_region ?_
          refine ne (eo_as rfl rfl) rfl ?_
          refine go_nil ?_
          refine gq_next ?_
          refine gc_ret ?_
          refine gq_block_ret ?_
          refine gq_then_ret ?_
          refine gq_results (res1 rfl rfl) ?_
          exact fun W1 hO => ⟨ret_int (cmpZ_gt (by omega)).symm, hO.toExt⟩
        ·
          have hd3 := of_decide_eq_false hc3
          refine gc_skip ?_
          refine gq_block_end ?_
          refine gq_next ?_
          refine gc_seq ?_
          refine gc_region ?_
          refine ne (eo_field rfl f54_1 rfl) rfl ?_
          refine ne (eo_load 1 rfl s52 rfl rfl rfl rfl) rfl ?_
          refine ne (eo_field rfl f54_1 rfl) rfl ?_
          refine ne (eo_load 0 rfl s52 rfl rfl rfl rfl) rfl ?_
          refine ne (eo_call rfl en44 rfl (fun W1 hO => cmp_c _ _ _ _ W1 (hrp.old0 hO) (hrq.old0 hO) hnp hnq (by omega) (by omega))) rfl ?_
          refine ne (eo_as rfl rfl) rfl ?_
          refine go_nil ?_
          refine gq_next ?_
          refine gc_ret ?_
          refine gq_results (res1 rfl rfl) ?_
          exact fun W1 hO => ⟨ret_int (cmp_pp (by omega) (by omega)), hO.toExt⟩

/-- barscan/bigint.Mul -/
theorem mul_x (z : Int) (p : NS) (y : Int) (q : NS) (w : World) (hrp : Rd w p.A (tab p.m (iv .u32 p.f))) (hnp : Nm (nab z) p.m p.f) (hrq : Rd w q.A (tab q.m (iv .u32 q.f))) (hnq : Nm (nab y) q.m q.f) (hz : nab z ≤ 10000000000000000000000000000000000000000) (hy : nab y ≤ 10000000000000000000000000000000000000000) (hzy : nab (z * y) ≤ 10000000000000000000000000000000000000000) :
    Calls Try.prog 34 #[.agg #[.bool (decide (z < 0)), .slice p.A p.m p.c], .agg #[.bool (decide (y < 0)), .slice q.A q.m q.c]] w (fun e w' => ∃ v Hn, e = .returned v ∧ RIE (z * y) v Hn ∧ Ow [] w w' Hn) := by
  have hpm := hnp.few hz
  have hqm := hnq.few hy
  have hzy2 := hzy
  rw [← nab_mul] at hzy2
  refine calls_enter (N := ⟨28, []⟩) [] ([]) Try.func34 rfl rfl rfl (Ow.start _) ?_
  refine gc_seq ?_
  refine gc_region ?_
  refine nx (xo_boxA rfl rfl) rfl ?_
  rintro _ _ ⟨g2, rfl, rfl⟩
  refine nx (xo_boxA rfl rfl) rfl ?_
  rintro _ _ ⟨g3, rfl, rfl⟩
  refine nx (xo_alloc rfl z54) rfl ?_
  rintro _ _ ⟨g4, rfl, rfl⟩
  refine ne (eo_as rfl rfl) rfl ?_
  refine go_nil ?_
  refine gq_next ?_
  refine gc_seq ?_
  refine gc_seq ?_
  refine gc_region ?_
  refine ne (eo_loadA 2 rfl a54 rfl rfl rfl rfl) rfl ?_
  refine ne (eo_call rfl en41 rfl (fun W1 hO => valid_c _ _ W1 (hrp.old0 hO) hnp (by omega))) rfl ?_
  refine ne (eo_not rfl rfl) rfl ?_
  refine ne (eo_mv rfl rfl) rfl ?_
  refine ng rfl rfl (fun h => eo_loadA 1 rfl a54 rfl rfl rfl rfl) rfl ?_
  refine ng rfl rfl (fun h => eo_call rfl en41 (evs_cons (ev_if h rfl) evs_nil) (fun W1 hO => valid_c _ _ W1 (hrq.old0 hO) hnq (by omega))) rfl ?_
  refine ng rfl rfl (fun h => eo_not rfl (ev_if h rfl)) rfl ?_
  refine ne (eo_or rfl rfl (fun hb => ev_if hb rfl)) rfl ?_
  refine go_nil ?_
  refine gq_next ?_
  refine gc_cond rfl (fun hc0 => ?_) (fun hc0 => ?_)
  ·
    have hd0 := (or_t hc0).imp (fun h => (not_t h)) (fun h => (not_t h))
    exact absurd hc0 (by decide)
  ·
    have hd0 := (or_f hc0).imp (fun h => (not_f h)) (fun h => (not_f h))
    refine gc_skip ?_
    refine gq_next ?_
    refine gc_seq ?_
    refine gc_drawK (H0 := [⟨g3, 54, [.bool (decide (y < 0)), .slice q.A q.m q.c]⟩, ⟨g2, 54, [.bool (decide (z < 0)), .slice p.A p.m p.c]⟩]) [(0, true), (1, true), (2, true), (3, true), (4, true), (5, true), (6, true), (7, false), (8, false), (9, false), (10, false), (11, true), (12, false), (13, false), (14, false)] (List.Sublist.cons _ (List.Sublist.cons_cons _ (List.Sublist.cons_cons _ (List.nil_sublist _)))) (by kernel_rfl) (by kernel_rfl) ?_
    refine me rfl (eo_field rfl f54_0 rfl) rfl ?_
    refine me rfl (eo_load 1 rfl s4 rfl rfl rfl rfl) rfl ?_
    refine me rfl (eo_field rfl f54_0 rfl) rfl ?_
    refine me rfl (eo_load 0 rfl s4 rfl rfl rfl rfl) rfl ?_
    refine me rfl (eo_bneq rfl rfl rfl Try.underlying4) rfl ?_
    refine me rfl (eo_field rfl f54_1 rfl) rfl ?_
    refine me rfl (eo_load 1 rfl s52 rfl rfl rfl rfl) rfl ?_
    refine ma rfl (xo_of_eo (eo_field rfl f54_1 rfl)) rfl ?_
    rintro _ _ ⟨rfl, rfl⟩
    refine ⟨(List.Sublist.cons _ (List.Sublist.cons_cons _ (List.Sublist.cons_cons _ (List.nil_sublist _)))), ?_⟩
    refine ma rfl (xo_of_eo (eo_load 1 rfl s52 rfl rfl rfl rfl)) rfl ?_
    rintro _ _ ⟨rfl, rfl⟩
    refine ⟨(List.Sublist.cons _ (List.Sublist.cons_cons _ (List.Sublist.cons_cons _ (List.nil_sublist _)))), ?_⟩
    refine ma rfl (xo_freshT rfl en43 rfl (fun W1 hO => mult_x _ _ _ _ W1 (hrp.old0 hO) (hrq.old0 hO) hnp hnq (by omega) (by omega))) rfl ?_
    rintro _ _ ⟨S24, ⟨p24, rfl, hp24⟩, rfl⟩
    refine ⟨(List.Sublist.cons _ (List.Sublist.cons_cons _ (List.Sublist.cons_cons _ (List.nil_sublist _)))), ?_⟩
    refine ma rfl (xo_of_eo (eo_call rfl en42 rfl (fun W1 hO => bounded_c _ p24 W1 (Nat.le_trans (hp24.nm.few (by assumption)) (by decide))))) rfl ?_
    rintro _ _ ⟨rfl, rfl⟩
    refine ⟨(List.Sublist.cons _ (List.Sublist.cons_cons _ (List.Sublist.cons_cons _ (List.nil_sublist _)))), ?_⟩
    refine me rfl (eo_extract rfl rfl rfl) rfl ?_
    refine ma rfl (xo_of_eo (eo_extract rfl rfl rfl)) rfl ?_
    rintro _ _ ⟨rfl, rfl⟩
    refine ⟨(List.Sublist.cons _ (List.Sublist.cons_cons _ (List.Sublist.cons_cons _ (List.nil_sublist _)))), ?_⟩
    refine mu rfl (xo_storeA 0 rfl a54 rfl rfl (ones_cons (by first | rfl | exact AS.one) (ones_cons (by first | rfl | exact AS.one) ones_nil)) rfl rfl rfl rfl) ?_
    rintro _ _ ⟨rfl, rfl⟩
    refine ⟨(List.Sublist.cons _ (List.Sublist.cons_cons _ (List.Sublist.cons_cons _ (List.nil_sublist _)))), ?_⟩
    refine ma rfl (xo_of_eo (eo_as rfl rfl)) rfl ?_
    rintro _ _ ⟨rfl, rfl⟩
    refine ⟨(List.Sublist.cons _ (List.Sublist.cons_cons _ (List.Sublist.cons_cons _ (List.nil_sublist _)))), ?_⟩
    refine gm_nil ?_
    refine gq_nq ?_
    refine gq_next ?_
    refine gc_ret ?_
    refine gq_results (resCT 0 rfl a54 rfl rfl rfl rfl rfl) ?_
    rw [nab_mul] at hp24
    exact fun W1 hO => rie_pass (hO.tl 3 rfl (List.Sublist.refl _)) hp24.nsz (sign_of hp24 sign_mul)

end Go.Proofs.Ytcdhbikginpogaa
