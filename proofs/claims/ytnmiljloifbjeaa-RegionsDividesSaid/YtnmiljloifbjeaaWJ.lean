/-
  The walks of the functions of package regions and of the document's answers (part J): what each call returns, at every argument.
-/
import Derived.Test.YtnmiljloifbjeaaWD
import Derived.Test.YtnmiljloifbjeaaWE
import Derived.Test.YtnmiljloifbjeaaWH
import Derived.Test.YtnmiljloifbjeaaRf
namespace Go.Proofs.Ytnmiljloifbjeaa
open Go.RowKit Go.Eng

open Go.Bs
theorem b81_0 (x0_0 : Int) (x0_1 : Int) (x0_2 : Int) (x0_3 : Int) (W : World) : (Instr.build 81 #[(0, .agg #[.int .i64 x0_0, .int .i64 x0_1, .int .i64 x0_2, .int .i64 x0_3])]).run Try.prog W = .ok (.agg #[.int .i64 x0_0, .int .i64 x0_1, .int .i64 x0_2, .int .i64 x0_3, .pointer none, .pointer none]) W := by kernel_rfl
theorem f64_1 : FieldAt Try.prog 64 1 2 := ⟨_, _, 0, Try.underlying64, rfl, by kernel_rfl, rfl⟩
theorem en30 : Ent Try.prog 30 := ent_of Try.func30 (by kernel_rfl) rfl
theorem en40 : Ent Try.prog 40 := ent_of Try.func40 (by kernel_rfl) rfl
theorem f64_2 : FieldAt Try.prog 64 2 3 := ⟨_, _, 0, Try.underlying64, rfl, by kernel_rfl, rfl⟩
theorem f64_3 : FieldAt Try.prog 64 3 4 := ⟨_, _, 0, Try.underlying64, rfl, by kernel_rfl, rfl⟩
theorem en41 : Ent Try.prog 41 := ent_of Try.func41 (by kernel_rfl) rfl
theorem en27 : Ent Try.prog 27 := ent_of Try.func27 (by kernel_rfl) rfl
theorem f81_1 : FieldAt Try.prog 81 1 4 := ⟨_, _, 0, Try.underlying81, rfl, by kernel_rfl, rfl⟩
theorem s65 : TyS Try.prog 65 := ⟨⟨_, Try.underlying65, rfl⟩, by kernel_rfl⟩
theorem f81_2 : FieldAt Try.prog 81 2 5 := ⟨_, _, 0, Try.underlying81, rfl, by kernel_rfl, rfl⟩
theorem f81_0 : FieldAt Try.prog 81 0 0 := ⟨_, _, 3, Try.underlying81, rfl, by kernel_rfl, rfl⟩
theorem lit27_1 {x0 x1 x2 x3 : Int} (W : World) : (Instr.buildSlice 27 1 #[(0, .agg #[.int .i64 x0, .int .i64 x1, .int .i64 x2, .int .i64 x3])]).run Try.prog W = .ok (.slice (some ⟨W.heap.size, 0, none⟩) 1 1) (W.alloc (.cells #[.int .i64 x0, .int .i64 x1, .int .i64 x2, .int .i64 x3] 32)) := by kernel_rfl
theorem en_32 : TyEN Try.prog 32 (.agg #[.int .i64 0, .int .i64 0, .int .i64 0, .int .i64 0]) 4 32 := ⟨rfl, by omega, by kernel_rfl⟩
theorem en28 : Ent Try.prog 28 := ent_of Try.func28 (by kernel_rfl) rfl

/-- (*barscan/regions.cutter).divide -/
theorem div_step (g : Nat) (W H : Int) (A : Option Addr) (c : Nat) (f : Nat → Bool) (gx gy : Int) (k : Nat) (b : Bx) (fd : Int) (w : World)  (ih : ∀ (b : Bx) (fd : Int) (w : World) (hr : Rd w A (tab ((W + 1) * (H + 1)).toNat (iv .i32 (sumG (bw f) W)))) (hg : w.heap[g]? = some (.cells [.int .i64 (W + 1), .slice A ((W + 1) * (H + 1)).toNat c, .int .i64 gx, .int .i64 gy, .int .i64 fd].toArray 64 (0, 0))) (ht : Tg f W H b) (hk : b.W + b.H ≤ (k : Int)) (f0 : 0 ≤ fd) (f1 : fd + b.W * b.H ≤ 4096), Calls Try.prog 27 #[.pointer (some ⟨g, 0, none⟩), .agg #[.int .i64 b.X, .int .i64 b.Y, .int .i64 b.W, .int .i64 b.H]] w (fun e w' => ∃ v Hn, e = .returned v ∧ TR 81 (cutT f W gx gy k b) v Hn ∧ Ow [g] w w' (⟨g, 64, [.int .i64 (W + 1), .slice A ((W + 1) * (H + 1)).toNat c, .int .i64 gx, .int .i64 gy, .int .i64 (fd + ((cutT f W gx gy k b).lvs.length : Int))]⟩ :: Hn))) (w1 : 1 ≤ W) (w2 : W ≤ 4096) (h1 : 1 ≤ H) (h2 : H ≤ 4096) (hne : bl A ≠ g) (hr : Rd w A (tab ((W + 1) * (H + 1)).toNat (iv .i32 (sumG (bw f) W)))) (hg : w.heap[g]? = some (.cells [.int .i64 (W + 1), .slice A ((W + 1) * (H + 1)).toNat c, .int .i64 gx, .int .i64 gy, .int .i64 fd].toArray 64 (0, 0))) (ht : Tg f W H b) (hk : b.W + b.H ≤ (k : Int) + 1) (f0 : 0 ≤ fd) (f1 : fd + b.W * b.H ≤ 4096) :
    Calls Try.prog 27 #[.pointer (some ⟨g, 0, none⟩), .agg #[.int .i64 b.X, .int .i64 b.Y, .int .i64 b.W, .int .i64 b.H]] w (fun e w' => ∃ v Hn, e = .returned v ∧ TR 81 (cutT f W gx gy (k + 1) b) v Hn ∧ Ow [g] w w' (⟨g, 64, [.int .i64 (W + 1), .slice A ((W + 1) * (H + 1)).toNat c, .int .i64 gx, .int .i64 gy, .int .i64 (fd + ((cutT f W gx gy (k + 1) b).lvs.length : Int))]⟩ :: Hn)) := by
  have hb := ht.inn
  obtain ⟨b1, b2, b3, b4, b5, b6⟩ := ht.inn
  have hp1 := ht.red.pos
  have har := Int.mul_pos (show 0 < b.W by omega) (show 0 < b.H by omega)
  have bC := wC_bd (f := f) (gx := gx) hb
  have bR := wR_bd (f := f) (gy := gy) hb
  refine calls_enter (N := ⟨126, []⟩) [g] ([⟨g, 64, [.int .i64 (W + 1), .slice A (((W + 1) * (H + 1)).toNat) c, .int .i64 gx, .int .i64 gy, .int .i64 fd]⟩]) Try.func27 rfl rfl rfl (own_one hg) ?_
  refine gc_seq ?_
  refine gc_region ?_
  refine nx (xo_boxA rfl rfl) rfl ?_
  rintro _ _ ⟨g3, rfl, rfl⟩
  refine ne (eo_as rfl rfl) rfl ?_
  refine go_nil ?_
  refine gq_next ?_
  refine gc_seq ?_
  refine gc_region ?_
  refine ne (eo_loadA 0 rfl a32 rfl rfl rfl rfl) rfl ?_
  refine ne (eo_build rfl rfl (b81_0 _ _ _ _)) rfl ?_
  refine nx (xo_boxA rfl rfl) rfl ?_
  rintro _ _ ⟨g12, rfl, rfl⟩
  refine ne (eo_as rfl rfl) rfl ?_
  refine go_nil ?_
  refine gq_next ?_
  refine gc_seq ?_
  refine gc_draw_new (i := 11) (d := 6) [] [0, 1, 2, 3, 4, 6, 7, 8, 9] [5, 10] [12] (by kernel_rfl) (by kernel_rfl) rfl z38 rfl ?_
  refine gp_nil ?_
  refine de rfl (eo_mv rfl rfl) rfl ?_
  refine de rfl (eo_nilChk rfl rfl) rfl ?_
  refine de rfl (eo_field rfl f64_0 rfl) rfl ?_
  refine de rfl (eo_loadM (cs := [.int .i64 (W + 1), .slice A (((W + 1) * (H + 1)).toNat) c]) 2 rfl a61 rfl rfl rfl rfl (by intro j hj; rcases j with _ | j; (· rfl); rcases j with _ | j; (· rfl); exact absurd hj (by omega))) rfl ?_
  refine de rfl (eo_loadA 1 rfl a32 rfl rfl rfl rfl) rfl ?_
  refine de rfl (eo_mv rfl rfl) rfl ?_
  refine de rfl (eo_nilChk rfl rfl) rfl ?_
  refine de rfl (eo_field rfl f64_1 rfl) rfl ?_
  refine de rfl (eo_load 2 rfl s3 rfl rfl rfl rfl) rfl ?_
  refine ge_nil ?_
  refine ⟨rfl, ?_⟩
  refine da rfl (xo_freshT rfl en30 rfl (fun W1 hO => gaps_x _ _ _ _ _ _ _ _ _ _ W1 (hr.old hO (by simpa using hne)) (by omega) (by omega) (by omega) (by omega) hb)) rfl ?_
  rintro _ _ ⟨S18, ⟨A18, k18, rfl, hk18, hS18⟩, rfl⟩
  refine ⟨by first | exact (List.sublist_append_left _ _) | exact (List.sublist_append_left _ _), ?_⟩
  refine da rfl (xo_of_eo (eo_call rfl en40 rfl (fun W1 hO => widest_c _ _ _ _ W1 (hS18.rd (hO.tl 3 rfl (List.Sublist.refl _))) (Nat.le_trans (gpV_len hb w2 h2) (by omega))))) rfl ?_
  rintro _ _ ⟨rfl, rfl⟩
  refine ⟨by first | exact (List.sublist_append_left _ _) | exact (List.sublist_append_left _ _), ?_⟩
  refine ga_nil ?_
  intro g6
  refine iu rfl (xo_storeA 0 rfl a38 rfl rfl (ones_cons (by first | rfl | exact AS.one) (ones_cons (by first | rfl | exact AS.one) ones_nil)) rfl rfl rfl rfl) ?_
  rintro _ _ ⟨rfl, rfl⟩
  refine gi_nil ?_
  refine gq_nq ?_
  refine gq_next ?_
  refine gc_seq ?_
  rw [show (widL gx (gpV f W b true)) = (wC f W gx b) from rfl]
  refine gc_draw_new (i := 11) (d := 7) [] [0, 1, 2, 3, 4, 6, 7, 8, 9] [5, 10] [12] (by kernel_rfl) (by kernel_rfl) rfl z38 rfl ?_
  refine gp_nil ?_
  refine de rfl (eo_mv rfl rfl) rfl ?_
  refine de rfl (eo_nilChk rfl rfl) rfl ?_
  refine de rfl (eo_field rfl f64_0 rfl) rfl ?_
  refine de rfl (eo_loadM (cs := [.int .i64 (W + 1), .slice A (((W + 1) * (H + 1)).toNat) c]) 3 rfl a61 rfl rfl rfl rfl (by intro j hj; rcases j with _ | j; (· rfl); rcases j with _ | j; (· rfl); exact absurd hj (by omega))) rfl ?_
  refine de rfl (eo_loadA 2 rfl a32 rfl rfl rfl rfl) rfl ?_
  refine de rfl (eo_mv rfl rfl) rfl ?_
  refine de rfl (eo_nilChk rfl rfl) rfl ?_
  refine de rfl (eo_field rfl f64_2 rfl) rfl ?_
  refine de rfl (eo_load 3 rfl s3 rfl rfl rfl rfl) rfl ?_
  refine ge_nil ?_
  refine ⟨rfl, ?_⟩
  refine da rfl (xo_freshT rfl en30 rfl (fun W1 hO => gaps_x _ _ _ _ _ _ _ _ _ _ W1 (hr.old hO (by simpa using hne)) (by omega) (by omega) (by omega) (by omega) hb)) rfl ?_
  rintro _ _ ⟨S29, ⟨A29, k29, rfl, hk29, hS29⟩, rfl⟩
  refine ⟨by first | exact (List.sublist_append_left _ _) | exact (List.sublist_append_left _ _), ?_⟩
  refine da rfl (xo_of_eo (eo_call rfl en40 rfl (fun W1 hO => widest_c _ _ _ _ W1 (hS29.rd (hO.tl 4 rfl (List.sublist_append_right _ _))) (Nat.le_trans (gpV_len hb w2 h2) (by omega))))) rfl ?_
  rintro _ _ ⟨rfl, rfl⟩
  refine ⟨by first | exact (List.sublist_append_left _ _) | exact (List.sublist_append_left _ _), ?_⟩
  refine ga_nil ?_
  intro g7
  refine iu rfl (xo_storeA 0 rfl a38 rfl rfl (ones_cons (by first | rfl | exact AS.one) (ones_cons (by first | rfl | exact AS.one) ones_nil)) rfl rfl rfl rfl) ?_
  rintro _ _ ⟨rfl, rfl⟩
  refine gi_nil ?_
  refine gq_nq ?_
  refine gq_next ?_
  refine gc_seq ?_
  rw [show (widL gy (gpV f W b false)) = (wR f W gy b) from rfl]
  refine gc_drawF (H0 := [⟨g3, 32, [.int .i64 b.X, .int .i64 b.Y, .int .i64 b.W, .int .i64 b.H]⟩]) [0, 1] [] [4, 5] [⟨2, 8, 32, [.int .i64 0, .int .i64 0, .int .i64 0, .int .i64 0]⟩, ⟨3, 9, 32, [.int .i64 0, .int .i64 0, .int .i64 0, .int .i64 0]⟩] (List.Sublist.cons _ (List.Sublist.cons _ (List.Sublist.cons _ (List.Sublist.cons_cons _ (List.nil_sublist _))))) (by kernel_rfl) (by kernel_rfl) (fls_cons ⟨⟨_, _, _, rfl⟩, rfl, z32⟩ (fls_cons ⟨⟨_, _, _, rfl⟩, rfl, z32⟩ fls_nil)) ?_
  refine de rfl (eo_loadA 0 rfl a32 rfl rfl rfl rfl) rfl ?_
  refine de rfl (eo_loadA 0 rfl a32 rfl rfl rfl rfl) rfl ?_
  refine ge_nil ?_
  refine ⟨rfl, ?_⟩
  refine ga_nil ?_
  intro g8 g9
  refine ⟨(List.Sublist.cons _ (List.Sublist.cons _ (List.Sublist.cons _ (List.Sublist.cons_cons _ (List.nil_sublist _))))), ?_⟩
  refine mu rfl (xo_storeA 0 rfl a32 rfl rfl (ones_cons (by first | rfl | exact AS.one) (ones_cons (by first | rfl | exact AS.one) (ones_cons (by first | rfl | exact AS.one) (ones_cons (by first | rfl | exact AS.one) ones_nil)))) rfl rfl rfl rfl) ?_
  rintro _ _ ⟨rfl, rfl⟩
  refine ⟨(List.Sublist.cons _ (List.Sublist.cons _ (List.Sublist.cons _ (List.Sublist.cons _ (List.Sublist.cons _ (List.Sublist.cons_cons _ (List.nil_sublist _))))))), ?_⟩
  refine mu rfl (xo_storeA 1 rfl a32 rfl rfl (ones_cons (by first | rfl | exact AS.one) (ones_cons (by first | rfl | exact AS.one) (ones_cons (by first | rfl | exact AS.one) (ones_cons (by first | rfl | exact AS.one) ones_nil)))) rfl rfl rfl rfl) ?_
  rintro _ _ ⟨rfl, rfl⟩
  refine ⟨(List.Sublist.cons _ (List.Sublist.cons _ (List.Sublist.cons _ (List.Sublist.cons _ (List.Sublist.cons _ (List.Sublist.cons_cons _ (List.nil_sublist _))))))), ?_⟩
  refine gm_nil ?_
  refine gq_nq ?_
  refine gq_next ?_
  refine gc_seq ?_
  refine gc_block ?_
  refine gc_seq ?_
  refine gc_region ?_
  refine ne (eo_mv rfl rfl) rfl ?_
  refine ne (eo_nilChk rfl rfl) rfl ?_
  refine ne (eo_field rfl f64_3 rfl) rfl ?_
  refine ne (eo_load 6 rfl s3 rfl rfl rfl rfl) rfl ?_
  refine ne (eo_gtr rfl rfl rfl) rfl ?_
  refine ne (eo_mv rfl rfl) rfl ?_
  refine ng rfl rfl (fun h => eo_field rfl f38_1 rfl) rfl ?_
  refine ng rfl rfl (fun h => eo_load 3 rfl s3 (ev_if h rfl) rfl rfl rfl) rfl ?_
  refine ng rfl rfl (fun h => eo_eql rfl (ev_if h rfl) rfl) rfl ?_
  refine ng rfl rfl (fun h => eo_mv rfl (ev_if h rfl)) rfl ?_
  refine ngc rfl rfl (fun h => eo_field rfl f38_1 rfl) rfl ?_
  refine ngc rfl rfl (fun h => eo_load 2 rfl s3 (ev_if h rfl) rfl rfl rfl) rfl ?_
  refine ngc rfl rfl (fun h => eo_eql rfl (ev_if h rfl) rfl) rfl ?_
  refine ng rfl rfl (fun h => eo_and rfl (ev_if h rfl) (fun hb => ev_if ⟨h, hb⟩ rfl)) rfl ?_
  refine ne (eo_or rfl rfl (fun hb => ev_if hb rfl)) rfl ?_
  refine ne (eo_as rfl rfl) rfl ?_
  refine go_nil ?_
  refine gq_next ?_
  refine gc_cond rfl (fun hc0 => ?_) (fun hc0 => ?_)
  ·
    have hd0 := (or_t hc0).imp (fun h => of_decide_eq_true h) (fun h => (and_t h).imp (fun h => of_decide_eq_true h) (fun h => of_decide_eq_true h))
    have hlf : isLf f W gx gy b := by
      rcases hd0 with q | q
      · have := Int.mul_pos (show 0 < b.W by omega) (show 0 < b.H by omega); omega
      · exact q
    refine gc_seq ?_
    refine gc_region ?_
    refine ne (eo_mv rfl rfl) rfl ?_
    refine ne (eo_nilChk rfl rfl) rfl ?_
    refine ne (eo_field rfl f64_3 rfl) rfl ?_
    refine ne (eo_load 6 rfl s3 rfl rfl rfl rfl) rfl ?_
    refine ne (eo_add rfl rfl rfl (by omega) (by omega)) rfl ?_
    refine ne (eo_nilChk rfl rfl) rfl ?_
    refine ne (eo_field rfl f64_3 rfl) rfl ?_
    refine nu (xo_store 6 rfl s3 rfl rfl (by first | rfl | exact AS.one) rfl rfl (by simp)) ?_
    rintro _ _ ⟨rfl, rfl⟩
    refine go_nil ?_
    refine gq_next ?_
    refine gc_seq ?_
    refine gc_region ?_
    refine ne (eo_mv rfl rfl) rfl ?_
    refine ne (eo_as rfl rfl) rfl ?_
    refine go_nil ?_
    refine gq_next ?_
    refine gc_ret ?_
    refine gq_block_ret ?_
    refine gq_then_ret ?_
    refine gq_results (res1 rfl rfl) ?_
    rw [div_leaf hlf]
    exact fun W1 hO => ⟨_, [⟨g12, 81, bxV b (.pointer none) (.pointer none)⟩], rfl, ⟨g12, rfl, rfl⟩, (hO.sub ((List.Sublist.cons _ (List.Sublist.cons _ (List.Sublist.cons _ (List.Sublist.cons _ (List.Sublist.cons_cons _ (List.Sublist.cons _ (List.Sublist.cons_cons _ (List.nil_sublist _)))))))))).perm (List.Perm.swap _ _ _)⟩
  ·
    have hd0 := (or_f hc0).imp (fun h => of_decide_eq_false h) (fun h => (and_f h).imp (fun h => of_decide_eq_false h) (fun h => of_decide_eq_false h))
    have hnl : ¬ isLf f W gx gy b := fun q => hd0.2.elim (fun r => r q.1) fun r => r q.2
    refine gc_seq ?_
    refine gc_region ?_
    refine ne (eo_field rfl f38_1 rfl) rfl ?_
    refine ne (eo_load 3 rfl s3 rfl rfl rfl rfl) rfl ?_
    refine ne (eo_field rfl f38_1 rfl) rfl ?_
    refine ne (eo_load 2 rfl s3 rfl rfl rfl rfl) rfl ?_
    refine ne (eo_geq rfl rfl rfl) rfl ?_
    refine ne (eo_as rfl rfl) rfl ?_
    refine go_nil ?_
    refine gq_next ?_
    refine gc_cond rfl (fun hc1 => ?_) (fun hc1 => ?_)
    ·
      have hd1 := of_decide_eq_true hc1
      have hco : isCo f W gx gy b := hd1
      have sq := sq_spec (k := k) ht hnl hk (sp1_co hco) (sp2_co hco)
      obtain ⟨ar1, ar2, ar3⟩ := sq.ar
      have pn1 := sq.pn
      have qn1 := sq.qn
      refine gc_seq ?_
      refine gc_region ?_
      refine ne (eo_field rfl f38_0 rfl) rfl ?_
      refine ne (eo_load 3 rfl s3 rfl rfl rfl rfl) rfl ?_
      refine ne (eo_field rfl f32_0 rfl) rfl ?_
      refine ne (eo_load 5 rfl s3 rfl rfl rfl rfl) rfl ?_
      refine ne (eo_sub rfl rfl rfl (by omega) (by omega)) rfl ?_
      refine ne (eo_field rfl f32_2 rfl) rfl ?_
      refine nu (xo_store 0 rfl s3 rfl rfl (by first | rfl | exact AS.one) rfl rfl (by simp)) ?_
      rintro _ _ ⟨rfl, rfl⟩
      refine go_nil ?_
      refine gq_next ?_
      refine gc_seq ?_
      refine gc_region ?_
      refine ne (eo_field rfl f38_0 rfl) rfl ?_
      refine ne (eo_load 3 rfl s3 rfl rfl rfl rfl) rfl ?_
      refine ne (eo_field rfl f38_1 rfl) rfl ?_
      refine ne (eo_load 3 rfl s3 rfl rfl rfl rfl) rfl ?_
      refine ne (eo_add rfl rfl rfl (by omega) (by omega)) rfl ?_
      refine ne (eo_field rfl f32_0 rfl) rfl ?_
      refine nu (xo_store 1 rfl s3 rfl rfl (by first | rfl | exact AS.one) rfl rfl (by simp)) ?_
      rintro _ _ ⟨rfl, rfl⟩
      refine go_nil ?_
      refine gq_next ?_
      refine gc_region ?_
      refine ne (eo_field rfl f32_0 rfl) rfl ?_
      refine ne (eo_load 5 rfl s3 rfl rfl rfl rfl) rfl ?_
      refine ne (eo_field rfl f32_2 rfl) rfl ?_
      refine ne (eo_load 5 rfl s3 rfl rfl rfl rfl) rfl ?_
      refine ne (eo_add rfl rfl rfl (by omega) (by omega)) rfl ?_
      refine ne (eo_field rfl f32_0 rfl) rfl ?_
      refine ne (eo_load 1 rfl s3 rfl rfl rfl rfl) rfl ?_
      refine ne (eo_sub rfl rfl rfl (by omega) (by omega)) rfl ?_
      refine ne (eo_field rfl f32_2 rfl) rfl ?_
      refine nu (xo_store 1 rfl s3 rfl rfl (by first | rfl | exact AS.one) rfl rfl (by simp)) ?_
      rintro _ _ ⟨rfl, rfl⟩
      refine go_nil ?_
      refine gq_block_end ?_
      refine gq_next ?_
      refine gc_seq ?_
      refine gc_region ?_
      refine ne (eo_mv rfl rfl) rfl ?_
      refine ne (eo_mv rfl rfl) rfl ?_
      refine ne (eo_mv rfl rfl) rfl ?_
      refine ne (eo_loadA 0 rfl a32 rfl rfl rfl rfl) rfl ?_
      refine ne (eo_call rfl en41 rfl (fun W1 hO => red_c _ _ _ _ _ _ _ _ _ _ _ _ _ W1 (hr.old hO (by simpa using hne)) (own_cell hO (List.mem_of_getElem? (i := 6) rfl)) (by omega) (by omega) (by omega) (by omega) sq.sp.pin sq.sp.pd)) rfl ?_
      refine nx (xo_overN 6 rfl en27 rfl rfl (fun W1 hO => ih (redB f W ⟨b.X, b.Y, ((wC f W gx b).1 - b.X), b.H⟩) fd W1 (hr.old hO (by simpa using hne)) (hO.at_ (i := 6) rfl) sq.pt sq.pk (by omega) (by omega))) rfl ?_
      rintro _ _ ⟨Hn114, hT114, rfl⟩
      obtain ⟨gp114, rfl⟩ := hT114.ptr
      refine ne (eo_nilChk rfl rfl) rfl ?_
      refine ne (eo_field rfl f81_1 rfl) rfl ?_
      refine nu (xo_store 4 rfl s65 rfl rfl (by first | rfl | exact AS.one) rfl rfl (by simp)) ?_
      rintro _ _ ⟨rfl, rfl⟩
      refine go_nil ?_
      refine gq_next ?_
      refine gc_seq ?_
      refine gc_region ?_
      refine ne (eo_mv rfl rfl) rfl ?_
      refine ne (eo_mv rfl rfl) rfl ?_
      refine ne (eo_mv rfl rfl) rfl ?_
      refine ne (eo_loadA 1 rfl a32 rfl rfl rfl rfl) rfl ?_
      refine ne (eo_call rfl en41 rfl (fun W1 hO => red_c _ _ _ _ _ _ _ _ _ _ _ _ _ W1 (hr.old hO (by simpa using hne)) (own_cell hO (List.mem_of_getElem? (i := 6) rfl)) (by omega) (by omega) (by omega) (by omega) sq.sp.qin sq.sp.qd)) rfl ?_
      refine nx (xo_overN 6 rfl en27 rfl rfl (fun W1 hO => ih (redB f W ⟨((wC f W gx b).1 + (wC f W gx b).2), b.Y, ((b.X + b.W) - ((wC f W gx b).1 + (wC f W gx b).2)), b.H⟩) (fd + ((cutT f W gx gy k (redB f W ⟨b.X, b.Y, ((wC f W gx b).1 - b.X), b.H⟩)).lvs.length : Int)) W1 (hr.old hO (by simpa using hne)) (hO.at_ (i := 6) rfl) sq.qt sq.qk (by omega) (by omega))) rfl ?_
      rintro _ _ ⟨Hn122, hT122, rfl⟩
      obtain ⟨gp122, rfl⟩ := hT122.ptr
      refine ne (eo_nilChk rfl rfl) rfl ?_
      refine ne (eo_field rfl f81_2 rfl) rfl ?_
      refine nu (xo_store 4 rfl s65 rfl rfl (by first | rfl | exact AS.one) rfl rfl (by simp)) ?_
      rintro _ _ ⟨rfl, rfl⟩
      refine go_nil ?_
      refine gq_next ?_
      refine gc_seq ?_
      refine gc_region ?_
      refine ne (eo_mv rfl rfl) rfl ?_
      refine ne (eo_as rfl rfl) rfl ?_
      refine go_nil ?_
      refine gq_next ?_
      refine gc_ret ?_
      refine gq_results (res1 rfl rfl) ?_
      rw [sq.cut, node_len, ← Int.add_assoc]
      exact fun W1 hO => ⟨_, ⟨g12, 81, bxV b (.pointer (some ⟨gp114, 0, none⟩)) (.pointer (some ⟨gp122, 0, none⟩))⟩ :: (Hn114 ++ Hn122), rfl, ⟨g12, _, _, Hn114, Hn122, rfl, hT114, hT122, rfl⟩, (hO.sub ((List.Sublist.cons _ (List.Sublist.cons _ (List.Sublist.cons _ (List.Sublist.cons _ (List.Sublist.cons_cons _ (List.Sublist.cons _ (List.Sublist.cons_cons _ (List.Sublist.append (List.sublist_append_right _ _) (List.Sublist.refl _))))))))))).perm (List.Perm.swap _ _ _)⟩
    ·
      have hd1 := of_decide_eq_false hc1
      have hco : ¬ isCo f W gx gy b := hd1
      have sq := sq_spec (k := k) ht hnl hk (sp1_ro hco) (sp2_ro hco)
      obtain ⟨ar1, ar2, ar3⟩ := sq.ar
      have pn1 := sq.pn
      have qn1 := sq.qn
      refine gc_seq ?_
      refine gc_region ?_
      refine ne (eo_field rfl f38_0 rfl) rfl ?_
      refine ne (eo_load 2 rfl s3 rfl rfl rfl rfl) rfl ?_
      refine ne (eo_field rfl f32_1 rfl) rfl ?_
      refine ne (eo_load 5 rfl s3 rfl rfl rfl rfl) rfl ?_
      refine ne (eo_sub rfl rfl rfl (by omega) (by omega)) rfl ?_
      refine ne (eo_field rfl f32_3 rfl) rfl ?_
      refine nu (xo_store 0 rfl s3 rfl rfl (by first | rfl | exact AS.one) rfl rfl (by simp)) ?_
      rintro _ _ ⟨rfl, rfl⟩
      refine go_nil ?_
      refine gq_next ?_
      refine gc_seq ?_
      refine gc_region ?_
      refine ne (eo_field rfl f38_0 rfl) rfl ?_
      refine ne (eo_load 2 rfl s3 rfl rfl rfl rfl) rfl ?_
      refine ne (eo_field rfl f38_1 rfl) rfl ?_
      refine ne (eo_load 2 rfl s3 rfl rfl rfl rfl) rfl ?_
      refine ne (eo_add rfl rfl rfl (by omega) (by omega)) rfl ?_
      refine ne (eo_field rfl f32_1 rfl) rfl ?_
      refine nu (xo_store 1 rfl s3 rfl rfl (by first | rfl | exact AS.one) rfl rfl (by simp)) ?_
      rintro _ _ ⟨rfl, rfl⟩
      refine go_nil ?_
      refine gq_next ?_
      refine gc_region ?_
      refine ne (eo_field rfl f32_1 rfl) rfl ?_
      refine ne (eo_load 5 rfl s3 rfl rfl rfl rfl) rfl ?_
      refine ne (eo_field rfl f32_3 rfl) rfl ?_
      refine ne (eo_load 5 rfl s3 rfl rfl rfl rfl) rfl ?_
      refine ne (eo_add rfl rfl rfl (by omega) (by omega)) rfl ?_
      refine ne (eo_field rfl f32_1 rfl) rfl ?_
      refine ne (eo_load 1 rfl s3 rfl rfl rfl rfl) rfl ?_
      refine ne (eo_sub rfl rfl rfl (by omega) (by omega)) rfl ?_
      refine ne (eo_field rfl f32_3 rfl) rfl ?_
      refine nu (xo_store 1 rfl s3 rfl rfl (by first | rfl | exact AS.one) rfl rfl (by simp)) ?_
      rintro _ _ ⟨rfl, rfl⟩
      refine go_nil ?_
      refine gq_block_end ?_
      refine gq_next ?_
      refine gc_seq ?_
      refine gc_region ?_
      refine ne (eo_mv rfl rfl) rfl ?_
      refine ne (eo_mv rfl rfl) rfl ?_
      refine ne (eo_mv rfl rfl) rfl ?_
      refine ne (eo_loadA 0 rfl a32 rfl rfl rfl rfl) rfl ?_
      refine ne (eo_call rfl en41 rfl (fun W1 hO => red_c _ _ _ _ _ _ _ _ _ _ _ _ _ W1 (hr.old hO (by simpa using hne)) (own_cell hO (List.mem_of_getElem? (i := 6) rfl)) (by omega) (by omega) (by omega) (by omega) sq.sp.pin sq.sp.pd)) rfl ?_
      refine nx (xo_overN 6 rfl en27 rfl rfl (fun W1 hO => ih (redB f W ⟨b.X, b.Y, b.W, ((wR f W gy b).1 - b.Y)⟩) fd W1 (hr.old hO (by simpa using hne)) (hO.at_ (i := 6) rfl) sq.pt sq.pk (by omega) (by omega))) rfl ?_
      rintro _ _ ⟨Hn114, hT114, rfl⟩
      obtain ⟨gp114, rfl⟩ := hT114.ptr
      refine ne (eo_nilChk rfl rfl) rfl ?_
      refine ne (eo_field rfl f81_1 rfl) rfl ?_
      refine nu (xo_store 4 rfl s65 rfl rfl (by first | rfl | exact AS.one) rfl rfl (by simp)) ?_
      rintro _ _ ⟨rfl, rfl⟩
      refine go_nil ?_
      refine gq_next ?_
      refine gc_seq ?_
      refine gc_region ?_
      refine ne (eo_mv rfl rfl) rfl ?_
      refine ne (eo_mv rfl rfl) rfl ?_
      refine ne (eo_mv rfl rfl) rfl ?_
      refine ne (eo_loadA 1 rfl a32 rfl rfl rfl rfl) rfl ?_
      refine ne (eo_call rfl en41 rfl (fun W1 hO => red_c _ _ _ _ _ _ _ _ _ _ _ _ _ W1 (hr.old hO (by simpa using hne)) (own_cell hO (List.mem_of_getElem? (i := 6) rfl)) (by omega) (by omega) (by omega) (by omega) sq.sp.qin sq.sp.qd)) rfl ?_
      refine nx (xo_overN 6 rfl en27 rfl rfl (fun W1 hO => ih (redB f W ⟨b.X, ((wR f W gy b).1 + (wR f W gy b).2), b.W, ((b.Y + b.H) - ((wR f W gy b).1 + (wR f W gy b).2))⟩) (fd + ((cutT f W gx gy k (redB f W ⟨b.X, b.Y, b.W, ((wR f W gy b).1 - b.Y)⟩)).lvs.length : Int)) W1 (hr.old hO (by simpa using hne)) (hO.at_ (i := 6) rfl) sq.qt sq.qk (by omega) (by omega))) rfl ?_
      rintro _ _ ⟨Hn122, hT122, rfl⟩
      obtain ⟨gp122, rfl⟩ := hT122.ptr
      refine ne (eo_nilChk rfl rfl) rfl ?_
      refine ne (eo_field rfl f81_2 rfl) rfl ?_
      refine nu (xo_store 4 rfl s65 rfl rfl (by first | rfl | exact AS.one) rfl rfl (by simp)) ?_
      rintro _ _ ⟨rfl, rfl⟩
      refine go_nil ?_
      refine gq_next ?_
      refine gc_seq ?_
      refine gc_region ?_
      refine ne (eo_mv rfl rfl) rfl ?_
      refine ne (eo_as rfl rfl) rfl ?_
      refine go_nil ?_
      refine gq_next ?_
      refine gc_ret ?_
      refine gq_results (res1 rfl rfl) ?_
      rw [sq.cut, node_len, ← Int.add_assoc]
      exact fun W1 hO => ⟨_, ⟨g12, 81, bxV b (.pointer (some ⟨gp114, 0, none⟩)) (.pointer (some ⟨gp122, 0, none⟩))⟩ :: (Hn114 ++ Hn122), rfl, ⟨g12, _, _, Hn114, Hn122, rfl, hT114, hT122, rfl⟩, (hO.sub ((List.Sublist.cons _ (List.Sublist.cons _ (List.Sublist.cons _ (List.Sublist.cons _ (List.Sublist.cons_cons _ (List.Sublist.cons _ (List.Sublist.cons_cons _ (List.Sublist.append (List.sublist_append_right _ _) (List.Sublist.refl _))))))))))).perm (List.Perm.swap _ _ _)⟩

theorem div_x (g : Nat) (W H : Int) (A : Option Addr) (c : Nat) (f : Nat → Bool) (gx gy : Int) (w1 : 1 ≤ W) (w2 : W ≤ 4096) (h1 : 1 ≤ H) (h2 : H ≤ 4096) (hne : bl A ≠ g) : ∀ (k : Nat) (b : Bx) (fd : Int) (w : World) (hr : Rd w A (tab ((W + 1) * (H + 1)).toNat (iv .i32 (sumG (bw f) W)))) (hg : w.heap[g]? = some (.cells [.int .i64 (W + 1), .slice A ((W + 1) * (H + 1)).toNat c, .int .i64 gx, .int .i64 gy, .int .i64 fd].toArray 64 (0, 0))) (ht : Tg f W H b) (hk : b.W + b.H ≤ (k : Int)) (f0 : 0 ≤ fd) (f1 : fd + b.W * b.H ≤ 4096), Calls Try.prog 27 #[.pointer (some ⟨g, 0, none⟩), .agg #[.int .i64 b.X, .int .i64 b.Y, .int .i64 b.W, .int .i64 b.H]] w (fun e w' => ∃ v Hn, e = .returned v ∧ TR 81 (cutT f W gx gy k b) v Hn ∧ Ow [g] w w' (⟨g, 64, [.int .i64 (W + 1), .slice A ((W + 1) * (H + 1)).toNat c, .int .i64 gx, .int .i64 gy, .int .i64 (fd + ((cutT f W gx gy k b).lvs.length : Int))]⟩ :: Hn))
  | 0, b, fd, w, hr, hg, ht, hk, f0, f1 => by have := ht.red.pos; have hk' : b.W + b.H ≤ ((0 : Nat) : Int) := hk; exfalso; omega
  | k + 1, b, fd, w, hr, hg, ht, hk, f0, f1 => div_step g W H A c f gx gy k b fd w (div_x g W H A c f gx gy w1 w2 h1 h2 hne k) w1 w2 h1 h2 hne hr hg ht (by push_cast at hk; exact hk) f0 f1

/-- (*barscan/regions.tree[barscan/api.Box]).leaves -/
theorem leaf_x (g : Nat) (b : Bx) (s : AS) (l : List Bx) (w : World)  (hn : g ∉ s.ids) (hc : ∀ (k : Nat) (u : Value), (bxV b (.pointer none) (.pointer none))[k]? = some u → w.cell? ⟨g, k, none⟩ = some u) (hs : s.Ok 4 l.length (tab (l.length * 4) (iv .i64 (bxG l)))) (hO0 : Ow s.ids w w (s.blks 32 (tab (l.length * 4) (iv .i64 (bxG l))))) (hl : l.length ≤ 1073741824) :
    Calls Try.prog 28 #[.pointer (some ⟨g, 0, none⟩), s.val l.length] w (fun e w' => ∃ s' : AS, e = .returned (s'.val (l ++ [b]).length) ∧ s'.Ok 4 (l ++ [b]).length (tab ((l ++ [b]).length * 4) (iv .i64 (bxG (l ++ [b])))) ∧ Ow s.ids w w' (s'.blks 32 (tab ((l ++ [b]).length * 4) (iv .i64 (bxG (l ++ [b])))))) := by
  refine calls_enter (N := ⟨28, []⟩) s.ids (s.blks 32 (tab (l.length * 4) (iv .i64 (bxG l)))) Try.func28 rfl rfl rfl hO0 ?_
  refine gc_seq ?_
  refine gc_region ?_
  refine ne (eo_as rfl rfl) rfl ?_
  refine go_nil ?_
  refine gq_next ?_
  refine gc_seq ?_
  refine gc_seq ?_
  refine gc_region ?_
  refine ne (eo_mv rfl rfl) rfl ?_
  refine ne (eo_nilChk rfl rfl) rfl ?_
  refine ne (eo_field rfl f81_1 rfl) rfl ?_
  refine ne (eo_load_old rfl s65 rfl (hc 4 _ rfl) hn) rfl ?_
  refine ne (eo_ptnil rfl rfl Try.underlying65) rfl ?_
  refine go_nil ?_
  refine gq_next ?_
  refine gc_cond rfl (fun hc0 => ?_) (fun hc0 => ?_)
  ·
    refine gc_seq ?_
    refine gc_region ?_
    refine ne (eo_mv rfl rfl) rfl ?_
    refine ne (eo_mv rfl rfl) rfl ?_
    refine ne (eo_nilChk rfl rfl) rfl ?_
    refine ne (eo_field rfl f81_0 rfl) rfl ?_
    refine ne (eo_loadAO (cs := [.int .i64 b.X, .int .i64 b.Y, .int .i64 b.W, .int .i64 b.H]) rfl a32 rfl hc hn rfl (by intro j hj; rcases j with _ | j; (· rfl); rcases j with _ | j; (· rfl); rcases j with _ | j; (· rfl); rcases j with _ | j; (· rfl); exact absurd hj (by omega))) rfl ?_
    refine nx (xo_lit rfl rfl lit27_1) rfl ?_
    rintro _ _ ⟨g15, rfl, rfl⟩
    refine nx (xo_appG (k' := (l ++ [b]).length) (G := (bxG (l ++ [b]))) [b.X, b.Y, b.W, b.H] ([⟨g15, 32, [.int .i64 b.X, .int .i64 b.Y, .int .i64 b.W, .int .i64 b.H]⟩]) rfl rfl Try.underlying27 en_32 rfl hs rfl rfl rfl bxG_pre bxG_new hl (by decide) (by simp)) rfl ?_
    rintro _ _ ⟨s16, hs16, rfl, rfl⟩
    refine ne (eo_as rfl rfl) rfl ?_
    refine go_nil ?_
    refine gq_next ?_
    refine gc_ret ?_
    refine gq_then_ret ?_
    refine gq_results (res1 rfl rfl) ?_
    exact fun W1 hO => ⟨s16, rfl, hs16, hO.sub (List.sublist_append_right _ _)⟩
  ·
    exact absurd hc0 (by simp)

/-- (*barscan/regions.tree[barscan/api.Box]).leaves -/
theorem node_x (g gl gr : Nat) (b : Bx) (L R : BT) (s : AS) (l : List Bx) (w : World)  (i1 : ∀ (v : Value) (s : AS) (l : List Bx) (w : World), TAt w s.ids L v → s.Ok 4 l.length (tab (l.length * 4) (iv .i64 (bxG l))) → Ow s.ids w w (s.blks 32 (tab (l.length * 4) (iv .i64 (bxG l)))) → (l ++ L.lvs).length ≤ 1073741824 → Calls Try.prog 28 #[v, s.val l.length] w (fun e w' => ∃ s' : AS, e = .returned (s'.val (l ++ L.lvs).length) ∧ s'.Ok 4 (l ++ L.lvs).length (tab ((l ++ L.lvs).length * 4) (iv .i64 (bxG (l ++ L.lvs)))) ∧ Ow s.ids w w' (s'.blks 32 (tab ((l ++ L.lvs).length * 4) (iv .i64 (bxG (l ++ L.lvs))))))) (i2 : ∀ (v : Value) (s : AS) (l : List Bx) (w : World), TAt w s.ids R v → s.Ok 4 l.length (tab (l.length * 4) (iv .i64 (bxG l))) → Ow s.ids w w (s.blks 32 (tab (l.length * 4) (iv .i64 (bxG l)))) → (l ++ R.lvs).length ≤ 1073741824 → Calls Try.prog 28 #[v, s.val l.length] w (fun e w' => ∃ s' : AS, e = .returned (s'.val (l ++ R.lvs).length) ∧ s'.Ok 4 (l ++ R.lvs).length (tab ((l ++ R.lvs).length * 4) (iv .i64 (bxG (l ++ R.lvs)))) ∧ Ow s.ids w w' (s'.blks 32 (tab ((l ++ R.lvs).length * 4) (iv .i64 (bxG (l ++ R.lvs))))))) (hn : g ∉ s.ids) (hc : ∀ (k : Nat) (u : Value), (bxV b (.pointer (some ⟨gl, 0, none⟩)) (.pointer (some ⟨gr, 0, none⟩)))[k]? = some u → w.cell? ⟨g, k, none⟩ = some u) (hL : TAt w s.ids L (.pointer (some ⟨gl, 0, none⟩))) (hR : TAt w s.ids R (.pointer (some ⟨gr, 0, none⟩))) (hs : s.Ok 4 l.length (tab (l.length * 4) (iv .i64 (bxG l)))) (hO0 : Ow s.ids w w (s.blks 32 (tab (l.length * 4) (iv .i64 (bxG l))))) (hl : (l ++ L.lvs ++ R.lvs).length ≤ 1073741824) :
    Calls Try.prog 28 #[.pointer (some ⟨g, 0, none⟩), s.val l.length] w (fun e w' => ∃ s' : AS, e = .returned (s'.val (l ++ L.lvs ++ R.lvs).length) ∧ s'.Ok 4 (l ++ L.lvs ++ R.lvs).length (tab ((l ++ L.lvs ++ R.lvs).length * 4) (iv .i64 (bxG (l ++ L.lvs ++ R.lvs)))) ∧ Ow s.ids w w' (s'.blks 32 (tab ((l ++ L.lvs ++ R.lvs).length * 4) (iv .i64 (bxG (l ++ L.lvs ++ R.lvs)))))) := by
  refine calls_enter (N := ⟨28, []⟩) s.ids (s.blks 32 (tab (l.length * 4) (iv .i64 (bxG l)))) Try.func28 rfl rfl rfl hO0 ?_
  refine gc_seq ?_
  refine gc_region ?_
  refine ne (eo_as rfl rfl) rfl ?_
  refine go_nil ?_
  refine gq_next ?_
  refine gc_seq ?_
  refine gc_seq ?_
  refine gc_region ?_
  refine ne (eo_mv rfl rfl) rfl ?_
  refine ne (eo_nilChk rfl rfl) rfl ?_
  refine ne (eo_field rfl f81_1 rfl) rfl ?_
  refine ne (eo_load_old rfl s65 rfl (hc 4 _ rfl) hn) rfl ?_
  refine ne (eo_ptnil rfl rfl Try.underlying65) rfl ?_
  refine go_nil ?_
  refine gq_next ?_
  refine gc_cond rfl (fun hc0 => ?_) (fun hc0 => ?_)
  ·
    exact absurd hc0 (by simp)
  ·
    refine gc_skip ?_
    refine gq_next ?_
    refine gc_seq ?_
    refine gc_drawK (H0 := []) [(0, true), (1, true), (2, true), (3, true), (4, true), (5, true), (6, true), (7, true), (8, false), (9, false), (10, false), (11, false)] (List.nil_sublist _) (by kernel_rfl) (by kernel_rfl) ?_
    refine me rfl (eo_mv rfl rfl) rfl ?_
    refine me rfl (eo_nilChk rfl rfl) rfl ?_
    refine me rfl (eo_field rfl f81_2 rfl) rfl ?_
    refine me rfl (eo_load_old rfl s65 rfl (hc 5 _ rfl) hn) rfl ?_
    refine me rfl (eo_mv rfl rfl) rfl ?_
    refine me rfl (eo_nilChk rfl rfl) rfl ?_
    refine me rfl (eo_field rfl f81_1 rfl) rfl ?_
    refine me rfl (eo_load_old rfl s65 rfl (hc 4 _ rfl) hn) rfl ?_
    refine ma rfl (xo_of_eo (eo_mv rfl rfl)) rfl ?_
    rintro _ _ ⟨rfl, rfl⟩
    refine ⟨(List.nil_sublist _), ?_⟩
    refine ma rfl (xo_grow [] rfl rfl en28 rfl (fun W1 hO => i1 _ s l W1 (hL.stay (F := []) (xs := tab (l.length * 4) (iv .i64 (bxG l))) hO) hs (AS.start (F := []) hO) (by simp only [List.length_append] at hl ⊢; omega))) rfl ?_
    rintro _ _ ⟨s26, hs26, rfl, rfl⟩
    refine ⟨(List.nil_sublist _), ?_⟩
    refine ma rfl (xo_grow [] rfl rfl en28 rfl (fun W1 hO => i2 _ s26 (l ++ L.lvs) W1 (hR.stay (F := []) (xs := tab ((l ++ L.lvs).length * 4) (iv .i64 (bxG (l ++ L.lvs)))) hO) hs26 (AS.start (F := []) hO) (by simp only [List.length_append] at hl ⊢; omega))) rfl ?_
    rintro _ _ ⟨s27, hs27, rfl, rfl⟩
    refine ⟨(List.nil_sublist _), ?_⟩
    refine ma rfl (xo_of_eo (eo_as rfl rfl)) rfl ?_
    rintro _ _ ⟨rfl, rfl⟩
    refine ⟨(List.nil_sublist _), ?_⟩
    refine gm_nil ?_
    refine gq_nq ?_
    refine gq_next ?_
    refine gc_ret ?_
    refine gq_results (res1 rfl rfl) ?_
    exact fun W1 hO => ⟨s27, rfl, hs27, hO⟩

theorem leaves_x : ∀ (T : BT) (v : Value) (s : AS) (l : List Bx) (w : World), TAt w s.ids T v → s.Ok 4 l.length (tab (l.length * 4) (iv .i64 (bxG l))) → Ow s.ids w w (s.blks 32 (tab (l.length * 4) (iv .i64 (bxG l)))) → (l ++ T.lvs).length ≤ 1073741824 → Calls Try.prog 28 #[v, s.val l.length] w (fun e w' => ∃ s' : AS, e = .returned (s'.val (l ++ T.lvs).length) ∧ s'.Ok 4 (l ++ T.lvs).length (tab ((l ++ T.lvs).length * 4) (iv .i64 (bxG (l ++ T.lvs)))) ∧ Ow s.ids w w' (s'.blks 32 (tab ((l ++ T.lvs).length * 4) (iv .i64 (bxG (l ++ T.lvs)))))) := by
  intro T
  induction T with
  | leaf b =>
    rintro v s l w ⟨g, rfl, hn, hc⟩ hs hO hl
    exact leaf_x g b s l w hn hc hs hO (by simp only [BT.lvs, List.length_append] at hl; omega)
  | node b L R i1 i2 =>
    rintro v s l w ⟨g, vl, vr, rfl, hn, hc, hL, hR⟩ hs hO hl
    obtain ⟨gl, rfl⟩ := hL.ptr
    obtain ⟨gr, rfl⟩ := hR.ptr
    have e : l ++ (BT.node b L R).lvs = l ++ L.lvs ++ R.lvs := (List.append_assoc _ _ _).symm
    rw [e] at hl ⊢
    exact node_x g gl gr b L R s l w i1 i2 hn hc hL hR hs hO hl

end Go.Proofs.Ytnmiljloifbjeaa
