/-
  The walks of the functions of package regions and of the document's answers (part A): what each call returns, at every argument.
-/
import Derived.Test.YtnmiljloifbjeaaProg
import Derived.Test.YtnmiljloifbjeaaPb
namespace Go.Proofs.Ytnmiljloifbjeaa
open Go.RowKit Go.Eng

open Go.Bs
theorem f24_0 : FieldAt Try.prog 24 0 0 := ⟨_, _, 0, Try.underlying24, rfl, by kernel_rfl, rfl⟩
theorem s3 : TyS Try.prog 3 := ⟨⟨_, Try.underlying3, rfl⟩, by kernel_rfl⟩
theorem f24_1 : FieldAt Try.prog 24 1 1 := ⟨_, _, 0, Try.underlying24, rfl, by kernel_rfl, rfl⟩
theorem en38 : Ent Try.prog 38 := ent_of Try.func38 (by kernel_rfl) rfl
theorem f24_2 : FieldAt Try.prog 24 2 2 := ⟨_, _, 0, Try.underlying24, rfl, by kernel_rfl, rfl⟩
theorem s22 : TyS Try.prog 22 := ⟨⟨_, Try.underlying22, rfl⟩, by kernel_rfl⟩
theorem sl22 : TySl Try.prog 22 4 1 := ⟨Try.underlying22, by kernel_rfl⟩
theorem s4 : TyS Try.prog 4 := ⟨⟨_, Try.underlying4, rfl⟩, by kernel_rfl⟩
theorem a24 : TyA Try.prog 24 3 := ⟨⟨_, Try.underlying24, rfl⟩, by kernel_rfl⟩
theorem en24 : Ent Try.prog 24 := ent_of Try.func24 (by kernel_rfl) rfl
theorem b38_01 (x0 : Int) (x1 : Int) (W : World) : (Instr.build 38 #[(0, .int .i64 x0), (1, .int .i64 x1)]).run Try.prog W = .ok (.agg #[.int .i64 x0, .int .i64 x1]) W := by kernel_rfl
theorem en47 : Ent Try.prog 47 := ent_of Try.func47 (by kernel_rfl) rfl
theorem z32 : TyZ Try.prog 32 [.int .i64 0, .int .i64 0, .int .i64 0, .int .i64 0] := .inl (by kernel_rfl)
theorem z3 : TyZ Try.prog 3 [.int .i64 0] := .inr ⟨_, rfl, rfl, by kernel_rfl⟩
theorem en39 : Ent Try.prog 39 := ent_of Try.func39 (by kernel_rfl) rfl
theorem z38 : TyZ Try.prog 38 [.int .i64 0, .int .i64 0] := .inl (by kernel_rfl)
theorem a38 : TyA Try.prog 38 2 := ⟨⟨_, Try.underlying38, rfl⟩, by kernel_rfl⟩
theorem f38_1 : FieldAt Try.prog 38 1 1 := ⟨_, _, 0, Try.underlying38, rfl, by kernel_rfl, rfl⟩
theorem f38_0 : FieldAt Try.prog 38 0 0 := ⟨_, _, 0, Try.underlying38, rfl, by kernel_rfl, rfl⟩
theorem b32_  (W : World) : (Instr.build 32 #[]).run Try.prog W = .ok (.agg #[.int .i64 0, .int .i64 0, .int .i64 0, .int .i64 0]) W := by kernel_rfl
theorem a32 : TyA Try.prog 32 4 := ⟨⟨_, Try.underlying32, rfl⟩, by kernel_rfl⟩
theorem b32_0123 (x0 : Int) (x1 : Int) (x2 : Int) (x3 : Int) (W : World) : (Instr.build 32 #[(0, .int .i64 x0), (1, .int .i64 x1), (2, .int .i64 x2), (3, .int .i64 x3)]).run Try.prog W = .ok (.agg #[.int .i64 x0, .int .i64 x1, .int .i64 x2, .int .i64 x3]) W := by kernel_rfl

/-- barscan/raster.possible -/
theorem possible_c (a b : Int) (w : World) :
    Calls Try.prog 38 #[.int .i64 a, .int .i64 b] w fun e w' => e = .returned (.bool (fitsB a b)) ∧ Ext w w' := by
  refine calls_enter (N := ⟨25, []⟩) ([]) ([]) Try.func38 rfl rfl rfl (Ow.start _) ?_
  refine gc_seq ?_
  refine gc_region ?_
  refine ne (eo_as rfl rfl) rfl ?_
  refine go_nil ?_
  refine gq_next ?_
  refine gc_seq ?_
  refine gc_region ?_
  refine ne (eo_mv rfl rfl) rfl ?_
  refine ne (eo_geq rfl rfl rfl) rfl ?_
  refine ne (eo_mv rfl rfl) rfl ?_
  refine ng rfl rfl (fun h => eo_mv rfl rfl) rfl ?_
  refine ng rfl rfl (fun h => eo_leq rfl (ev_if h rfl) rfl) rfl ?_
  refine ne (eo_and rfl rfl (fun hb => ev_if hb rfl)) rfl ?_
  refine ne (eo_mv rfl rfl) rfl ?_
  refine ng rfl rfl (fun h => eo_mv rfl rfl) rfl ?_
  refine ng rfl rfl (fun h => eo_geq rfl (ev_if h rfl) rfl) rfl ?_
  refine ne (eo_and rfl rfl (fun hb => ev_if hb rfl)) rfl ?_
  refine ne (eo_mv rfl rfl) rfl ?_
  refine ng rfl rfl (fun h => eo_mv rfl rfl) rfl ?_
  refine ng rfl rfl (fun h => eo_leq rfl (ev_if h rfl) rfl) rfl ?_
  refine ne (eo_and rfl rfl (fun hb => ev_if hb rfl)) rfl ?_
  refine ne (eo_mv rfl rfl) rfl ?_
  refine ng rfl rfl (fun h => eo_mv rfl rfl) rfl ?_
  refine ng rfl rfl (fun h => eo_mv rfl rfl) rfl ?_
  refine ng rfl rfl (fun h => eo_mul rfl (ev_if h rfl) (ev_if h rfl) (mul_lo h) (mul_hi h)) rfl ?_
  refine ng rfl rfl (fun h => eo_leq rfl (ev_if h rfl) rfl) rfl ?_
  refine ne (eo_and rfl rfl (fun hb => ev_if hb rfl)) rfl ?_
  refine ne (eo_as rfl rfl) rfl ?_
  refine go_nil ?_
  refine gq_next ?_
  refine gc_ret ?_
  refine gq_results (res1 rfl rfl) ?_
  exact fun W hO => ⟨ret_bool (by simp [fitsB, Bool.and_assoc]), hO.toExt⟩

/-- barscan/raster.Check -/
theorem check_c (W H : Int) (A : Option Addr) (n c : Nat) (w : World) :
    Calls Try.prog 24 #[.agg #[.int .i64 W, .int .i64 H, .slice A n c]] w fun e w' => e = .returned (.int .i64 (chk W H n)) ∧ Ext w w' := by
  refine calls_enter (N := ⟨20, []⟩) ([]) ([]) Try.func24 rfl rfl rfl (Ow.start _) ?_
  refine gc_seq ?_
  refine gc_region ?_
  refine nx (xo_boxA rfl rfl) rfl ?_
  rintro _ _ ⟨g1, rfl, rfl⟩
  refine ne (eo_as rfl rfl) rfl ?_
  refine go_nil ?_
  refine gq_next ?_
  refine gc_seq ?_
  refine gc_seq ?_
  refine gc_region ?_
  refine ne (eo_field rfl f24_0 rfl) rfl ?_
  refine ne (by first | exact eo_load 0 rfl s3 rfl rfl rfl rfl | exact eo_load 1 rfl s3 rfl rfl rfl rfl | exact eo_load 2 rfl s3 rfl rfl rfl rfl | exact eo_load 3 rfl s3 rfl rfl rfl rfl | exact eo_load 4 rfl s3 rfl rfl rfl rfl | exact eo_load 5 rfl s3 rfl rfl rfl rfl) rfl ?_
  refine ne (eo_field rfl f24_1 rfl) rfl ?_
  refine ne (by first | exact eo_load 0 rfl s3 rfl rfl rfl rfl | exact eo_load 1 rfl s3 rfl rfl rfl rfl | exact eo_load 2 rfl s3 rfl rfl rfl rfl | exact eo_load 3 rfl s3 rfl rfl rfl rfl | exact eo_load 4 rfl s3 rfl rfl rfl rfl | exact eo_load 5 rfl s3 rfl rfl rfl rfl) rfl ?_
  refine ne (eo_call rfl en38 rfl (fun W _ => possible_c _ _ W)) rfl ?_
  refine ne (eo_not rfl rfl) rfl ?_
  refine ne (eo_mv rfl rfl) rfl ?_
  refine ng rfl rfl (fun h => eo_field rfl f24_2 rfl) rfl ?_
  refine ng rfl rfl (fun h => by first | exact eo_load 0 rfl s22 (ev_if h rfl) rfl rfl rfl | exact eo_load 1 rfl s22 (ev_if h rfl) rfl rfl rfl | exact eo_load 2 rfl s22 (ev_if h rfl) rfl rfl rfl | exact eo_load 3 rfl s22 (ev_if h rfl) rfl rfl rfl | exact eo_load 4 rfl s22 (ev_if h rfl) rfl rfl rfl | exact eo_load 5 rfl s22 (ev_if h rfl) rfl rfl rfl) rfl ?_
  refine ng rfl rfl (fun h => eo_len rfl Try.underlying22 (ev_if h rfl)) rfl ?_
  refine ng rfl rfl (fun h => eo_field rfl f24_0 rfl) rfl ?_
  refine ng rfl rfl (fun h => by first | exact eo_load 0 rfl s3 (ev_if h rfl) rfl rfl rfl | exact eo_load 1 rfl s3 (ev_if h rfl) rfl rfl rfl | exact eo_load 2 rfl s3 (ev_if h rfl) rfl rfl rfl | exact eo_load 3 rfl s3 (ev_if h rfl) rfl rfl rfl | exact eo_load 4 rfl s3 (ev_if h rfl) rfl rfl rfl | exact eo_load 5 rfl s3 (ev_if h rfl) rfl rfl rfl) rfl ?_
  refine ng rfl rfl (fun h => eo_field rfl f24_1 rfl) rfl ?_
  refine ng rfl rfl (fun h => by first | exact eo_load 0 rfl s3 (ev_if h rfl) rfl rfl rfl | exact eo_load 1 rfl s3 (ev_if h rfl) rfl rfl rfl | exact eo_load 2 rfl s3 (ev_if h rfl) rfl rfl rfl | exact eo_load 3 rfl s3 (ev_if h rfl) rfl rfl rfl | exact eo_load 4 rfl s3 (ev_if h rfl) rfl rfl rfl | exact eo_load 5 rfl s3 (ev_if h rfl) rfl rfl rfl) rfl ?_
  refine ng rfl rfl (fun h => eo_mul rfl (ev_if h rfl) (ev_if h rfl) (nfits_lo h) (nfits_hi h)) rfl ?_
  refine ng rfl rfl (fun h => eo_neq rfl (ev_if h rfl) (ev_if h rfl)) rfl ?_
  refine ne (eo_or rfl rfl (fun hb => ev_if hb rfl)) rfl ?_
  refine go_nil ?_
  refine gq_next ?_
  refine gc_cond rfl (fun hc19 => ?_) (fun hc19 => ?_)
  ·
    refine gc_seq ?_
    refine gc_region ?_
    refine ne (eo_as rfl rfl) rfl ?_
    refine go_nil ?_
    refine gq_next ?_
    refine gc_ret ?_
    refine gq_then_ret ?_
    refine gq_results (res1 rfl rfl) ?_
    first
      | exact fun W' hO => ⟨ret_int (chk_no (vld_no hc19)).symm, hO.toExt⟩
      | exact fun W' hO => ⟨ret_int (chk_ok (vld_yes hc19)).symm, hO.toExt⟩
  ·
    refine gc_skip ?_
    refine gq_next ?_
    refine gc_seq ?_
    refine gc_region ?_
    refine ne (eo_as rfl rfl) rfl ?_
    refine go_nil ?_
    refine gq_next ?_
    refine gc_ret ?_
    refine gq_results (res1 rfl rfl) ?_
    first
      | exact fun W' hO => ⟨ret_int (chk_no (vld_no hc19)).symm, hO.toExt⟩
      | exact fun W' hO => ⟨ret_int (chk_ok (vld_yes hc19)).symm, hO.toExt⟩

/-- barscan/raster.dark_1 -/
theorem dark_seq (W H : Int) (A : Option Addr) (n c : Nat) (f : Nat → Bool) (g : Nat) (Y : List Nat) (w : World) (hg : w.heap[g]? = some (.cells [.int .i64 W, .int .i64 H, .slice A n c].toArray 24 (0, 0))) (hgy : g ∉ Y) (hr : Rd w A (tab n (bv f))) (hAy : 0 < n → bl A ∉ Y) (hAg : 0 < n → bl A ≠ g) :
    SeqStopsK Fence.wide 2 Try.prog 47 #[.pointer (some ⟨g, 0, none⟩)] (fun x : Int × Int => #[.agg #[.int .i64 x.1, .int .i64 x.2]]) (KX Y w.heap.size) (fun xs => xs = dotsV W H n f) (fun xs => ∃ i, i < n ∧ f i = true ∧ vldB W H n = true ∧ xs = dotsL W f i ++ [((i : Int) % W, (i : Int) / W)]) (n + 1) w := by
  intro l J Jx W1 hb hJ hJx hY h0
  have hg1 := (hb.block g (lt_of_block hg)).trans hg
  refine callsIn_wide.2 (calls_enter (N := ⟨32, []⟩) (vs := [.func (.yield l) #[] #[], .pointer (some ⟨g, 0, none⟩)]) [g] [⟨g, 24, [.int .i64 W, .int .i64 H, .slice A n c]⟩] Try.func47 rfl rfl rfl (ow_one hg1) ?_)
  refine gc_seq ?_
  refine gc_seq ?_
  refine gc_region ?_
  refine ne (by first | exact eo_loadA 0 rfl a24 rfl rfl rfl rfl | exact eo_loadA 1 rfl a24 rfl rfl rfl rfl | exact eo_loadA 2 rfl a24 rfl rfl rfl rfl | exact eo_loadA 3 rfl a24 rfl rfl rfl rfl | exact eo_loadA 4 rfl a24 rfl rfl rfl rfl | exact eo_loadA 5 rfl a24 rfl rfl rfl rfl) rfl ?_
  refine ne (eo_call rfl en24 rfl (fun W _ => check_c _ _ _ _ _ W)) rfl ?_
  refine ne (eo_neq rfl rfl rfl) rfl ?_
  refine go_nil ?_
  refine gq_next ?_
  refine gc_cond rfl (fun hc7 => ?_) (fun hc7 => ?_)
  ·
    replace hc7 := of_decide_eq_true hc7
    refine gc_ret ?_
    refine gq_then_ret ?_
    refine gq_results (res0 rfl) ?_
    first
      | exact fun W' hO => ⟨⟨_, rfl⟩, .inl ⟨[], by rw [dotsV, if_neg (by have h7 := decide_eq_true hc7; rw [chk_ne] at h7; simpa using h7)], abides_ext hJ h0 (ext_one hg1 hO)⟩⟩
      | exact fun W' hO => ⟨⟨_, rfl⟩, .inl ⟨_, by rw [dotsV, if_pos hv, show i = n by omega], abides_ext hJ hj (ext_one hg2 hO)⟩⟩
  ·
    replace hc7 := of_decide_eq_false hc7
    have hv : vldB W H n = true := by
      have h7 := decide_eq_false hc7
      rw [chk_ne] at h7
      simpa using h7
    obtain ⟨v1, v2, v3, v4, v5, v6⟩ := vldB_iff.1 hv
    refine gc_skip ?_
    refine gq_next ?_
    refine gc_seq ?_
    refine gc_region ?_
    refine ne (eo_field rfl f24_2 rfl) rfl ?_
    refine ne (by first | exact eo_load 0 rfl s22 rfl rfl rfl rfl | exact eo_load 1 rfl s22 rfl rfl rfl rfl | exact eo_load 2 rfl s22 rfl rfl rfl rfl | exact eo_load 3 rfl s22 rfl rfl rfl rfl | exact eo_load 4 rfl s22 rfl rfl rfl rfl | exact eo_load 5 rfl s22 rfl rfl rfl rfl) rfl ?_
    refine ne (eo_len rfl Try.underlying22 rfl) rfl ?_
    refine ne (eo_mv rfl rfl) rfl ?_
    refine go_nil ?_
    refine gq_next ?_
    refine gc_block ?_
    refine gc_ghost (fun m a W' => ∃ i : Nat, m = n - i ∧ i ≤ n ∧ Fit ⟨32, []⟩ a [(0, .func (.yield l) #[] #[]), (1, .pointer (some ⟨g, 0, none⟩)), (9, .slice A n c), (10, .int .i64 n), (11, .int .i64 (i : Int))] ∧ J (dotsL W f i) W' ∧ KX Y w.heap.size w W') n (fun a W' hF hO => ⟨0, rfl, by omega, hF.weak ⟨rfl, rfl, rfl, rfl, rfl, trivial⟩, abides_ext hJ h0 (ext_one hg1 hO), (KX.of_ext hb (Nat.le_refl _)).trans (KX.of_ext (ext_one hg1 hO) hb.size)⟩) ?_
    rintro m a W2 ⟨i, rfl, hi, hF, hj, hk⟩
    have hg2 := hk.block hg (lt_of_block hg) hgy
    have hr2 := hk.rd hr (Nat.le_refl _) (by simpa using hAy)
    refine (?_ : GC Try.prog ⟨32, []⟩ [g] W2 _ _ [(0, .func (.yield l) #[] #[]), (1, .pointer (some ⟨g, 0, none⟩)), (9, .slice A n c), (10, .int .i64 n), (11, .int .i64 (i : Int))] [⟨g, 24, [.int .i64 W, .int .i64 H, .slice A n c]⟩]) a W2 hF (ow_one hg2)
    refine gc_seq ?_
    refine gc_region ?_
    refine ne (eo_lss rfl rfl rfl) rfl ?_
    refine go_nil ?_
    refine gq_next ?_
    refine gc_seq ?_
    refine gc_cond rfl (fun hc12 => ?_) (fun hc12 => ?_)
    ·
      replace hc12 := of_decide_eq_true hc12
      refine gc_skip ?_
      refine gq_next ?_
      refine gc_seq ?_
      refine gc_block ?_
      refine gc_seq ?_
      refine gc_region ?_
      refine ne (eo_mv rfl rfl) rfl ?_
      refine ne (by first | exact eo_indexR rfl sl22 rfl rfl hr2 (by simp) (by omega) (by omega) | exact eo_index0 rfl sl22 rfl rfl (by omega) (by omega) | exact eo_index rfl sl22 rfl rfl (by omega) (by omega)) rfl ?_
      refine ne (by first | exact eo_load_old rfl s4 rfl (Rd.tabb hr2 (by omega)) (by simpa using hAg (by omega)) | exact eo_getb 0 rfl s4 rfl rfl (by omega) | exact eo_getb 1 rfl s4 rfl rfl (by omega) | exact eo_getb 2 rfl s4 rfl rfl (by omega) | exact eo_getb 3 rfl s4 rfl rfl (by omega) | exact eo_getb 4 rfl s4 rfl rfl (by omega) | exact eo_getb 5 rfl s4 rfl rfl (by omega)) rfl ?_
      refine ne (eo_as rfl rfl) rfl ?_
      refine ne (eo_as rfl rfl) rfl ?_
      refine go_nil ?_
      refine gq_next ?_
      refine gc_seq ?_
      cases hb : f i
      ·
        refine gc_draw [] [0, 1, 2, 3, 4, 5, 6, 7, 8, 9, 10, 11] [] [12, 13, 14] (by kernel_rfl) (by kernel_rfl) ?_
        refine gp_nil ?_
        refine de rfl (eo_mv (v := .bool false) rfl (look_bool rfl hb)) rfl ?_
        refine de rfl (eo_mv rfl rfl) rfl ?_
        refine dgs rfl rfl rfl (by decide) rfl ?_
        refine dgs rfl rfl rfl (by decide) rfl ?_
        refine dgs rfl rfl rfl (by decide) rfl ?_
        refine dgs rfl rfl rfl (by decide) rfl ?_
        refine dgs rfl rfl rfl (by decide) rfl ?_
        refine dgs rfl rfl rfl (by decide) rfl ?_
        refine dgs rfl rfl rfl (by decide) rfl ?_
        refine dgs rfl rfl rfl (by decide) rfl ?_
        refine dgs rfl rfl rfl (by decide) rfl ?_
        refine dgs rfl rfl rfl (by decide) rfl ?_
        refine ge_nil ?_
        refine ga_nil ?_
        refine igs rfl rfl rfl (by decide) rfl ?_
        refine igs rfl rfl rfl (by decide) rfl ?_
        refine ie rfl (eo_and (b2 := false) rfl rfl (fun h => by cases h)) rfl ?_
        refine gi_nil ?_
        refine gq_nq ?_
        refine gq_next ?_
        refine gc_cond rfl (fun hc30 => ?_) (fun hc30 => ?_)
        ·
          exact absurd hc30 (by decide)
        ·
          refine gc_skip ?_
          refine gq_block_end ?_
          refine gq_next ?_
          refine gc_region ?_
          refine ne (eo_add rfl rfl rfl (by omega) (by omega)) rfl ?_
          refine ne (eo_mv rfl rfl) rfl ?_
          refine go_nil ?_
          exact fun a3 W3 hF3 hO3 => ⟨_, by omega, i + 1, rfl, by omega, hF3.weak ⟨rfl, rfl, rfl, rfl, rfl, trivial⟩, by rw [dotsL_no hb]; exact abides_ext hJ hj (ext_one hg2 hO3), hk.trans (KX.of_ext (ext_one hg2 hO3) hk.size)⟩
      ·
        refine gc_draw [] [0, 1, 2, 3, 4, 5, 6, 7, 8, 9, 10, 11] [] [12, 13, 14] (by kernel_rfl) (by kernel_rfl) ?_
        refine gp_nil ?_
        refine de rfl (eo_mv (v := .bool true) rfl (look_bool rfl hb)) rfl ?_
        refine de rfl (eo_mv rfl rfl) rfl ?_
        refine dgt rfl rfl rfl (eo_mv rfl rfl) rfl ?_
        refine dgt rfl rfl rfl (eo_mv rfl rfl) rfl ?_
        refine dgt rfl rfl rfl (eo_field rfl f24_0 rfl) rfl ?_
        refine dgt rfl rfl rfl (eo_load 0 rfl s3 rfl rfl rfl rfl) rfl ?_
        refine dgt rfl rfl rfl (eo_rem rfl rfl rfl (by omega) (by omega)) rfl ?_
        refine dgt rfl rfl rfl (eo_mv rfl rfl) rfl ?_
        refine dgt rfl rfl rfl (eo_field rfl f24_0 rfl) rfl ?_
        refine dgt rfl rfl rfl (eo_load 0 rfl s3 rfl rfl rfl rfl) rfl ?_
        refine dgt rfl rfl rfl (eo_quo rfl rfl rfl (by omega) (by omega) (by omega)) rfl ?_
        refine dgt rfl rfl rfl (eo_build rfl rfl (b38_01 _ _)) rfl ?_
        refine ge_nil ?_
        refine ga_nil ?_
        refine gi_yield rfl rfl rfl rfl rfl rfl rfl rfl (.inr ⟨_, rfl, rfl, rfl⟩) ?_
        intro W3 hO3
        have he3 := ext_one hg2 hO3
        have hg3 := (he3.block g (lt_of_block hg2)).trans hg2
        refine ⟨_, hY (dotsL W f i) ((i : Int) % W, (i : Int) / W) W3 (abides_ext hJ hj he3) (by have := dotsL_len W f i; omega), ?_⟩
        rintro e W4 (⟨rfl, hj4, hk4⟩ | ⟨rfl, hx4⟩)
        · have hk5 := (hk.trans (KX.of_ext he3 hk.size)).trans hk4
          have hg4 := hk5.block hg (lt_of_block hg) hgy
          refine ⟨_, rfl, fun a4 hF4 => (?_ : GI none 0 Try.prog ⟨32, []⟩ [g] W4 _ _ _ _ [⟨g, 24, [.int .i64 W, .int .i64 H, .slice A n c]⟩]) nd_none a4 W4 hF4 (ow_one hg4)⟩
          refine igt rfl rfl rfl (eo_not rfl rfl) rfl ?_
          refine ie rfl (eo_and rfl rfl (fun _ => rfl)) rfl ?_
          refine gi_nil ?_
          refine gq_nq ?_
          refine gq_next ?_
          refine gc_cond rfl (fun hc30 => ?_) (fun hc30 => ?_)
          ·
            exact absurd hc30 (by decide)
          ·
            refine gc_skip ?_
            refine gq_block_end ?_
            refine gq_next ?_
            refine gc_region ?_
            refine ne (eo_add rfl rfl rfl (by omega) (by omega)) rfl ?_
            refine ne (eo_mv rfl rfl) rfl ?_
            refine go_nil ?_
            exact fun a5 W5 hF5 hO5 => ⟨_, by omega, i + 1, rfl, by omega, hF5.weak ⟨rfl, rfl, rfl, rfl, rfl, trivial⟩, by rw [dotsL_yes hb]; exact abides_ext hJ hj4 (ext_one hg4 hO5), hk5.trans (KX.of_ext (ext_one hg4 hO5) hk5.size)⟩
        · refine ⟨_, rfl, fun a4 hF4 => (?_ : GI none 0 Try.prog ⟨32, []⟩ [] W4 _ _ _ _ []) nd_none a4 W4 hF4 (Ow.start _)⟩
          refine igt rfl rfl rfl (eo_not rfl rfl) rfl ?_
          refine ie rfl (eo_and rfl rfl (fun _ => rfl)) rfl ?_
          refine gi_nil ?_
          refine gq_nq ?_
          refine gq_next ?_
          refine gc_cond rfl (fun hc30 => ?_) (fun hc30 => ?_)
          ·
            refine gc_ret ?_
            refine gq_block_ret ?_
            refine gq_then_ret ?_
            refine gq_then_ret ?_
            refine gq_block_ret ?_
            refine gq_results (res0 rfl) ?_
            exact fun W' hO => ⟨⟨_, rfl⟩, .inr ⟨_, ⟨i, by omega, hb, hv, rfl⟩, abides_ext hJx hx4 hO.toExt⟩⟩
          ·
            exact absurd hc30 (by decide)
    ·
      replace hc12 := of_decide_eq_false hc12
      refine gc_exit ?_
      refine gq_then_exit ?_
      refine gq_then_exit ?_
      refine gq_block_hit ?_
      refine gq_results_end (res0 rfl) ?_
      first
        | exact fun W' hO => ⟨⟨_, rfl⟩, .inl ⟨[], by rw [dotsV, if_neg (by have h7 := decide_eq_true hc7; rw [chk_ne] at h7; simpa using h7)], abides_ext hJ h0 (ext_one hg1 hO)⟩⟩
        | exact fun W' hO => ⟨⟨_, rfl⟩, .inl ⟨_, by rw [dotsV, if_pos hv, show i = n by omega], abides_ext hJ hj (ext_one hg2 hO)⟩⟩

/-- barscan/raster.dark -/
theorem dark_c (W H : Int) (A : Option Addr) (n c : Nat) (w : World) :
    Calls Try.prog 39 #[.agg #[.int .i64 W, .int .i64 H, .slice A n c]] w fun e w' => ∃ v Hn, e = .returned v ∧ RDark 47 24 W H A n c v Hn ∧ Ow [] w w' Hn := by
  refine calls_enter (N := ⟨4, []⟩) ([]) ([]) Try.func39 rfl rfl rfl (Ow.start _) ?_
  refine gc_seq ?_
  refine gc_region ?_
  refine nx (xo_boxA rfl rfl) rfl ?_
  rintro _ _ ⟨g1, rfl, rfl⟩
  refine ne (eo_as rfl rfl) rfl ?_
  refine go_nil ?_
  refine gq_next ?_
  refine gc_seq ?_
  refine gc_region ?_
  refine ne (eo_makeFunc rfl rfl rfl) rfl ?_
  refine ne (eo_as rfl rfl) rfl ?_
  refine go_nil ?_
  refine gq_next ?_
  refine gc_ret ?_
  refine gq_results (res1 rfl rfl) ?_
  first
    | exact fun W' hO => ⟨_, _, rfl, ⟨_, rfl, rfl⟩, hO.pick 0 rfl⟩
    | exact fun W' hO => ⟨_, _, rfl, ⟨_, rfl, rfl⟩, hO.pick 1 rfl⟩
    | exact fun W' hO => ⟨_, _, rfl, ⟨_, rfl, rfl⟩, hO.pick 2 rfl⟩

/-- barscan/raster.Bounds -/
theorem bounds_c (W H : Int) (A : Option Addr) (n c : Nat) (f : Nat → Bool) (w : World) (hr : Rd w A (tab n (bv f))) :
    Calls Try.prog 25 #[.agg #[.int .i64 W, .int .i64 H, .slice A n c]] w fun e w' => e = .returned (boxOf (dotsV W H n f)) ∧ Ext w w' := by
  refine calls_marks (N := ⟨40, []⟩) [] [] Try.func25 rfl rfl rfl (Ow.start _) ?_
  refine gc_seq ?_
  refine gc_region ?_
  refine nx (xo_boxA rfl rfl) rfl ?_
  rintro _ _ ⟨g1, rfl, rfl⟩
  refine nx (xo_alloc rfl z32) rfl ?_
  rintro _ _ ⟨g2, rfl, rfl⟩
  refine ne (eo_as rfl rfl) rfl ?_
  refine go_nil ?_
  refine gq_next ?_
  refine gc_seq ?_
  refine gc_region ?_
  refine nx (xo_alloc rfl z3) rfl ?_
  rintro _ _ ⟨g4, rfl, rfl⟩
  refine nx (xo_alloc rfl z3) rfl ?_
  rintro _ _ ⟨g5, rfl, rfl⟩
  refine nx (xo_alloc rfl z3) rfl ?_
  rintro _ _ ⟨g6, rfl, rfl⟩
  refine nx (xo_alloc rfl z3) rfl ?_
  rintro _ _ ⟨g7, rfl, rfl⟩
  refine nu (by first | exact xo_store 0 rfl s3 rfl rfl (by first | rfl | exact AS.one) rfl rfl (by simp) | exact xo_store 1 rfl s3 rfl rfl (by first | rfl | exact AS.one) rfl rfl (by simp) | exact xo_store 2 rfl s3 rfl rfl (by first | rfl | exact AS.one) rfl rfl (by simp) | exact xo_store 3 rfl s3 rfl rfl (by first | rfl | exact AS.one) rfl rfl (by simp) | exact xo_store 4 rfl s3 rfl rfl (by first | rfl | exact AS.one) rfl rfl (by simp) | exact xo_store 5 rfl s3 rfl rfl (by first | rfl | exact AS.one) rfl rfl (by simp)) ?_
  rintro _ _ ⟨rfl, rfl⟩
  refine nu (by first | exact xo_store 0 rfl s3 rfl rfl (by first | rfl | exact AS.one) rfl rfl (by simp) | exact xo_store 1 rfl s3 rfl rfl (by first | rfl | exact AS.one) rfl rfl (by simp) | exact xo_store 2 rfl s3 rfl rfl (by first | rfl | exact AS.one) rfl rfl (by simp) | exact xo_store 3 rfl s3 rfl rfl (by first | rfl | exact AS.one) rfl rfl (by simp) | exact xo_store 4 rfl s3 rfl rfl (by first | rfl | exact AS.one) rfl rfl (by simp) | exact xo_store 5 rfl s3 rfl rfl (by first | rfl | exact AS.one) rfl rfl (by simp)) ?_
  rintro _ _ ⟨rfl, rfl⟩
  refine nu (by first | exact xo_store 0 rfl s3 rfl rfl (by first | rfl | exact AS.one) rfl rfl (by simp) | exact xo_store 1 rfl s3 rfl rfl (by first | rfl | exact AS.one) rfl rfl (by simp) | exact xo_store 2 rfl s3 rfl rfl (by first | rfl | exact AS.one) rfl rfl (by simp) | exact xo_store 3 rfl s3 rfl rfl (by first | rfl | exact AS.one) rfl rfl (by simp) | exact xo_store 4 rfl s3 rfl rfl (by first | rfl | exact AS.one) rfl rfl (by simp) | exact xo_store 5 rfl s3 rfl rfl (by first | rfl | exact AS.one) rfl rfl (by simp)) ?_
  rintro _ _ ⟨rfl, rfl⟩
  refine nu (by first | exact xo_store 0 rfl s3 rfl rfl (by first | rfl | exact AS.one) rfl rfl (by simp) | exact xo_store 1 rfl s3 rfl rfl (by first | rfl | exact AS.one) rfl rfl (by simp) | exact xo_store 2 rfl s3 rfl rfl (by first | rfl | exact AS.one) rfl rfl (by simp) | exact xo_store 3 rfl s3 rfl rfl (by first | rfl | exact AS.one) rfl rfl (by simp) | exact xo_store 4 rfl s3 rfl rfl (by first | rfl | exact AS.one) rfl rfl (by simp) | exact xo_store 5 rfl s3 rfl rfl (by first | rfl | exact AS.one) rfl rfl (by simp)) ?_
  rintro _ _ ⟨rfl, rfl⟩
  refine go_nil ?_
  refine gq_next ?_
  refine gc_seq ?_
  refine gc_seq ?_
  refine gc_region ?_
  refine ne (by first | exact eo_loadA 0 rfl a24 rfl rfl rfl rfl | exact eo_loadA 1 rfl a24 rfl rfl rfl rfl | exact eo_loadA 2 rfl a24 rfl rfl rfl rfl | exact eo_loadA 3 rfl a24 rfl rfl rfl rfl | exact eo_loadA 4 rfl a24 rfl rfl rfl rfl | exact eo_loadA 5 rfl a24 rfl rfl rfl rfl) rfl ?_
  refine nx (xo_fresh rfl en39 rfl (fun W _ => dark_c _ _ _ _ _ W)) rfl ?_
  rintro _ _ ⟨_, ⟨gb, rfl, rfl⟩, rfl⟩
  refine go_nil ?_
  refine gq_next ?_
  refine gc_block ?_
  refine gc_range (α := Int × Int) (enc := fun x => .agg #[.int .i64 x.1, .int .i64 x.2]) (S := fun xs => xs = dotsV W H n f) (Sp := fun xs => ∃ i, i < n ∧ f i = true ∧ vldB W H n = true ∧ xs = dotsL W f i ++ [((i : Int) % W, (i : Int) / W)]) (Nn := n + 1) (fun _ => True) (fun xs => [⟨g7, 3, [.int .i64 (botF xs)]⟩, ⟨g6, 3, [.int .i64 (topF xs)]⟩, ⟨g5, 3, [.int .i64 (rightF xs)]⟩, ⟨g4, 3, [.int .i64 (leftF xs)]⟩, ⟨g2, 32, [.int .i64 0, .int .i64 0, .int .i64 0, .int .i64 0]⟩]) (fun _ _ _ => False) (fun _ Bx => [(8, .pointer (some ⟨Bx, 0, none⟩)), (4, .pointer (some ⟨g4, 0, none⟩)), (5, .pointer (some ⟨g5, 0, none⟩)), (6, .pointer (some ⟨g6, 0, none⟩)), (7, .pointer (some ⟨g7, 0, none⟩))]) 38 (fun x => [.int .i64 x.1, .int .i64 x.2]) rfl en47 rfl (List.Sublist.cons _ (List.dropLast_sublist [_, _, _, _, _, _])) (fun _ => rfl) trivial (fun _ _ _ h => h.elim) (fun W' hO => dark_seq W H A n c f gb _ W' (hO.own _ (List.mem_cons_self)).1 (fun h => (List.nodup_cons.1 hO.dist).1 (List.dropLast_subset _ h)) (hr.old0 hO) (fun h hm => old_ids hr (by simpa using h) hO (List.mem_cons_of_mem _ (List.dropLast_subset _ hm))) (fun h e => old_ids hr (by simpa using h) hO (by rw [e]; simp))) ?_ ?_ ?_ ?_
  · intro l pre x W' _
    refine gr_region rfl (by rintro ⟨_, _, h⟩; exact h) ?_
    refine nx (xo_alloc rfl z38) rfl ?_
    rintro _ _ ⟨g8, rfl, rfl⟩
    refine nu (by first | exact xo_storeA 0 rfl a38 rfl rfl (ones_cons (by first | rfl | exact AS.one) (ones_cons (by first | rfl | exact AS.one) ones_nil)) rfl rfl rfl rfl | exact xo_storeA 1 rfl a38 rfl rfl (ones_cons (by first | rfl | exact AS.one) (ones_cons (by first | rfl | exact AS.one) ones_nil)) rfl rfl rfl rfl | exact xo_storeA 2 rfl a38 rfl rfl (ones_cons (by first | rfl | exact AS.one) (ones_cons (by first | rfl | exact AS.one) ones_nil)) rfl rfl rfl rfl | exact xo_storeA 3 rfl a38 rfl rfl (ones_cons (by first | rfl | exact AS.one) (ones_cons (by first | rfl | exact AS.one) ones_nil)) rfl rfl rfl rfl | exact xo_storeA 4 rfl a38 rfl rfl (ones_cons (by first | rfl | exact AS.one) (ones_cons (by first | rfl | exact AS.one) ones_nil)) rfl rfl rfl rfl | exact xo_storeA 5 rfl a38 rfl rfl (ones_cons (by first | rfl | exact AS.one) (ones_cons (by first | rfl | exact AS.one) ones_nil)) rfl rfl rfl rfl) ?_
    rintro _ _ ⟨rfl, rfl⟩
    refine go_nil ?_
    exact fun a5 W5 hF5 hO5 => ⟨_, hF5.weak ⟨rfl, rfl, rfl, rfl, rfl, trivial⟩, hO5⟩
  · intro l pre x Bx W' _ _
    refine gr_block ?_
    refine gr_seq ?_
    refine gr_seq ?_
    refine gr_region rfl (by rintro ⟨_, _, h⟩; exact h) ?_
    refine ne (by first | exact eo_load 0 rfl s3 rfl rfl rfl rfl | exact eo_load 1 rfl s3 rfl rfl rfl rfl | exact eo_load 2 rfl s3 rfl rfl rfl rfl | exact eo_load 3 rfl s3 rfl rfl rfl rfl | exact eo_load 4 rfl s3 rfl rfl rfl rfl | exact eo_load 5 rfl s3 rfl rfl rfl rfl) rfl ?_
    refine ne (eo_lss rfl rfl rfl) rfl ?_
    refine go_nil ?_
    refine gqr_next ?_
    refine gr_cond rfl (fun hc13 => ?_) (fun hc13 => ?_)
    ·
      replace hc13 := of_decide_eq_true hc13
      refine gr_region rfl (by rintro ⟨_, _, h⟩; exact h) ?_
      refine ne (eo_field rfl f38_1 rfl) rfl ?_
      refine ne (by first | exact eo_load 0 rfl s3 rfl rfl rfl rfl | exact eo_load 1 rfl s3 rfl rfl rfl rfl | exact eo_load 2 rfl s3 rfl rfl rfl rfl | exact eo_load 3 rfl s3 rfl rfl rfl rfl | exact eo_load 4 rfl s3 rfl rfl rfl rfl | exact eo_load 5 rfl s3 rfl rfl rfl rfl) rfl ?_
      refine nu (by first | exact xo_store 0 rfl s3 rfl rfl (by first | rfl | exact AS.one) rfl rfl (by simp) | exact xo_store 1 rfl s3 rfl rfl (by first | rfl | exact AS.one) rfl rfl (by simp) | exact xo_store 2 rfl s3 rfl rfl (by first | rfl | exact AS.one) rfl rfl (by simp) | exact xo_store 3 rfl s3 rfl rfl (by first | rfl | exact AS.one) rfl rfl (by simp) | exact xo_store 4 rfl s3 rfl rfl (by first | rfl | exact AS.one) rfl rfl (by simp) | exact xo_store 5 rfl s3 rfl rfl (by first | rfl | exact AS.one) rfl rfl (by simp)) ?_
      rintro _ _ ⟨rfl, rfl⟩
      refine go_nil ?_
      refine gqr_next ?_
      refine gr_seq ?_
      refine gr_region rfl (by rintro ⟨_, _, h⟩; exact h) ?_
      refine ne (eo_field rfl f38_1 rfl) rfl ?_
      refine ne (by first | exact eo_load 0 rfl s3 rfl rfl rfl rfl | exact eo_load 1 rfl s3 rfl rfl rfl rfl | exact eo_load 2 rfl s3 rfl rfl rfl rfl | exact eo_load 3 rfl s3 rfl rfl rfl rfl | exact eo_load 4 rfl s3 rfl rfl rfl rfl | exact eo_load 5 rfl s3 rfl rfl rfl rfl) rfl ?_
      refine nu (by first | exact xo_store 0 rfl s3 rfl rfl (by first | rfl | exact AS.one) rfl rfl (by simp) | exact xo_store 1 rfl s3 rfl rfl (by first | rfl | exact AS.one) rfl rfl (by simp) | exact xo_store 2 rfl s3 rfl rfl (by first | rfl | exact AS.one) rfl rfl (by simp) | exact xo_store 3 rfl s3 rfl rfl (by first | rfl | exact AS.one) rfl rfl (by simp) | exact xo_store 4 rfl s3 rfl rfl (by first | rfl | exact AS.one) rfl rfl (by simp) | exact xo_store 5 rfl s3 rfl rfl (by first | rfl | exact AS.one) rfl rfl (by simp)) ?_
      rintro _ _ ⟨rfl, rfl⟩
      refine go_nil ?_
      refine gqr_next ?_
      refine gr_draw2 rfl [4, 5, 6, 7] [0, 1, 2, 3] 8 [9] _ (by kernel_rfl) (by kernel_rfl) (.cons_cons _ (.cons _ (.cons _ (.cons_cons _ (.cons _ (.cons _ .slnil)))))) ?_
      refine de rfl (eo_load 1 rfl s3 rfl rfl rfl rfl) rfl ?_
      refine de rfl (eo_field rfl f38_0 rfl) rfl ?_
      refine de rfl (eo_load 0 rfl s3 rfl rfl rfl rfl) rfl ?_
      refine de rfl (eo_max rfl rfl rfl) rfl ?_
      refine ge_nil ?_
      refine de rfl (eo_load 4 rfl s3 rfl rfl rfl rfl) rfl ?_
      refine de rfl (eo_field rfl f38_0 rfl) rfl ?_
      refine de rfl (eo_load 0 rfl s3 rfl rfl rfl rfl) rfl ?_
      refine de rfl (eo_min rfl rfl rfl) rfl ?_
      refine ge_nil ?_
      refine ⟨_, _, rfl, rfl, rfl, xo_store 4 rfl s3 rfl rfl rfl rfl rfl (by simp), ?_⟩
      rintro _ _ ⟨rfl, rfl⟩
      refine ⟨.cons_cons _ (.cons _ (.cons _ (.cons_cons _ (.cons _ (.cons _ .slnil))))), ?_⟩
      refine iu rfl (xo_store 3 rfl s3 rfl rfl rfl rfl rfl (by simp)) ?_
      rintro _ _ ⟨rfl, rfl⟩
      refine gi_nil ?_
      refine gq_nq ?_
      refine gq_block_end ?_
      exact fun a5 W5 hF5 hO5 => ⟨trivial, by
        simp only [leftF_snoc, rightF_snoc, topF_snoc, botF_snoc]
        first | rw [if_pos hc13] | rw [if_neg hc13]
        exact hO5.sub (List.sublist_cons_self _ _)⟩
    ·
      replace hc13 := of_decide_eq_false hc13
      refine gr_skip ?_
      refine gqr_next ?_
      refine gr_seq ?_
      refine gr_region rfl (by rintro ⟨_, _, h⟩; exact h) ?_
      refine ne (eo_field rfl f38_1 rfl) rfl ?_
      refine ne (by first | exact eo_load 0 rfl s3 rfl rfl rfl rfl | exact eo_load 1 rfl s3 rfl rfl rfl rfl | exact eo_load 2 rfl s3 rfl rfl rfl rfl | exact eo_load 3 rfl s3 rfl rfl rfl rfl | exact eo_load 4 rfl s3 rfl rfl rfl rfl | exact eo_load 5 rfl s3 rfl rfl rfl rfl) rfl ?_
      refine nu (by first | exact xo_store 0 rfl s3 rfl rfl (by first | rfl | exact AS.one) rfl rfl (by simp) | exact xo_store 1 rfl s3 rfl rfl (by first | rfl | exact AS.one) rfl rfl (by simp) | exact xo_store 2 rfl s3 rfl rfl (by first | rfl | exact AS.one) rfl rfl (by simp) | exact xo_store 3 rfl s3 rfl rfl (by first | rfl | exact AS.one) rfl rfl (by simp) | exact xo_store 4 rfl s3 rfl rfl (by first | rfl | exact AS.one) rfl rfl (by simp) | exact xo_store 5 rfl s3 rfl rfl (by first | rfl | exact AS.one) rfl rfl (by simp)) ?_
      rintro _ _ ⟨rfl, rfl⟩
      refine go_nil ?_
      refine gqr_next ?_
      refine gr_draw2 rfl [4, 5, 6, 7] [0, 1, 2, 3] 8 [9] _ (by kernel_rfl) (by kernel_rfl) (.cons_cons _ (.cons _ (.cons _ (.cons_cons _ (.cons _ (.cons _ .slnil)))))) ?_
      refine de rfl (eo_load 1 rfl s3 rfl rfl rfl rfl) rfl ?_
      refine de rfl (eo_field rfl f38_0 rfl) rfl ?_
      refine de rfl (eo_load 0 rfl s3 rfl rfl rfl rfl) rfl ?_
      refine de rfl (eo_max rfl rfl rfl) rfl ?_
      refine ge_nil ?_
      refine de rfl (eo_load 4 rfl s3 rfl rfl rfl rfl) rfl ?_
      refine de rfl (eo_field rfl f38_0 rfl) rfl ?_
      refine de rfl (eo_load 0 rfl s3 rfl rfl rfl rfl) rfl ?_
      refine de rfl (eo_min rfl rfl rfl) rfl ?_
      refine ge_nil ?_
      refine ⟨_, _, rfl, rfl, rfl, xo_store 4 rfl s3 rfl rfl rfl rfl rfl (by simp), ?_⟩
      rintro _ _ ⟨rfl, rfl⟩
      refine ⟨.cons_cons _ (.cons _ (.cons _ (.cons_cons _ (.cons _ (.cons _ .slnil))))), ?_⟩
      refine iu rfl (xo_store 3 rfl s3 rfl rfl rfl rfl rfl (by simp)) ?_
      rintro _ _ ⟨rfl, rfl⟩
      refine gi_nil ?_
      refine gq_nq ?_
      refine gq_block_end ?_
      exact fun a5 W5 hF5 hO5 => ⟨trivial, by
        simp only [leftF_snoc, rightF_snoc, topF_snoc, botF_snoc]
        first | rw [if_pos hc13] | rw [if_neg hc13]
        exact hO5.sub (List.sublist_cons_self _ _)⟩
  · rintro D xs W1 rfl _ hOD hD hK
    have hDn : D ∉ [g7, g6, g5, g4, g2] := mark_notin hOD hK
    have hDy : ∀ y ∈ [D, g7, g6, g5, g4, g2], w.heap.size ≤ y ∨ y ∈ [] := ids_mark hOD hD
    have hbx := inBox_dotsV (f := f) (W := W) (H := H) (n := n)
    obtain ⟨b1, b2, b3, b4, b5, b6, b7, b8⟩ := hbx
    refine gq_block_end ?_
    refine gq_next ?_
    refine gc_seq ?_
    refine gc_seq ?_
    refine gc_region ?_
    refine ne (by first | exact eo_load 0 rfl s3 rfl rfl rfl rfl | exact eo_load 1 rfl s3 rfl rfl rfl rfl | exact eo_load 2 rfl s3 rfl rfl rfl rfl | exact eo_load 3 rfl s3 rfl rfl rfl rfl | exact eo_load 4 rfl s3 rfl rfl rfl rfl | exact eo_load 5 rfl s3 rfl rfl rfl rfl) rfl ?_
    refine ne (eo_lss rfl rfl rfl) rfl ?_
    refine go_nil ?_
    refine gq_next ?_
    refine gc_cond rfl (fun hc27 => ?_) (fun hc27 => ?_)
    ·
      replace hc27 := of_decide_eq_true hc27
      refine gc_seq ?_
      refine gc_region ?_
      refine ne (eo_build rfl rfl (b32_)) rfl ?_
      refine nu (by first | exact xo_storeA 0 rfl a32 rfl rfl (ones_cons (by first | rfl | exact AS.one) (ones_cons (by first | rfl | exact AS.one) (ones_cons (by first | rfl | exact AS.one) (ones_cons (by first | rfl | exact AS.one) ones_nil)))) rfl rfl rfl rfl | exact xo_storeA 1 rfl a32 rfl rfl (ones_cons (by first | rfl | exact AS.one) (ones_cons (by first | rfl | exact AS.one) (ones_cons (by first | rfl | exact AS.one) (ones_cons (by first | rfl | exact AS.one) ones_nil)))) rfl rfl rfl rfl | exact xo_storeA 2 rfl a32 rfl rfl (ones_cons (by first | rfl | exact AS.one) (ones_cons (by first | rfl | exact AS.one) (ones_cons (by first | rfl | exact AS.one) (ones_cons (by first | rfl | exact AS.one) ones_nil)))) rfl rfl rfl rfl | exact xo_storeA 3 rfl a32 rfl rfl (ones_cons (by first | rfl | exact AS.one) (ones_cons (by first | rfl | exact AS.one) (ones_cons (by first | rfl | exact AS.one) (ones_cons (by first | rfl | exact AS.one) ones_nil)))) rfl rfl rfl rfl | exact xo_storeA 4 rfl a32 rfl rfl (ones_cons (by first | rfl | exact AS.one) (ones_cons (by first | rfl | exact AS.one) (ones_cons (by first | rfl | exact AS.one) (ones_cons (by first | rfl | exact AS.one) ones_nil)))) rfl rfl rfl rfl | exact xo_storeA 5 rfl a32 rfl rfl (ones_cons (by first | rfl | exact AS.one) (ones_cons (by first | rfl | exact AS.one) (ones_cons (by first | rfl | exact AS.one) (ones_cons (by first | rfl | exact AS.one) ones_nil)))) rfl rfl rfl rfl) ?_
      rintro _ _ ⟨rfl, rfl⟩
      refine ne (eo_as rfl rfl) rfl ?_
      refine go_nil ?_
      refine gq_next ?_
      refine gc_ret ?_
      refine gq_then_ret ?_
      refine gq_marks hK hDn (by first | exact resCT 0 rfl a32 rfl rfl rfl rfl rfl | exact resCT 1 rfl a32 rfl rfl rfl rfl rfl | exact resCT 2 rfl a32 rfl rfl rfl rfl rfl | exact resCT 3 rfl a32 rfl rfl rfl rfl rfl | exact resCT 4 rfl a32 rfl rfl rfl rfl rfl | exact resCT 5 rfl a32 rfl rfl rfl rfl rfl) ?_
      first
        | exact fun W' hO' => ⟨by rw [boxOf, if_pos hc27], (hOD.back hO' hDy).toExt⟩
        | exact fun W' hO' => ⟨by rw [boxOf, if_neg hc27], (hOD.back hO' hDy).toExt⟩
    ·
      replace hc27 := of_decide_eq_false hc27
      refine gc_skip ?_
      refine gq_next ?_
      refine gc_seq ?_
      refine gc_region ?_
      refine ne (by first | exact eo_load 0 rfl s3 rfl rfl rfl rfl | exact eo_load 1 rfl s3 rfl rfl rfl rfl | exact eo_load 2 rfl s3 rfl rfl rfl rfl | exact eo_load 3 rfl s3 rfl rfl rfl rfl | exact eo_load 4 rfl s3 rfl rfl rfl rfl | exact eo_load 5 rfl s3 rfl rfl rfl rfl) rfl ?_
      refine ne (by first | exact eo_load 0 rfl s3 rfl rfl rfl rfl | exact eo_load 1 rfl s3 rfl rfl rfl rfl | exact eo_load 2 rfl s3 rfl rfl rfl rfl | exact eo_load 3 rfl s3 rfl rfl rfl rfl | exact eo_load 4 rfl s3 rfl rfl rfl rfl | exact eo_load 5 rfl s3 rfl rfl rfl rfl) rfl ?_
      refine ne (by first | exact eo_load 0 rfl s3 rfl rfl rfl rfl | exact eo_load 1 rfl s3 rfl rfl rfl rfl | exact eo_load 2 rfl s3 rfl rfl rfl rfl | exact eo_load 3 rfl s3 rfl rfl rfl rfl | exact eo_load 4 rfl s3 rfl rfl rfl rfl | exact eo_load 5 rfl s3 rfl rfl rfl rfl) rfl ?_
      refine ne (by first | exact eo_load 0 rfl s3 rfl rfl rfl rfl | exact eo_load 1 rfl s3 rfl rfl rfl rfl | exact eo_load 2 rfl s3 rfl rfl rfl rfl | exact eo_load 3 rfl s3 rfl rfl rfl rfl | exact eo_load 4 rfl s3 rfl rfl rfl rfl | exact eo_load 5 rfl s3 rfl rfl rfl rfl) rfl ?_
      refine ne (eo_sub rfl rfl rfl (by omega) (by omega)) rfl ?_
      refine ne (eo_add rfl rfl rfl (by omega) (by omega)) rfl ?_
      refine ne (by first | exact eo_load 0 rfl s3 rfl rfl rfl rfl | exact eo_load 1 rfl s3 rfl rfl rfl rfl | exact eo_load 2 rfl s3 rfl rfl rfl rfl | exact eo_load 3 rfl s3 rfl rfl rfl rfl | exact eo_load 4 rfl s3 rfl rfl rfl rfl | exact eo_load 5 rfl s3 rfl rfl rfl rfl) rfl ?_
      refine ne (by first | exact eo_load 0 rfl s3 rfl rfl rfl rfl | exact eo_load 1 rfl s3 rfl rfl rfl rfl | exact eo_load 2 rfl s3 rfl rfl rfl rfl | exact eo_load 3 rfl s3 rfl rfl rfl rfl | exact eo_load 4 rfl s3 rfl rfl rfl rfl | exact eo_load 5 rfl s3 rfl rfl rfl rfl) rfl ?_
      refine ne (eo_sub rfl rfl rfl (by omega) (by omega)) rfl ?_
      refine ne (eo_add rfl rfl rfl (by omega) (by omega)) rfl ?_
      refine ne (eo_build rfl rfl (b32_0123 _ _ _ _)) rfl ?_
      refine nu (by first | exact xo_storeA 0 rfl a32 rfl rfl (ones_cons (by first | rfl | exact AS.one) (ones_cons (by first | rfl | exact AS.one) (ones_cons (by first | rfl | exact AS.one) (ones_cons (by first | rfl | exact AS.one) ones_nil)))) rfl rfl rfl rfl | exact xo_storeA 1 rfl a32 rfl rfl (ones_cons (by first | rfl | exact AS.one) (ones_cons (by first | rfl | exact AS.one) (ones_cons (by first | rfl | exact AS.one) (ones_cons (by first | rfl | exact AS.one) ones_nil)))) rfl rfl rfl rfl | exact xo_storeA 2 rfl a32 rfl rfl (ones_cons (by first | rfl | exact AS.one) (ones_cons (by first | rfl | exact AS.one) (ones_cons (by first | rfl | exact AS.one) (ones_cons (by first | rfl | exact AS.one) ones_nil)))) rfl rfl rfl rfl | exact xo_storeA 3 rfl a32 rfl rfl (ones_cons (by first | rfl | exact AS.one) (ones_cons (by first | rfl | exact AS.one) (ones_cons (by first | rfl | exact AS.one) (ones_cons (by first | rfl | exact AS.one) ones_nil)))) rfl rfl rfl rfl | exact xo_storeA 4 rfl a32 rfl rfl (ones_cons (by first | rfl | exact AS.one) (ones_cons (by first | rfl | exact AS.one) (ones_cons (by first | rfl | exact AS.one) (ones_cons (by first | rfl | exact AS.one) ones_nil)))) rfl rfl rfl rfl | exact xo_storeA 5 rfl a32 rfl rfl (ones_cons (by first | rfl | exact AS.one) (ones_cons (by first | rfl | exact AS.one) (ones_cons (by first | rfl | exact AS.one) (ones_cons (by first | rfl | exact AS.one) ones_nil)))) rfl rfl rfl rfl) ?_
      rintro _ _ ⟨rfl, rfl⟩
      refine ne (eo_as rfl rfl) rfl ?_
      refine go_nil ?_
      refine gq_next ?_
      refine gc_ret ?_
      refine gq_marks hK hDn (by first | exact resCT 0 rfl a32 rfl rfl rfl rfl rfl | exact resCT 1 rfl a32 rfl rfl rfl rfl rfl | exact resCT 2 rfl a32 rfl rfl rfl rfl rfl | exact resCT 3 rfl a32 rfl rfl rfl rfl rfl | exact resCT 4 rfl a32 rfl rfl rfl rfl rfl | exact resCT 5 rfl a32 rfl rfl rfl rfl rfl) ?_
      first
        | exact fun W' hO' => ⟨by rw [boxOf, if_pos hc27], (hOD.back hO' hDy).toExt⟩
        | exact fun W' hO' => ⟨by rw [boxOf, if_neg hc27], (hOD.back hO' hDy).toExt⟩
  · exact fun _ _ _ _ _ _ h => h.elim

end Go.Proofs.Ytnmiljloifbjeaa
