/-
  The walks of the functions of package regions and of the document's answers (part Y): what each call returns, at every argument.
-/
import Derived.Test.YtnmiljloifbjeaaWN
import Derived.Test.YtnmiljloifbjeaaRz
import Derived.Test.YtnmiljloifbjeaaSr
namespace Go.Proofs.Ytnmiljloifbjeaa
open Go.RowKit Go.Eng

open Go.Bs
theorem en8 : Ent Try.prog 8 := ent_of Try.func8 (by kernel_rfl) rfl
theorem en10 : Ent Try.prog 10 := ent_of Try.func10 (by kernel_rfl) rfl
theorem baz33 (W : World) : (Instr.build 33 #[]).run Try.prog W = .ok (.agg #[.bool false, .bool false, .bool false, .bool false]) W := by kernel_rfl
theorem z33 : TyZ Try.prog 33 [.bool false, .bool false, .bool false, .bool false] := .inl (by kernel_rfl)
theorem a33 : TyA Try.prog 33 4 := ⟨⟨_, Try.underlying33, rfl⟩, by kernel_rfl⟩
theorem sz4 : (Try.prog.info? 4).map (·.size) = some 1 := by kernel_rfl
theorem ba33 {x0 x1 x2 x3 : Bool} (W : World) : (Instr.build 33 #[(0, .bool x0), (1, .bool x1), (2, .bool x2), (3, .bool x3)]).run Try.prog W = .ok (.agg #[.bool x0, .bool x1, .bool x2, .bool x3]) W := by kernel_rfl

theorem Gaps_b (W H : Int) (A : Option Addr) (n c : Nat) (f : Nat → Bool) (b : Bx) (v : Bool) (w : World) (hr : Rd w A (tab n (bv f))) : Calls Try.prog 12 #[.agg #[.int .i64 W, .int .i64 H, .slice A n c], .agg #[.int .i64 b.X, .int .i64 b.Y, .int .i64 b.W, .int .i64 b.H], .bool v] w (fun e w' => ∃ v9 Hn, e = .returned v9 ∧ RNs 2 (gapR ⟨W, H, n, f⟩ b v).1.length (ptG (gapR ⟨W, H, n, f⟩ b v).1) (gapR ⟨W, H, n, f⟩ b v).2 v9 Hn ∧ Ow [] w w' Hn) := Gaps_x W H A n c f b.X b.Y b.W b.H v w hr

/-- barscan/barscanlaw46.RegionsDivides -/
theorem divides_c (W H : Int) (A : Option Addr) (n c : Nat) (f : Nat → Bool) (gx : Int) (gy : Int) (w : World) (hr : Rd w A (tab n (bv f)))  :
    Calls Try.prog 3 #[.agg #[.int .i64 W, .int .i64 H, .slice A n c], .int .i64 gx, .int .i64 gy] w (fun e w' => e = .returned (.bool true) ∧ Ext w w') := by
  refine calls_enter (N := ⟨258, []⟩) [] ([]) Try.func3 rfl rfl rfl (Ow.start _) ?_
  refine gc_seq ?_
  refine gc_region ?_
  refine nx (xo_boxA rfl rfl) rfl ?_
  rintro _ _ ⟨g3, rfl, rfl⟩
  refine ne (eo_as rfl rfl) rfl ?_
  refine go_nil ?_
  refine gq_next ?_
  refine gc_seq ?_
  refine gc_seq ?_
  refine gc_region ?_
  refine ne (eo_loadA 0 rfl a24 rfl rfl rfl rfl) rfl ?_
  refine ne (eo_call rfl en8 rfl (fun W1 hO => few_c _ _ _ _ _ _ W1 (hr.old0 hO) )) rfl ?_
  refine ne (eo_not rfl rfl) rfl ?_
  refine ne (eo_mv rfl rfl) rfl ?_
  refine ng rfl rfl (fun h => eo_loadA 0 rfl a24 rfl rfl rfl rfl) rfl ?_
  refine ng rfl rfl (fun h => eo_call rfl en9 (evs_cons (ev_if h rfl) evs_nil) (fun W1 hO => sound20_c _ _ _ _ _ _ W1 (hr.old0 hO) )) rfl ?_
  refine ng rfl rfl (fun h => eo_not rfl (ev_if h rfl)) rfl ?_
  refine ne (eo_or rfl rfl (fun hb => ev_if hb rfl)) rfl ?_
  refine go_nil ?_
  refine gq_next ?_
  refine gc_cond rfl (fun hc0 => ?_) (fun hc0 => ?_)
  ·
    have hd0 := (or_t hc0).imp (fun h => of_decide_eq_false (not_t h)) (fun h => (not_t h))
    refine gc_seq ?_
    refine gc_region ?_
    refine ne (eo_call rfl en10 rfl (fun W1 hO => alive46_c W1  )) rfl ?_
    refine ne (eo_as rfl rfl) rfl ?_
    refine go_nil ?_
    refine gq_next ?_
    refine gc_ret ?_
    refine gq_then_ret ?_
    refine gq_results (res1 rfl rfl) ?_
    exact fun W1 hO => ⟨rfl, hO.toExt⟩
  ·
    have hd0 := (or_f hc0).imp (fun h => of_decide_eq_true (not_f h)) (fun h => (not_f h))
    have hv := hd0.2
    obtain ⟨v1, v2, v3, v4, v5, v6⟩ := vldB_iff.1 hv
    have v7 := vld_pos hv
    refine gc_skip ?_
    refine gq_next ?_
    refine gc_seq ?_
    refine gc_region ?_
    refine ne (eo_loadA 0 rfl a24 rfl rfl rfl rfl) rfl ?_
    refine ne (eo_mv rfl rfl) rfl ?_
    refine ne (eo_mv rfl rfl) rfl ?_
    refine nx (xo_freshT rfl en11 rfl (fun W1 hO => cut_x _ _ _ _ _ _ _ _ W1 (hr.old0 hO) (by omega))) rfl ?_
    rintro _ _ ⟨S33, ⟨A33, k33, rfl, hk33, hS33⟩, rfl⟩
    refine ne (eo_mv rfl rfl) rfl ?_
    refine ne (eo_extract rfl rfl rfl) rfl ?_
    refine ne (eo_extract rfl rfl rfl) rfl ?_
    refine ne (eo_as rfl rfl) rfl ?_
    refine ne (eo_as rfl rfl) rfl ?_
    refine go_nil ?_
    refine gq_next ?_
    refine gc_seq ?_
    refine gc_seq ?_
    refine gc_region ?_
    refine ne (eo_mv rfl rfl) rfl ?_
    refine ne (eo_neq rfl rfl rfl) rfl ?_
    refine go_nil ?_
    refine gq_next ?_
    refine gc_cond rfl (fun hc1 => ?_) (fun hc1 => ?_)
    ·
      replace hc1 := of_decide_eq_true hc1
      have h2 := cutR_two (f := f) (gx := gx) (gy := gy) hv (by omega)
      refine gc_seq ?_
      refine gc_region ?_
      refine ne (eo_mv rfl rfl) rfl ?_
      refine ne (eo_eql rfl rfl rfl) rfl ?_
      refine ne (eo_mv rfl rfl) rfl ?_
      refine ng rfl rfl (fun h => eo_mv rfl rfl) rfl ?_
      refine ng rfl rfl (fun h => eo_len rfl Try.underlying27 (ev_if h rfl)) rfl ?_
      refine ng rfl rfl (fun h => eo_eql rfl (ev_if h rfl) rfl) rfl ?_
      refine ne (eo_and rfl rfl (fun hb => ev_if hb rfl)) rfl ?_
      refine ne (eo_mv rfl rfl) rfl ?_
      refine ng rfl rfl (fun h => eo_call rfl en10 rfl (fun W1 hO => alive46_c W1  )) rfl ?_
      refine ne (eo_and rfl rfl (fun hb => ev_if hb rfl)) rfl ?_
      refine ne (eo_as rfl rfl) rfl ?_
      refine go_nil ?_
      refine gq_next ?_
      refine gc_ret ?_
      refine gq_then_ret ?_
      refine gq_results (res1 rfl rfl) ?_
      exact fun W1 hO => ⟨ret_bool (show ((decide ((cutR ⟨W, H, n, f⟩ gx gy).2 = 3) && decide ((((cutR ⟨W, H, n, f⟩ gx gy).1.length : Nat) : Int) = 0)) && true) = true from by rw [h2.1, h2.2] <;> decide), hO.toExt⟩
    ·
      replace hc1 := of_decide_eq_false hc1
      have hz : (cutR ⟨W, H, n, f⟩ gx gy).2 = 0 := by omega
      obtain ⟨_, hgt⟩ := cutR_zero hz
      have hdv := cutR_dv (f := f) (gx := gx) (gy := gy) hv hgt
      have hln := cutR_len (W := W) (H := H) (n := n) (f := f) (gx := gx) (gy := gy)
      refine gc_skip ?_
      refine gq_next ?_
      refine gc_seq ?_
      refine gc_region ?_
      refine ne (eo_field rfl f24_2 rfl) rfl ?_
      refine ne (eo_load 0 rfl s22 rfl rfl rfl rfl) rfl ?_
      refine ne (eo_len rfl Try.underlying22 rfl) rfl ?_
      refine nx (xo_makeb rfl Try.underlying22 e4 rfl rfl (by omega) (by omega) (by omega)) rfl ?_
      rintro _ _ ⟨g51, rfl, rfl⟩
      refine ne (eo_as rfl rfl) rfl ?_
      refine go_nil ?_
      refine gq_next ?_
      refine gc_seq ?_
      refine gc_seq ?_
      refine gc_region ?_
      refine ne (eo_mv rfl rfl) rfl ?_
      refine ne (eo_len rfl Try.underlying27 rfl) rfl ?_
      refine ne (eo_mv rfl rfl) rfl ?_
      refine go_nil ?_
      refine gq_next ?_
      refine gc_block ?_
      refine loop2 (fun (i : Nat) (f1 : Nat → Bool) => i ≤ (cutR ⟨W, H, n, f⟩ gx gy).1.length ∧ ∀ j, j < n → f1 j = ownF (cutR ⟨W, H, n, f⟩ gx gy).1 W i j) (fun (i : Nat) (f1 : Nat → Bool) => (cutR ⟨W, H, n, f⟩ gx gy).1.length - i) (fun (i : Nat) (f1 : Nat → Bool) => [(1, .int .i64 gx), (2, .int .i64 gy), (3, .pointer (some ⟨g3, 0, none⟩)), (9, .slice (some ⟨g51, 0, none⟩) n n), (52, .slice A33 ((cutR ⟨W, H, n, f⟩ gx gy).1.length) k33), (53, .int .i64 (((cutR ⟨W, H, n, f⟩ gx gy).1.length : Nat) : Int)), (54, .int .i64 (i : Int))]) (fun (i : Nat) (f1 : Nat → Bool) => ⟨g51, 4, tab n (bv f1) ++ []⟩ :: ⟨g3, 24, [.int .i64 W, .int .i64 H, .slice A n c]⟩ :: S33) 0 (fun _ => false) ⟨by omega, fun _ _ => own_new⟩ ⟨rfl, rfl, rfl, rfl, rfl, rfl, rfl, trivial⟩ (List.Sublist.refl _) ?_
      rintro i f1 ⟨hi, hI⟩
      refine gc_seq ?_
      refine gc_region ?_
      refine ne (eo_lss rfl rfl rfl) rfl ?_
      refine go_nil ?_
      refine gq_next ?_
      refine gc_seq ?_
      refine gc_cond rfl (fun hc2 => ?_) (fun hc2 => ?_)
      ·
        replace hc2 := of_decide_eq_true hc2
        refine gc_skip ?_
        refine gq_next ?_
        refine gc_seq ?_
        refine gc_block ?_
        refine gc_seq ?_
        refine gc_region ?_
        refine ne (eo_indexNS rfl sl27 rfl rfl (fun W1 hO => (hS33.rd (hO.tl 2 rfl (List.Sublist.refl _)))) (by omega) (by omega) (by omega)) rfl ?_
        refine ne (eo_loadNA rfl a32 rfl (fun W1 hO => (hS33.rd (hO.tl 2 rfl (List.Sublist.refl _)))) (by omega)) rfl ?_
        refine nx (xo_alloc rfl z32) rfl ?_
        rintro _ _ ⟨g11, rfl, rfl⟩
        refine nu (xo_storeA 0 rfl a32 rfl rfl (ones_cons (by first | rfl | exact AS.one) (ones_cons (by first | rfl | exact AS.one) (ones_cons (by first | rfl | exact AS.one) (ones_cons (by first | rfl | exact AS.one) ones_nil)))) rfl rfl rfl rfl) ?_
        rintro _ _ ⟨rfl, rfl⟩
        refine go_nil ?_
        refine gq_next ?_
        refine gc_seq ?_
        refine gc_seq ?_
        refine gc_weak (L' := [(1, .int .i64 gx), (2, .int .i64 gy), (3, .pointer (some ⟨g3, 0, none⟩)), (9, .slice (some ⟨g51, 0, none⟩) n n), (11, .pointer (some ⟨g11, 0, none⟩)), (52, .slice A33 ((cutR ⟨W, H, n, f⟩ gx gy).1.length) k33), (53, .int .i64 (((cutR ⟨W, H, n, f⟩ gx gy).1.length : Nat) : Int)), (54, .int .i64 (i : Int))]) (H' := ⟨g11, 32, [.int .i64 ((bxG (cutR ⟨W, H, n, f⟩ gx gy).1) (i * 4 + 0)), .int .i64 ((bxG (cutR ⟨W, H, n, f⟩ gx gy).1) (i * 4 + 1)), .int .i64 ((bxG (cutR ⟨W, H, n, f⟩ gx gy).1) (i * 4 + 2)), .int .i64 ((bxG (cutR ⟨W, H, n, f⟩ gx gy).1) (i * 4 + 3))]⟩ :: ⟨g51, 4, tab n (bv f1) ++ []⟩ :: ⟨g3, 24, [.int .i64 W, .int .i64 H, .slice A n c]⟩ :: S33) ⟨rfl, rfl, rfl, rfl, rfl, rfl, rfl, rfl, trivial⟩ (List.Sublist.refl _) ?_
        rw [bxG_0 (l := (cutR ⟨W, H, n, f⟩ gx gy).1) (i := i) rfl, bxG_1 (l := (cutR ⟨W, H, n, f⟩ gx gy).1) (i := i) rfl, bxG_2 (l := (cutR ⟨W, H, n, f⟩ gx gy).1) (i := i) rfl, bxG_3 (l := (cutR ⟨W, H, n, f⟩ gx gy).1) (i := i) rfl]
        obtain ⟨b, hB⟩ : ∃ b, b = (cutR ⟨W, H, n, f⟩ gx gy).1.getD i bx0 := ⟨_, rfl⟩
        rw [← hB]
        have hmem : b ∈ (cutR ⟨W, H, n, f⟩ gx gy).1 := by rw [hB]; exact bx_mem (by omega)
        have htg := hdv.tg _ hmem
        have hlf := hdv.lf _ hmem
        obtain ⟨a1, a2, a3, a4, a5, a6⟩ := htg.inn
        have hp1 := htg.red.pos
        refine gc_region ?_
        refine ne (eo_field rfl f32_0 rfl) rfl ?_
        refine ne (eo_load 0 rfl s3 rfl rfl rfl rfl) rfl ?_
        refine ne (eo_lss rfl rfl rfl) rfl ?_
        refine ne (eo_mv rfl rfl) rfl ?_
        refine ng rfl rfl (fun h => eo_field rfl f32_1 rfl) rfl ?_
        refine ng rfl rfl (fun h => eo_load 0 rfl s3 (ev_if h rfl) rfl rfl rfl) rfl ?_
        refine ng rfl rfl (fun h => eo_lss rfl (ev_if h rfl) rfl) rfl ?_
        refine ne (eo_or rfl rfl (fun hb => ev_if hb rfl)) rfl ?_
        refine ne (eo_mv rfl rfl) rfl ?_
        refine ng rfl rfl (fun h => eo_field rfl f32_2 rfl) rfl ?_
        refine ng rfl rfl (fun h => eo_load 0 rfl s3 (ev_if h rfl) rfl rfl rfl) rfl ?_
        refine ng rfl rfl (fun h => eo_lss rfl (ev_if h rfl) rfl) rfl ?_
        refine ne (eo_or rfl rfl (fun hb => ev_if hb rfl)) rfl ?_
        refine ne (eo_mv rfl rfl) rfl ?_
        refine ng rfl rfl (fun h => eo_field rfl f32_3 rfl) rfl ?_
        refine ng rfl rfl (fun h => eo_load 0 rfl s3 (ev_if h rfl) rfl rfl rfl) rfl ?_
        refine ng rfl rfl (fun h => eo_lss rfl (ev_if h rfl) rfl) rfl ?_
        refine ne (eo_or rfl rfl (fun hb => ev_if hb rfl)) rfl ?_
        refine ne (eo_mv rfl rfl) rfl ?_
        refine ng rfl rfl (fun h => eo_field rfl f32_0 rfl) rfl ?_
        refine ng rfl rfl (fun h => eo_load 0 rfl s3 (ev_if h rfl) rfl rfl rfl) rfl ?_
        refine ng rfl rfl (fun h => eo_field rfl f32_2 rfl) rfl ?_
        refine ng rfl rfl (fun h => eo_load 0 rfl s3 (ev_if h rfl) rfl rfl rfl) rfl ?_
        refine ng rfl rfl (fun h => eo_add rfl (ev_if h rfl) (ev_if h rfl) (by have hg0 := (or_f h).imp (fun h => (or_f h).imp (fun h => (or_f h).imp (fun h => of_decide_eq_false h) (fun h => of_decide_eq_false h)) (fun h => of_decide_eq_false h)) (fun h => of_decide_eq_false h); omega) (by have hg0 := (or_f h).imp (fun h => (or_f h).imp (fun h => (or_f h).imp (fun h => of_decide_eq_false h) (fun h => of_decide_eq_false h)) (fun h => of_decide_eq_false h)) (fun h => of_decide_eq_false h); omega)) rfl ?_
        refine ng rfl rfl (fun h => eo_field rfl f24_0 rfl) rfl ?_
        refine ng rfl rfl (fun h => eo_load 2 rfl s3 (ev_if h rfl) rfl rfl rfl) rfl ?_
        refine ng rfl rfl (fun h => eo_gtr rfl (ev_if h rfl) (ev_if h rfl)) rfl ?_
        refine ne (eo_or rfl rfl (fun hb => ev_if hb rfl)) rfl ?_
        refine ne (eo_mv rfl rfl) rfl ?_
        refine ng rfl rfl (fun h => eo_field rfl f32_1 rfl) rfl ?_
        refine ng rfl rfl (fun h => eo_load 0 rfl s3 (ev_if h rfl) rfl rfl rfl) rfl ?_
        refine ng rfl rfl (fun h => eo_field rfl f32_3 rfl) rfl ?_
        refine ng rfl rfl (fun h => eo_load 0 rfl s3 (ev_if h rfl) rfl rfl rfl) rfl ?_
        refine ng rfl rfl (fun h => eo_add rfl (ev_if h rfl) (ev_if h rfl) (by have hg0 := (or_f h).imp (fun h => (or_f h).imp (fun h => (or_f h).imp (fun h => (or_f h).imp (fun h => of_decide_eq_false h) (fun h => of_decide_eq_false h)) (fun h => of_decide_eq_false h)) (fun h => of_decide_eq_false h)) (fun h => of_decide_eq_false h); omega) (by have hg0 := (or_f h).imp (fun h => (or_f h).imp (fun h => (or_f h).imp (fun h => (or_f h).imp (fun h => of_decide_eq_false h) (fun h => of_decide_eq_false h)) (fun h => of_decide_eq_false h)) (fun h => of_decide_eq_false h)) (fun h => of_decide_eq_false h); omega)) rfl ?_
        refine ng rfl rfl (fun h => eo_field rfl f24_1 rfl) rfl ?_
        refine ng rfl rfl (fun h => eo_load 2 rfl s3 (ev_if h rfl) rfl rfl rfl) rfl ?_
        refine ng rfl rfl (fun h => eo_gtr rfl (ev_if h rfl) (ev_if h rfl)) rfl ?_
        refine ne (eo_or rfl rfl (fun hb => ev_if hb rfl)) rfl ?_
        refine go_nil ?_
        refine gq_next ?_
        refine gc_cond rfl (fun hc3 => ?_) (fun hc3 => ?_)
        ·
          have hd3 := (or_t hc3).imp (fun h => (or_t h).imp (fun h => (or_t h).imp (fun h => (or_t h).imp (fun h => (or_t h).imp (fun h => of_decide_eq_true h) (fun h => of_decide_eq_true h)) (fun h => of_decide_eq_true h)) (fun h => of_decide_eq_true h)) (fun h => of_decide_eq_true h)) (fun h => of_decide_eq_true h)
          exfalso; omega
        ·
          have hd3 := (or_f hc3).imp (fun h => (or_f h).imp (fun h => (or_f h).imp (fun h => (or_f h).imp (fun h => (or_f h).imp (fun h => of_decide_eq_false h) (fun h => of_decide_eq_false h)) (fun h => of_decide_eq_false h)) (fun h => of_decide_eq_false h)) (fun h => of_decide_eq_false h)) (fun h => of_decide_eq_false h)
          refine gc_skip ?_
          refine gq_next ?_
          refine gc_seq ?_
          refine gc_region ?_
          refine ne (eo_build rfl rfl baz33) rfl ?_
          refine nx (xo_alloc rfl z33) rfl ?_
          rintro _ _ ⟨g12, rfl, rfl⟩
          refine nu (xo_storeA 0 rfl a33 rfl rfl (ones_cons (by first | rfl | exact AS.one) (ones_cons (by first | rfl | exact AS.one) (ones_cons (by first | rfl | exact AS.one) (ones_cons (by first | rfl | exact AS.one) ones_nil)))) rfl rfl rfl rfl) ?_
          rintro _ _ ⟨rfl, rfl⟩
          refine go_nil ?_
          refine gq_next ?_
          refine gc_seq ?_
          refine gc_seq ?_
          refine gc_region ?_
          refine ne (eo_field rfl f32_1 rfl) rfl ?_
          refine ne (eo_load 1 rfl s3 rfl rfl rfl rfl) rfl ?_
          refine ne (eo_as rfl rfl) rfl ?_
          refine go_nil ?_
          refine gq_next ?_
          refine gc_block ?_
          refine loop6 (fun (y : Int) (f1 : Nat → Bool) (u0 : Bool) (u1 : Bool) (u2 : Bool) (u3 : Bool) => b.Y ≤ y ∧ y ≤ b.Y + b.H ∧ (∀ j, j < n → f1 j = ownP (cutR ⟨W, H, n, f⟩ gx gy).1 W i b y b.X j) ∧ SdI f W b y b.X u0 u1 u2 u3) (fun (y : Int) (f1 : Nat → Bool) (u0 : Bool) (u1 : Bool) (u2 : Bool) (u3 : Bool) => (b.Y + b.H - y).toNat) (fun (y : Int) (f1 : Nat → Bool) (u0 : Bool) (u1 : Bool) (u2 : Bool) (u3 : Bool) => [(1, .int .i64 gx), (2, .int .i64 gy), (3, .pointer (some ⟨g3, 0, none⟩)), (9, .slice (some ⟨g51, 0, none⟩) n n), (11, .pointer (some ⟨g11, 0, none⟩)), (12, .pointer (some ⟨g12, 0, none⟩)), (13, .int .i64 y), (52, .slice A33 ((cutR ⟨W, H, n, f⟩ gx gy).1.length) k33), (53, .int .i64 (((cutR ⟨W, H, n, f⟩ gx gy).1.length : Nat) : Int)), (54, .int .i64 (i : Int))]) (fun (y : Int) (f1 : Nat → Bool) (u0 : Bool) (u1 : Bool) (u2 : Bool) (u3 : Bool) => ⟨g12, 33, [.bool u0, .bool u1, .bool u2, .bool u3]⟩ :: ⟨g11, 32, [.int .i64 b.X, .int .i64 b.Y, .int .i64 b.W, .int .i64 b.H]⟩ :: ⟨g51, 4, tab n (bv f1) ++ []⟩ :: ⟨g3, 24, [.int .i64 W, .int .i64 H, .slice A n c]⟩ :: S33) b.Y f1 false false false false ⟨by omega, by omega, fun j hj => by rw [hI j hj]; exact own_start, sd_new⟩ ⟨rfl, rfl, rfl, rfl, rfl, rfl, rfl, rfl, rfl, rfl, trivial⟩ (List.Sublist.refl _) ?_
          rintro y f1 u0 u1 u2 u3 ⟨hy0, hy, hI, hS⟩
          refine gc_seq ?_
          refine gc_seq ?_
          refine gc_region ?_
          refine ne (eo_mv rfl rfl) rfl ?_
          refine ne (eo_field rfl f32_1 rfl) rfl ?_
          refine ne (eo_load 1 rfl s3 rfl rfl rfl rfl) rfl ?_
          refine ne (eo_field rfl f32_3 rfl) rfl ?_
          refine ne (eo_load 1 rfl s3 rfl rfl rfl rfl) rfl ?_
          refine ne (eo_add rfl rfl rfl (by omega) (by omega)) rfl ?_
          refine ne (eo_lss rfl rfl rfl) rfl ?_
          refine go_nil ?_
          refine gq_next ?_
          refine gc_cond rfl (fun hc4 => ?_) (fun hc4 => ?_)
          ·
            replace hc4 := of_decide_eq_true hc4
            have hy1 : y < b.Y + b.H := by omega
            refine gc_skip ?_
            refine gq_next ?_
            refine gc_seq ?_
            refine gc_block ?_
            refine gc_seq ?_
            refine gc_region ?_
            refine ne (eo_field rfl f32_0 rfl) rfl ?_
            refine ne (eo_load 1 rfl s3 rfl rfl rfl rfl) rfl ?_
            refine ne (eo_as rfl rfl) rfl ?_
            refine go_nil ?_
            refine gq_next ?_
            refine gc_block ?_
            refine loop6 (fun (x : Int) (f1 : Nat → Bool) (u0 : Bool) (u1 : Bool) (u2 : Bool) (u3 : Bool) => b.X ≤ x ∧ x ≤ b.X + b.W ∧ (∀ j, j < n → f1 j = ownP (cutR ⟨W, H, n, f⟩ gx gy).1 W i b y x j) ∧ SdI f W b y x u0 u1 u2 u3) (fun (x : Int) (f1 : Nat → Bool) (u0 : Bool) (u1 : Bool) (u2 : Bool) (u3 : Bool) => (b.X + b.W - x).toNat) (fun (x : Int) (f1 : Nat → Bool) (u0 : Bool) (u1 : Bool) (u2 : Bool) (u3 : Bool) => [(1, .int .i64 gx), (2, .int .i64 gy), (3, .pointer (some ⟨g3, 0, none⟩)), (9, .slice (some ⟨g51, 0, none⟩) n n), (11, .pointer (some ⟨g11, 0, none⟩)), (12, .pointer (some ⟨g12, 0, none⟩)), (13, .int .i64 y), (14, .int .i64 x), (52, .slice A33 ((cutR ⟨W, H, n, f⟩ gx gy).1.length) k33), (53, .int .i64 (((cutR ⟨W, H, n, f⟩ gx gy).1.length : Nat) : Int)), (54, .int .i64 (i : Int))]) (fun (x : Int) (f1 : Nat → Bool) (u0 : Bool) (u1 : Bool) (u2 : Bool) (u3 : Bool) => ⟨g12, 33, [.bool u0, .bool u1, .bool u2, .bool u3]⟩ :: ⟨g11, 32, [.int .i64 b.X, .int .i64 b.Y, .int .i64 b.W, .int .i64 b.H]⟩ :: ⟨g51, 4, tab n (bv f1) ++ []⟩ :: ⟨g3, 24, [.int .i64 W, .int .i64 H, .slice A n c]⟩ :: S33) b.X f1 u0 u1 u2 u3 ⟨by omega, by omega, hI, hS⟩ ⟨rfl, rfl, rfl, rfl, rfl, rfl, rfl, rfl, rfl, rfl, rfl, trivial⟩ (List.Sublist.refl _) ?_
            rintro x f1 u0 u1 u2 u3 ⟨hx0, hx, hI, hS⟩
            refine gc_seq ?_
            refine gc_seq ?_
            refine gc_region ?_
            refine ne (eo_mv rfl rfl) rfl ?_
            refine ne (eo_field rfl f32_0 rfl) rfl ?_
            refine ne (eo_load 1 rfl s3 rfl rfl rfl rfl) rfl ?_
            refine ne (eo_field rfl f32_2 rfl) rfl ?_
            refine ne (eo_load 1 rfl s3 rfl rfl rfl rfl) rfl ?_
            refine ne (eo_add rfl rfl rfl (by omega) (by omega)) rfl ?_
            refine ne (eo_lss rfl rfl rfl) rfl ?_
            refine go_nil ?_
            refine gq_next ?_
            refine gc_cond rfl (fun hc5 => ?_) (fun hc5 => ?_)
            ·
              replace hc5 := of_decide_eq_true hc5
              have hx1 : x < b.X + b.W := by omega
              have hi1 := idx_bd (W := W) (H := H) (x := x) (y := y) (by omega) (by omega) (by omega) (by omega)
              have hq1 : (((y * W + x).toNat : Nat) : Int) = y * W + x := Int.toNat_of_nonneg (by omega)
              have hbh : BHas b x y := ⟨hx0, hx1, hy0, hy1⟩
              have hat := (hI (y * W + x).toNat (by omega)).trans (own_at hdv.apart (by omega) hB (by omega) (by omega) hq1 hbh)
              refine gc_skip ?_
              refine gq_next ?_
              refine gc_seq ?_
              refine gc_block ?_
              refine gc_seq ?_
              refine gc_seq ?_
              refine gc_region ?_
              refine ne (eo_mv rfl rfl) rfl ?_
              refine ne (eo_mv rfl rfl) rfl ?_
              refine ne (eo_field rfl f24_0 rfl) rfl ?_
              refine ne (eo_load 3 rfl s3 rfl rfl rfl rfl) rfl ?_
              refine ne (eo_mul rfl rfl rfl (by omega) (by omega)) rfl ?_
              refine ne (eo_mv rfl rfl) rfl ?_
              refine ne (eo_add rfl rfl rfl (by omega) (by omega)) rfl ?_
              refine ne (eo_index0 rfl sl22 rfl rfl (by omega) (by omega)) rfl ?_
              refine ne (eo_getb 2 rfl s4 rfl rfl (by omega)) rfl ?_
              refine go_nil ?_
              refine gq_next ?_
              refine gc_cond rfl (fun hc6 => ?_) (fun hc6 => ?_)
              ·
                exact absurd (hc6.symm.trans hat) (by decide)
              ·
                refine gc_skip ?_
                refine gq_next ?_
                refine gc_seq ?_
                refine gc_region ?_
                refine ne (eo_mv rfl rfl) rfl ?_
                refine ne (eo_mv rfl rfl) rfl ?_
                refine ne (eo_field rfl f24_0 rfl) rfl ?_
                refine ne (eo_load 3 rfl s3 rfl rfl rfl rfl) rfl ?_
                refine ne (eo_mul rfl rfl rfl (by omega) (by omega)) rfl ?_
                refine ne (eo_mv rfl rfl) rfl ?_
                refine ne (eo_add rfl rfl rfl (by omega) (by omega)) rfl ?_
                refine ne (eo_index0 rfl sl22 rfl rfl (by omega) (by omega)) rfl ?_
                refine nu (xo_setb 2 rfl s4 rfl rfl rfl (by omega)) ?_
                rintro _ _ ⟨rfl, rfl⟩
                refine go_nil ?_
                refine gq_next ?_
                refine gc_seq ?_
                refine gc_region ?_
                refine ne (eo_field rfl f24_2 rfl) rfl ?_
                refine ne (eo_load 3 rfl s22 rfl rfl rfl rfl) rfl ?_
                refine ne (eo_mv rfl rfl) rfl ?_
                refine ne (eo_field rfl f24_0 rfl) rfl ?_
                refine ne (eo_load 3 rfl s3 rfl rfl rfl rfl) rfl ?_
                refine ne (eo_mul rfl rfl rfl (by omega) (by omega)) rfl ?_
                refine ne (eo_mv rfl rfl) rfl ?_
                refine ne (eo_add rfl rfl rfl (by omega) (by omega)) rfl ?_
                refine ne (eo_indexR rfl sl22 rfl rfl hr (by simp) (by omega) (by omega)) rfl ?_
                refine ne (eo_load_old rfl s4 rfl (Rd.tabb hr (by omega)) (by simp)) rfl ?_
                refine go_nil ?_
                refine gq_next ?_
                refine gc_cond rfl (fun hc7 => ?_) (fun hc7 => ?_)
                ·
                  have hpx : pxD W f x y = true := hc7
                  have hS2 := sd_dark hS
                  refine gc_seq ?_
                  refine gc_region ?_
                  refine ne (eo_indexArr rfl Try.underlying33 sz4 rfl rfl (by omega) (by omega)) rfl ?_
                  refine ne (eo_load 0 rfl s4 rfl rfl rfl rfl) rfl ?_
                  refine ne (eo_mv rfl rfl) rfl ?_
                  refine ng rfl rfl (fun h => eo_mv rfl rfl) rfl ?_
                  refine ng rfl rfl (fun h => eo_field rfl f32_0 rfl) rfl ?_
                  refine ng rfl rfl (fun h => eo_load 1 rfl s3 (ev_if h rfl) rfl rfl rfl) rfl ?_
                  refine ng rfl rfl (fun h => eo_eql rfl (ev_if h rfl) (ev_if h rfl)) rfl ?_
                  refine ne (eo_or rfl rfl (fun hb => ev_if hb rfl)) rfl ?_
                  refine ne (eo_indexArr rfl Try.underlying33 sz4 rfl rfl (by omega) (by omega)) rfl ?_
                  refine nu (xo_store 0 rfl s4 rfl rfl (by first | rfl | exact AS.one) rfl rfl (by simp)) ?_
                  rintro _ _ ⟨rfl, rfl⟩
                  refine go_nil ?_
                  refine gq_next ?_
                  refine gc_seq ?_
                  refine gc_region ?_
                  refine ne (eo_indexArr rfl Try.underlying33 sz4 rfl rfl (by omega) (by omega)) rfl ?_
                  refine ne (eo_load 0 rfl s4 rfl rfl rfl rfl) rfl ?_
                  refine ne (eo_mv rfl rfl) rfl ?_
                  refine ng rfl rfl (fun h => eo_mv rfl rfl) rfl ?_
                  refine ng rfl rfl (fun h => eo_field rfl f32_0 rfl) rfl ?_
                  refine ng rfl rfl (fun h => eo_load 1 rfl s3 (ev_if h rfl) rfl rfl rfl) rfl ?_
                  refine ng rfl rfl (fun h => eo_field rfl f32_2 rfl) rfl ?_
                  refine ng rfl rfl (fun h => eo_load 1 rfl s3 (ev_if h rfl) rfl rfl rfl) rfl ?_
                  refine ng rfl rfl (fun h => eo_add rfl (ev_if h rfl) (ev_if h rfl) (by omega) (by omega)) rfl ?_
                  refine ng rfl rfl (fun h => eo_sub rfl (ev_if h rfl) rfl (by omega) (by omega)) rfl ?_
                  refine ng rfl rfl (fun h => eo_eql rfl (ev_if h rfl) (ev_if h rfl)) rfl ?_
                  refine ne (eo_or rfl rfl (fun hb => ev_if hb rfl)) rfl ?_
                  refine ne (eo_indexArr rfl Try.underlying33 sz4 rfl rfl (by omega) (by omega)) rfl ?_
                  refine nu (xo_store 0 rfl s4 rfl rfl (by first | rfl | exact AS.one) rfl rfl (by simp)) ?_
                  rintro _ _ ⟨rfl, rfl⟩
                  refine go_nil ?_
                  refine gq_next ?_
                  refine gc_seq ?_
                  refine gc_region ?_
                  refine ne (eo_indexArr rfl Try.underlying33 sz4 rfl rfl (by omega) (by omega)) rfl ?_
                  refine ne (eo_load 0 rfl s4 rfl rfl rfl rfl) rfl ?_
                  refine ne (eo_mv rfl rfl) rfl ?_
                  refine ng rfl rfl (fun h => eo_mv rfl rfl) rfl ?_
                  refine ng rfl rfl (fun h => eo_field rfl f32_1 rfl) rfl ?_
                  refine ng rfl rfl (fun h => eo_load 1 rfl s3 (ev_if h rfl) rfl rfl rfl) rfl ?_
                  refine ng rfl rfl (fun h => eo_eql rfl (ev_if h rfl) (ev_if h rfl)) rfl ?_
                  refine ne (eo_or rfl rfl (fun hb => ev_if hb rfl)) rfl ?_
                  refine ne (eo_indexArr rfl Try.underlying33 sz4 rfl rfl (by omega) (by omega)) rfl ?_
                  refine nu (xo_store 0 rfl s4 rfl rfl (by first | rfl | exact AS.one) rfl rfl (by simp)) ?_
                  rintro _ _ ⟨rfl, rfl⟩
                  refine go_nil ?_
                  refine gq_next ?_
                  refine gc_region ?_
                  refine ne (eo_indexArr rfl Try.underlying33 sz4 rfl rfl (by omega) (by omega)) rfl ?_
                  refine ne (eo_load 0 rfl s4 rfl rfl rfl rfl) rfl ?_
                  refine ne (eo_mv rfl rfl) rfl ?_
                  refine ng rfl rfl (fun h => eo_mv rfl rfl) rfl ?_
                  refine ng rfl rfl (fun h => eo_field rfl f32_1 rfl) rfl ?_
                  refine ng rfl rfl (fun h => eo_load 1 rfl s3 (ev_if h rfl) rfl rfl rfl) rfl ?_
                  refine ng rfl rfl (fun h => eo_field rfl f32_3 rfl) rfl ?_
                  refine ng rfl rfl (fun h => eo_load 1 rfl s3 (ev_if h rfl) rfl rfl rfl) rfl ?_
                  refine ng rfl rfl (fun h => eo_add rfl (ev_if h rfl) (ev_if h rfl) (by omega) (by omega)) rfl ?_
                  refine ng rfl rfl (fun h => eo_sub rfl (ev_if h rfl) rfl (by omega) (by omega)) rfl ?_
                  refine ng rfl rfl (fun h => eo_eql rfl (ev_if h rfl) (ev_if h rfl)) rfl ?_
                  refine ne (eo_or rfl rfl (fun hb => ev_if hb rfl)) rfl ?_
                  refine ne (eo_indexArr rfl Try.underlying33 sz4 rfl rfl (by omega) (by omega)) rfl ?_
                  refine nu (xo_store 0 rfl s4 rfl rfl (by first | rfl | exact AS.one) rfl rfl (by simp)) ?_
                  rintro _ _ ⟨rfl, rfl⟩
                  refine go_nil ?_
                  refine gq_block_end ?_
                  refine gq_next ?_
                  refine gc_region ?_
                  refine ne (eo_mv rfl rfl) rfl ?_
                  refine ne (eo_add rfl rfl rfl (by omega) (by omega)) rfl ?_
                  refine ne (eo_as rfl rfl) rfl ?_
                  refine go_nil ?_
                  exact round6 (x + 1) (upd f1 ((((y * W) + x)).toNat) true) (u0 || decide (x = b.X)) (u1 || decide (x = ((b.X + b.W) - 1))) (u2 || decide (y = b.Y)) (u3 || decide (y = ((b.Y + b.H) - 1))) ⟨by omega, by omega, own_step (by omega) (by omega) hq1 hbh hI, hS2⟩ (by omega) ⟨rfl, rfl, rfl, rfl, rfl, rfl, rfl, rfl, rfl, rfl, rfl, trivial⟩ (List.Sublist.refl _)
                ·
                  have hpx : pxD W f x y = false := hc7
                  have hS2 := sd_light hS hpx
                  refine gc_skip ?_
                  refine gq_block_end ?_
                  refine gq_next ?_
                  refine gc_region ?_
                  refine ne (eo_mv rfl rfl) rfl ?_
                  refine ne (eo_add rfl rfl rfl (by omega) (by omega)) rfl ?_
                  refine ne (eo_as rfl rfl) rfl ?_
                  refine go_nil ?_
                  exact round6 (x + 1) (upd f1 ((((y * W) + x)).toNat) true) u0 u1 u2 u3 ⟨by omega, by omega, own_step (by omega) (by omega) hq1 hbh hI, hS2⟩ (by omega) ⟨rfl, rfl, rfl, rfl, rfl, rfl, rfl, rfl, rfl, rfl, rfl, trivial⟩ (List.Sublist.refl _)
            ·
              replace hc5 := of_decide_eq_false hc5
              refine gc_exit ?_
              refine gq_then_exit ?_
              refine gq_then_exit ?_
              refine gq_block_hit ?_
              refine gq_block_end ?_
              refine gq_next ?_
              refine gc_region ?_
              refine ne (eo_mv rfl rfl) rfl ?_
              refine ne (eo_add rfl rfl rfl (by omega) (by omega)) rfl ?_
              refine ne (eo_as rfl rfl) rfl ?_
              refine go_nil ?_
              exact round6 (y + 1) f1 u0 u1 u2 u3 ⟨by omega, by omega, fun j hj => by rw [hI j hj, show x = b.X + b.W by omega]; exact own_row, sd_row (by rw [show b.X + b.W = x by omega]; exact hS)⟩ (by omega) ⟨rfl, rfl, rfl, rfl, rfl, rfl, rfl, rfl, rfl, rfl, trivial⟩ (List.Sublist.refl _)
          ·
            replace hc4 := of_decide_eq_false hc4
            obtain ⟨e0, e1, e2, e3⟩ := sd_end htg hS (by omega)
            subst e0
            subst e1
            subst e2
            subst e3
            refine gc_exit ?_
            refine gq_then_exit ?_
            refine gq_then_exit ?_
            refine gq_block_hit ?_
            refine gq_next ?_
            refine gc_seq ?_
            refine gc_seq ?_
            refine gc_region ?_
            refine ne (eo_loadA 0 rfl a33 rfl rfl rfl rfl) rfl ?_
            refine ne (eo_build rfl rfl ba33) rfl ?_
            refine ne (eo_neArr4 rfl Try.underlying33 Try.underlying4 (by kernel_rfl) (by kernel_rfl) (by kernel_rfl) rfl rfl) rfl ?_
            refine go_nil ?_
            refine gq_next ?_
            refine gc_cond rfl (fun hc8 => ?_) (fun hc8 => ?_)
            ·
              first | exact absurd hc8 (by decide) | exact Bool.noConfusion hc8 | (exfalso; omega)
            ·
              refine gc_skip ?_
              refine gq_next ?_
              refine gc_seq ?_
              refine gc_region ?_
              refine ne (eo_mv rfl rfl) rfl ?_
              refine go_nil ?_
              refine gq_next ?_
              refine gc_block ?_
              refine loop1 (fun (k : Nat) => k ≤ 2) (fun (k : Nat) => 2 - k) (fun (k : Nat) => [(1, .int .i64 gx), (2, .int .i64 gy), (3, .pointer (some ⟨g3, 0, none⟩)), (9, .slice (some ⟨g51, 0, none⟩) n n), (11, .pointer (some ⟨g11, 0, none⟩)), (52, .slice A33 ((cutR ⟨W, H, n, f⟩ gx gy).1.length) k33), (53, .int .i64 (((cutR ⟨W, H, n, f⟩ gx gy).1.length : Nat) : Int)), (54, .int .i64 (i : Int)), (193, .int .i64 (k : Int))]) (fun (k : Nat) => ⟨g12, 33, [.bool true, .bool true, .bool true, .bool true]⟩ :: ⟨g11, 32, [.int .i64 b.X, .int .i64 b.Y, .int .i64 b.W, .int .i64 b.H]⟩ :: ⟨g51, 4, tab n (bv f1) ++ []⟩ :: ⟨g3, 24, [.int .i64 W, .int .i64 H, .slice A n c]⟩ :: S33) 0 (by omega) ⟨rfl, rfl, rfl, rfl, rfl, rfl, rfl, rfl, rfl, trivial⟩ (List.Sublist.refl _) ?_
              intro k hk
              refine gc_seq ?_
              refine gc_region ?_
              refine ne (eo_lss rfl rfl rfl) rfl ?_
              refine go_nil ?_
              refine gq_next ?_
              refine gc_seq ?_
              refine gc_cond rfl (fun hc9 => ?_) (fun hc9 => ?_)
              ·
                replace hc9 := of_decide_eq_true hc9
                have hgl := gap_law (f := f) (n := n) (v := decide ((k : Int) = 1)) hv htg hlf
                have hgn : (gapR ⟨W, H, n, f⟩ b (decide ((k : Int) = 1))).1.length ≤ 1073741824 := gapR_len
                refine gc_skip ?_
                refine gq_next ?_
                refine gc_seq ?_
                refine gc_block ?_
                refine gc_seq ?_
                refine gc_region ?_
                refine ne (eo_mv rfl rfl) rfl ?_
                refine ne (eo_as rfl rfl) rfl ?_
                refine go_nil ?_
                refine gq_next ?_
                refine gc_seq ?_
                refine gc_region ?_
                refine ne (eo_loadA 3 rfl a24 rfl rfl rfl rfl) rfl ?_
                refine ne (eo_loadA 1 rfl a32 rfl rfl rfl rfl) rfl ?_
                refine ne (eo_mv rfl rfl) rfl ?_
                refine ne (eo_eql rfl rfl rfl) rfl ?_
                refine nx (xo_freshT rfl en12 rfl (fun W1 hO => Gaps_b _ _ _ _ _ _ _ _ W1 (hr.old0 hO))) rfl ?_
                rintro _ _ ⟨S201, ⟨A201, k201, rfl, hk201, hS201⟩, rfl⟩
                refine ne (eo_mv rfl rfl) rfl ?_
                refine ne (eo_extract rfl rfl rfl) rfl ?_
                refine ne (eo_extract rfl rfl rfl) rfl ?_
                refine ne (eo_as rfl rfl) rfl ?_
                refine ne (eo_as rfl rfl) rfl ?_
                refine go_nil ?_
                refine gq_next ?_
                refine gc_seq ?_
                refine gc_seq ?_
                refine gc_region ?_
                refine ne (eo_mv rfl rfl) rfl ?_
                refine ne (eo_neq rfl rfl rfl) rfl ?_
                refine go_nil ?_
                refine gq_next ?_
                refine gc_cond rfl (fun hc10 => ?_) (fun hc10 => ?_)
                ·
                  replace hc10 := of_decide_eq_true hc10
                  exact absurd hgl.1 (by omega)
                ·
                  replace hc10 := of_decide_eq_false hc10
                  refine gc_skip ?_
                  refine gq_next ?_
                  refine gc_seq ?_
                  refine gc_region ?_
                  refine ne (eo_mv rfl rfl) rfl ?_
                  refine ne (eo_len rfl Try.underlying34 rfl) rfl ?_
                  refine ne (eo_mv rfl rfl) rfl ?_
                  refine go_nil ?_
                  refine gq_next ?_
                  refine gc_block ?_
                  refine loop1 (fun (q : Nat) => q ≤ (gapR ⟨W, H, n, f⟩ b (decide ((k : Int) = 1))).1.length) (fun (q : Nat) => (gapR ⟨W, H, n, f⟩ b (decide ((k : Int) = 1))).1.length - q) (fun (q : Nat) => [(1, .int .i64 gx), (2, .int .i64 gy), (3, .pointer (some ⟨g3, 0, none⟩)), (9, .slice (some ⟨g51, 0, none⟩) n n), (11, .pointer (some ⟨g11, 0, none⟩)), (15, .int .i64 (k : Int)), (16, .slice A201 ((gapR ⟨W, H, n, f⟩ b (decide ((k : Int) = 1))).1.length) k201), (52, .slice A33 ((cutR ⟨W, H, n, f⟩ gx gy).1.length) k33), (53, .int .i64 (((cutR ⟨W, H, n, f⟩ gx gy).1.length : Nat) : Int)), (54, .int .i64 (i : Int)), (193, .int .i64 (k : Int)), (207, .int .i64 (((gapR ⟨W, H, n, f⟩ b (decide ((k : Int) = 1))).1.length : Nat) : Int)), (208, .int .i64 (q : Int))]) (fun (q : Nat) => ⟨g12, 33, [.bool true, .bool true, .bool true, .bool true]⟩ :: ⟨g11, 32, [.int .i64 b.X, .int .i64 b.Y, .int .i64 b.W, .int .i64 b.H]⟩ :: ⟨g51, 4, tab n (bv f1) ++ []⟩ :: ⟨g3, 24, [.int .i64 W, .int .i64 H, .slice A n c]⟩ :: (S33 ++ S201)) 0 (by omega) ⟨rfl, rfl, rfl, rfl, rfl, rfl, rfl, rfl, rfl, rfl, rfl, rfl, rfl, trivial⟩ (List.Sublist.refl _) ?_
                  intro q hq
                  refine gc_seq ?_
                  refine gc_region ?_
                  refine ne (eo_lss rfl rfl rfl) rfl ?_
                  refine go_nil ?_
                  refine gq_next ?_
                  refine gc_seq ?_
                  refine gc_cond rfl (fun hc11 => ?_) (fun hc11 => ?_)
                  ·
                    replace hc11 := of_decide_eq_true hc11
                    refine gc_skip ?_
                    refine gq_next ?_
                    refine gc_seq ?_
                    refine gc_block ?_
                    refine gc_seq ?_
                    refine gc_region ?_
                    refine ne (eo_mv rfl rfl) rfl ?_
                    refine ne (eo_as rfl rfl) rfl ?_
                    refine go_nil ?_
                    refine gq_next ?_
                    refine gc_seq ?_
                    refine gc_region ?_
                    refine ne (eo_mv rfl rfl) rfl ?_
                    refine ne (eo_eql rfl rfl rfl) rfl ?_
                    refine ne (eo_mv rfl rfl) rfl ?_
                    refine ng rfl rfl (fun h => eo_mv rfl rfl) rfl ?_
                    refine ng rfl rfl (fun h => eo_mv rfl rfl) rfl ?_
                    refine ng rfl rfl (fun h => eo_indexNS rfl sl34 (ev_if h rfl) (ev_if h rfl) (fun W1 hO => (hS201.rd (hO.tl 4 rfl (List.sublist_append_right _ _)))) (by have hg0 := of_decide_eq_true h; omega) (by have hg0 := of_decide_eq_true h; omega) (by have hg0 := of_decide_eq_true h; omega)) rfl ?_
                    refine ng rfl rfl (fun h => eo_field rfl f38_1 (ev_if h rfl)) rfl ?_
                    refine ng rfl rfl (fun h => eo_loadNS rfl s3 (ev_if h rfl) (fun W1 hO => (hS201.rd (hO.tl 4 rfl (List.sublist_append_right _ _)))) (by have hg0 := of_decide_eq_true h; omega)) rfl ?_
                    refine ng rfl rfl (fun h => eo_mv rfl rfl) rfl ?_
                    refine ng rfl rfl (fun h => eo_geq rfl (ev_if h rfl) (ev_if h rfl)) rfl ?_
                    refine ne (eo_and rfl rfl (fun hb => ev_if hb rfl)) rfl ?_
                    refine ne (eo_mv rfl rfl) rfl ?_
                    refine ng rfl rfl (fun h => eo_mv rfl rfl) rfl ?_
                    refine ng rfl rfl (fun h => eo_eql rfl (ev_if h rfl) rfl) rfl ?_
                    refine ng rfl rfl (fun h => eo_mv rfl (ev_if h rfl)) rfl ?_
                    refine ngc rfl rfl (fun h => eo_mv rfl rfl) rfl ?_
                    refine ngc rfl rfl (fun h => eo_mv rfl rfl) rfl ?_
                    refine ngc rfl rfl (fun h => eo_indexNS rfl sl34 (ev_if h rfl) (ev_if h rfl) (fun W1 hO => (hS201.rd (hO.tl 4 rfl (List.sublist_append_right _ _)))) (by have hg1 := of_decide_eq_true h.2; have hg0 := (and_f h.1).imp (fun h => of_decide_eq_false h) (fun h => of_decide_eq_false h); omega) (by have hg1 := of_decide_eq_true h.2; have hg0 := (and_f h.1).imp (fun h => of_decide_eq_false h) (fun h => of_decide_eq_false h); omega) (by have hg1 := of_decide_eq_true h.2; have hg0 := (and_f h.1).imp (fun h => of_decide_eq_false h) (fun h => of_decide_eq_false h); omega)) rfl ?_
                    refine ngc rfl rfl (fun h => eo_field rfl f38_1 (ev_if h rfl)) rfl ?_
                    refine ngc rfl rfl (fun h => eo_loadNS rfl s3 (ev_if h rfl) (fun W1 hO => (hS201.rd (hO.tl 4 rfl (List.sublist_append_right _ _)))) (by have hg1 := of_decide_eq_true h.2; have hg0 := (and_f h.1).imp (fun h => of_decide_eq_false h) (fun h => of_decide_eq_false h); omega)) rfl ?_
                    refine ngc rfl rfl (fun h => eo_mv rfl rfl) rfl ?_
                    refine ngc rfl rfl (fun h => eo_geq rfl (ev_if h rfl) (ev_if h rfl)) rfl ?_
                    refine ng rfl rfl (fun h => eo_and rfl (ev_if h rfl) (fun hb => ev_if ⟨h, hb⟩ rfl)) rfl ?_
                    refine ne (eo_or rfl rfl (fun hb => ev_if hb rfl)) rfl ?_
                    refine go_nil ?_
                    refine gq_next ?_
                    refine gc_cond rfl (fun hc12 => ?_) (fun hc12 => ?_)
                    ·
                      have hd12 := (or_t hc12).imp (fun h => (and_t h).imp (fun h => of_decide_eq_true h) (fun h => of_decide_eq_true h)) (fun h => (and_t h).imp (fun h => of_decide_eq_true h) (fun h => of_decide_eq_true h))
                      exfalso
                      have hw := hgl.2 (q : Int).toNat (by omega)
                      rcases hd12 with ⟨q1, q2⟩ | ⟨q1, q2⟩
                      · rw [if_pos (decide_eq_true q1)] at hw; omega
                      · rw [if_neg (by simp; omega)] at hw; omega
                    ·
                      have hd12 := (or_f hc12).imp (fun h => (and_f h).imp (fun h => of_decide_eq_false h) (fun h => of_decide_eq_false h)) (fun h => (and_f h).imp (fun h => of_decide_eq_false h) (fun h => of_decide_eq_false h))
                      refine gc_skip ?_
                      refine gq_block_end ?_
                      refine gq_next ?_
                      refine gc_region ?_
                      refine ne (eo_add rfl rfl rfl (by omega) (by omega)) rfl ?_
                      refine ne (eo_mv rfl rfl) rfl ?_
                      refine go_nil ?_
                      exact round1 (q + 1) (by omega) (by omega) ⟨rfl, rfl, rfl, rfl, rfl, rfl, rfl, rfl, rfl, rfl, rfl, rfl, rfl, trivial⟩ (List.Sublist.refl _)
                  ·
                    replace hc11 := of_decide_eq_false hc11
                    refine gc_exit ?_
                    refine gq_then_exit ?_
                    refine gq_then_exit ?_
                    refine gq_block_hit ?_
                    refine gq_block_end ?_
                    refine gq_next ?_
                    refine gc_region ?_
                    refine ne (eo_add rfl rfl rfl (by omega) (by omega)) rfl ?_
                    refine ne (eo_mv rfl rfl) rfl ?_
                    refine go_nil ?_
                    exact round1 (k + 1) (by omega) (by omega) ⟨rfl, rfl, rfl, rfl, rfl, rfl, rfl, rfl, rfl, trivial⟩ (List.Sublist.cons_cons _ (List.Sublist.cons_cons _ (List.Sublist.cons_cons _ (List.Sublist.cons_cons _ (List.sublist_append_left _ _)))))
              ·
                replace hc9 := of_decide_eq_false hc9
                refine gc_exit ?_
                refine gq_then_exit ?_
                refine gq_then_exit ?_
                refine gq_block_hit ?_
                refine gq_block_end ?_
                refine gq_next ?_
                refine gc_region ?_
                refine ne (eo_add rfl rfl rfl (by omega) (by omega)) rfl ?_
                refine ne (eo_mv rfl rfl) rfl ?_
                refine go_nil ?_
                exact round2 (i + 1) f1 ⟨by omega, fun j hj => by rw [hI j hj]; exact own_done (by omega) hB (by omega)⟩ (by omega) ⟨rfl, rfl, rfl, rfl, rfl, rfl, rfl, trivial⟩ (List.Sublist.cons _ (List.Sublist.cons _ (List.Sublist.refl _)))
      ·
        replace hc2 := of_decide_eq_false hc2
        refine gc_exit ?_
        refine gq_then_exit ?_
        refine gq_then_exit ?_
        refine gq_block_hit ?_
        refine gq_next ?_
        refine gc_seq ?_
        refine gc_seq ?_
        refine gc_region ?_
        refine ne (eo_field rfl f24_2 rfl) rfl ?_
        refine ne (eo_load 1 rfl s22 rfl rfl rfl rfl) rfl ?_
        refine ne (eo_len rfl Try.underlying22 rfl) rfl ?_
        refine ne (eo_mv rfl rfl) rfl ?_
        refine go_nil ?_
        refine gq_next ?_
        refine gc_block ?_
        refine loop1 (fun (j : Nat) => j ≤ n) (fun (j : Nat) => n - j) (fun (j : Nat) => [(3, .pointer (some ⟨g3, 0, none⟩)), (9, .slice (some ⟨g51, 0, none⟩) n n), (240, .int .i64 ((n : Nat) : Int)), (241, .int .i64 (j : Int))]) (fun (j : Nat) => ⟨g51, 4, tab n (bv f1) ++ []⟩ :: ⟨g3, 24, [.int .i64 W, .int .i64 H, .slice A n c]⟩ :: S33) 0 (by omega) ⟨rfl, rfl, rfl, rfl, trivial⟩ (List.Sublist.refl _) ?_
        intro j hj
        refine gc_seq ?_
        refine gc_region ?_
        refine ne (eo_lss rfl rfl rfl) rfl ?_
        refine go_nil ?_
        refine gq_next ?_
        refine gc_seq ?_
        refine gc_cond rfl (fun hc13 => ?_) (fun hc13 => ?_)
        ·
          replace hc13 := of_decide_eq_true hc13
          refine gc_skip ?_
          refine gq_next ?_
          refine gc_seq ?_
          refine gc_block ?_
          refine gc_seq ?_
          refine gc_region ?_
          refine ne (eo_mv rfl rfl) rfl ?_
          refine ne (eo_as rfl rfl) rfl ?_
          refine go_nil ?_
          refine gq_next ?_
          refine gc_seq ?_
          refine gc_region ?_
          refine ne (eo_field rfl f24_2 rfl) rfl ?_
          refine ne (eo_load 1 rfl s22 rfl rfl rfl rfl) rfl ?_
          refine ne (eo_mv rfl rfl) rfl ?_
          refine ne (eo_indexR rfl sl22 rfl rfl hr (by simp) (by omega) (by omega)) rfl ?_
          refine ne (eo_load_old rfl s4 rfl (Rd.tabb hr (by omega)) (by simp)) rfl ?_
          refine ne (eo_mv rfl rfl) rfl ?_
          refine ng rfl rfl (fun h => eo_mv rfl rfl) rfl ?_
          refine ng rfl rfl (fun h => eo_mv rfl rfl) rfl ?_
          refine ng rfl rfl (fun h => eo_index0 rfl sl22 (ev_if h rfl) (ev_if h rfl) (by omega) (by omega)) rfl ?_
          refine ng rfl rfl (fun h => eo_getb 0 rfl s4 (ev_if h rfl) rfl (by omega)) rfl ?_
          refine ng rfl rfl (fun h => eo_not rfl (ev_if h rfl)) rfl ?_
          refine ne (eo_and rfl rfl (fun hb => ev_if hb rfl)) rfl ?_
          refine go_nil ?_
          refine gq_next ?_
          refine gc_cond rfl (fun hc14 => ?_) (fun hc14 => ?_)
          ·
            have hd14 := (and_t hc14).imp (fun h => h) (fun h => (not_t h))
            have ho := own_all hv hdv (show j < n by omega) hd14.1 (show i = (cutR ⟨W, H, n, f⟩ gx gy).1.length by omega)
            have hf := hI j (by omega)
            exact absurd (hf.trans ho) (by have := hd14.2; simp at this ⊢; exact this)
          ·
            have hd14 := (and_f hc14).imp (fun h => h) (fun h => (not_f h))
            refine gc_skip ?_
            refine gq_block_end ?_
            refine gq_next ?_
            refine gc_region ?_
            refine ne (eo_add rfl rfl rfl (by omega) (by omega)) rfl ?_
            refine ne (eo_mv rfl rfl) rfl ?_
            refine go_nil ?_
            exact round1 (j + 1) (by omega) (by omega) ⟨rfl, rfl, rfl, rfl, trivial⟩ (List.Sublist.refl _)
        ·
          replace hc13 := of_decide_eq_false hc13
          refine gc_exit ?_
          refine gq_then_exit ?_
          refine gq_then_exit ?_
          refine gq_block_hit ?_
          refine gq_next ?_
          refine gc_seq ?_
          refine gc_region ?_
          refine ne (eo_call rfl en10 rfl (fun W1 hO => alive46_c W1  )) rfl ?_
          refine ne (eo_as rfl rfl) rfl ?_
          refine go_nil ?_
          refine gq_next ?_
          refine gc_ret ?_
          refine gq_results (res1 rfl rfl) ?_
          exact fun W1 hO => ⟨rfl, hO.toExt⟩

end Go.Proofs.Ytnmiljloifbjeaa
