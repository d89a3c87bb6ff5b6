/-
  The walks of the functions of package skew and of the document's answer (part O): what each call returns, at every argument.
-/
import Derived.Test.YtmgkpdpmjhgekaaWN
namespace Go.Proofs.Ytmgkpdpmjhgekaa
open Go.RowKit Go.Eng

open Go.Bs
theorem en13 : Ent Try.prog 13 := ent_of Try.func13 (by kernel_rfl) rfl
theorem en23 : Ent Try.prog 23 := ent_of Try.func23 (by kernel_rfl) rfl

/-- barscan/barscanlaw45.SkewCorrects -/
theorem lcorrects_c (Ar : Option Addr) (nr cr : Nat) (fr : Nat → Bool) (cw : Int) (kk : Int) (dd : Int) (w : World) (hrr : Rd w Ar (tab nr (bv fr))) (w0 : 0 ≤ cw) (w1 : cw ≤ 255) (k0 : -128 ≤ kk) (k1 : kk ≤ 127) (e0 : 0 ≤ dd) (e1 : dd ≤ 255) :
    Calls Try.prog 7 #[.slice Ar nr cr, .int .u8 cw, .int .i8 kk, .int .u8 dd] w (fun e w' => e = .returned (.bool true) ∧ Ext w w') := by
  have ht := tmod_b (a := kk) (b := 13) (by decide)
  refine calls_enter (N := ⟨164, []⟩) [] ([]) Try.func7 rfl rfl rfl (Ow.start _) ?_
  refine gc_seq ?_
  refine gc_region ?_
  refine ne (eo_as rfl rfl) rfl ?_
  refine go_nil ?_
  refine gq_next ?_
  refine gc_seq ?_
  refine gc_region ?_
  refine ne (eo_mv rfl rfl) rfl ?_
  refine ne (eo_remk rfl rfl rfl (by omega) (by omega)) rfl ?_
  refine ne (eo_convi rfl rfl ⟨_, Try.underlying5⟩ Try.underlying3 (by omega) (by omega)) rfl ?_
  refine ne (eo_add rfl rfl rfl (by omega) (by omega)) rfl ?_
  refine ne (eo_mv rfl rfl) rfl ?_
  refine ne (eo_trem rfl rfl rfl (by decide)) rfl ?_
  refine ne (eo_convi rfl rfl ⟨_, Try.underlying36⟩ Try.underlying3 (by omega) (by omega)) rfl ?_
  refine ne (eo_mv rfl rfl) rfl ?_
  refine ne (eo_remk rfl rfl rfl (by omega) (by omega)) rfl ?_
  refine ne (eo_convi rfl rfl ⟨_, Try.underlying5⟩ Try.underlying3 (by omega) (by omega)) rfl ?_
  refine ne (eo_add rfl rfl rfl (by omega) (by omega)) rfl ?_
  refine ne (eo_as rfl rfl) rfl ?_
  refine ne (eo_as rfl rfl) rfl ?_
  refine ne (eo_as rfl rfl) rfl ?_
  refine go_nil ?_
  refine gq_next ?_
  refine gc_seq ?_
  refine gc_seq ?_
  refine gc_region ?_
  refine ne (eo_mv rfl rfl) rfl ?_
  refine ne (eo_len rfl Try.underlying22 rfl) rfl ?_
  refine ne (eo_gtr rfl rfl rfl) rfl ?_
  refine ne (eo_mv rfl rfl) rfl ?_
  refine ng rfl rfl (fun h => eo_mv rfl rfl) rfl ?_
  refine ng rfl rfl (fun h => eo_len rfl Try.underlying22 (ev_if h rfl)) rfl ?_
  refine ng rfl rfl (fun h => eo_eql rfl (ev_if h rfl) rfl) rfl ?_
  refine ne (eo_or rfl rfl (fun hb => ev_if hb rfl)) rfl ?_
  refine go_nil ?_
  refine gq_next ?_
  refine gc_cond rfl (fun hc0 => ?_) (fun hc0 => ?_)
  ·
    have hd0 := (or_t hc0).imp (fun h => of_decide_eq_true h) (fun h => of_decide_eq_true h)
    refine gc_seq ?_
    refine gc_region ?_
    refine ne (eo_call rfl en13 rfl (fun W1 hO => exam45_c W1  )) rfl ?_
    refine ne (eo_as rfl rfl) rfl ?_
    refine go_nil ?_
    refine gq_next ?_
    refine gc_ret ?_
    refine gq_then_ret ?_
    refine gq_results (res1 rfl rfl) ?_
    exact fun W1 hO => ⟨rfl, hO.toExt⟩
  ·
    have hd0 := (or_f hc0).imp (fun h => of_decide_eq_false h) (fun h => of_decide_eq_false h)
    have c1 : 1 ≤ (1 + (cw % 40)) ∧ (1 + (cw % 40)) ≤ 40 := by omega
    have d1 : 1 ≤ (1 + (dd % 40)) ∧ (1 + (dd % 40)) ≤ 40 := by omega
    have hm := shm_small (W := (1 + (cw % 40))) (num := (Int.tmod kk 13)) (d := (1 + (dd % 40))) c1.1 c1.2 (by omega) (by omega) d1.1
    have hmd : (max (shI (1 + (cw % 40)) (Int.tmod kk 13) (1 + (dd % 40)) 0) (shI (1 + (cw % 40)) (Int.tmod kk 13) (1 + (dd % 40)) ((1 + (cw % 40)) - 1))) = (shMax (1 + (cw % 40)) (Int.tmod kk 13) (1 + (dd % 40))) := rfl
    refine gc_skip ?_
    refine gq_next ?_
    refine gc_seq ?_
    refine gc_region ?_
    refine ne (eo_mv rfl rfl) rfl ?_
    refine ne (eo_mv rfl rfl) rfl ?_
    refine ne (eo_len rfl Try.underlying22 rfl) rfl ?_
    refine ne (eo_build rfl rfl (b24_01 _ _)) rfl ?_
    refine nx (xo_alloc rfl z24) rfl ?_
    rintro _ _ ⟨g12, rfl, rfl⟩
    refine nu (xo_storeA 0 rfl a24 rfl rfl (ones_cons (by first | rfl | exact AS.one) (ones_cons (by first | rfl | exact AS.one) (ones_cons (by first | rfl | exact AS.one) ones_nil))) rfl rfl rfl rfl) ?_
    rintro _ _ ⟨rfl, rfl⟩
    refine go_nil ?_
    refine gq_next ?_
    refine gc_seq ?_
    refine gc_seq ?_
    refine gc_region ?_
    refine ne (eo_as rfl rfl) rfl ?_
    refine go_nil ?_
    refine gq_next ?_
    refine gc_block ?_
    refine loop3 (fun (y : Nat) (q : Nat) (s : AS) => y ≤ nr ∧ (q : Int) = y * (1 + (cw % 40)) ∧ s.Ok 1 q (tab q (bv (origF (1 + (cw % 40)) fr)))) (fun (y : Nat) (q : Nat) (s : AS) => nr - y) (fun (y : Nat) (q : Nat) (s : AS) => [(0, .slice Ar nr cr), (9, .int .i64 (1 + (cw % 40))), (10, .int .i64 (Int.tmod kk 13)), (11, .int .i64 (1 + (dd % 40))), (12, .pointer (some ⟨g12, 0, none⟩)), (13, .int .i64 (y : Int))]) (fun (y : Nat) (q : Nat) (s : AS) => ⟨g12, 24, [.int .i64 (1 + (cw % 40)), .int .i64 ((nr : Nat) : Int), s.val q]⟩ :: s.blks 4 (tab q (bv (origF (1 + (cw % 40)) fr)))) 0 0 .nil ⟨by omega, by simp, AS.Ok0⟩ ⟨rfl, rfl, rfl, rfl, rfl, rfl, trivial⟩ (List.Sublist.refl _) ?_
    rintro y q s ⟨hy, hq, hs⟩
    refine gc_seq ?_
    refine gc_seq ?_
    refine gc_region ?_
    refine ne (eo_mv rfl rfl) rfl ?_
    refine ne (eo_mv rfl rfl) rfl ?_
    refine ne (eo_len rfl Try.underlying22 rfl) rfl ?_
    refine ne (eo_lss rfl rfl rfl) rfl ?_
    refine go_nil ?_
    refine gq_next ?_
    refine gc_cond rfl (fun hc1 => ?_) (fun hc1 => ?_)
    ·
      replace hc1 := of_decide_eq_true hc1
      have hyb := idx_bd (W := (1 + (cw % 40))) (H := ((nr : Nat) : Int)) (x := 0) (y := (y : Int)) (by omega) (by omega) (by omega) (by omega)
      have ha : ((y : Int) + 1) * (1 + (cw % 40)) = y * (1 + (cw % 40)) + (1 + (cw % 40)) := add1_mul
      have hmu := Int.mul_le_mul c1.2 (show ((nr : Nat) : Int) ≤ 4096 by omega) (by omega) (by omega)
      refine gc_skip ?_
      refine gq_next ?_
      refine gc_seq ?_
      refine gc_block ?_
      refine gc_seq ?_
      refine gc_region ?_
      refine ne (eo_as rfl rfl) rfl ?_
      refine go_nil ?_
      refine gq_next ?_
      refine gc_block ?_
      refine loop3 (fun (x : Nat) (q : Nat) (s : AS) => (x : Int) ≤ (1 + (cw % 40)) ∧ (q : Int) = y * (1 + (cw % 40)) + x ∧ s.Ok 1 q (tab q (bv (origF (1 + (cw % 40)) fr)))) (fun (x : Nat) (q : Nat) (s : AS) => ((1 + (cw % 40)) - x).toNat) (fun (x : Nat) (q : Nat) (s : AS) => [(0, .slice Ar nr cr), (9, .int .i64 (1 + (cw % 40))), (10, .int .i64 (Int.tmod kk 13)), (11, .int .i64 (1 + (dd % 40))), (12, .pointer (some ⟨g12, 0, none⟩)), (13, .int .i64 (y : Int)), (14, .int .i64 (x : Int))]) (fun (x : Nat) (q : Nat) (s : AS) => ⟨g12, 24, [.int .i64 (1 + (cw % 40)), .int .i64 ((nr : Nat) : Int), s.val q]⟩ :: s.blks 4 (tab q (bv (origF (1 + (cw % 40)) fr)))) 0 q s ⟨by omega, by omega, hs⟩ ⟨rfl, rfl, rfl, rfl, rfl, rfl, rfl, trivial⟩ (List.Sublist.refl _) ?_
      rintro x q s ⟨hx, hq, hs⟩
      refine gc_seq ?_
      refine gc_seq ?_
      refine gc_region ?_
      refine ne (eo_mv rfl rfl) rfl ?_
      refine ne (eo_mv rfl rfl) rfl ?_
      refine ne (eo_lss rfl rfl rfl) rfl ?_
      refine go_nil ?_
      refine gq_next ?_
      refine gc_cond rfl (fun hc2 => ?_) (fun hc2 => ?_)
      ·
        replace hc2 := of_decide_eq_true hc2
        refine gc_skip ?_
        refine gq_next ?_
        refine gc_seq ?_
        refine gc_block ?_
        refine gc_draw [] [0, 1, 2, 3, 4, 5] [6] [7, 8, 9] (by kernel_rfl) (by kernel_rfl) ?_
        refine gp_nil ?_
        refine de rfl (eo_field rfl f24_2 rfl) rfl ?_
        refine de rfl (eo_load 0 rfl s22 rfl rfl rfl rfl) rfl ?_
        refine de rfl (eo_mv rfl rfl) rfl ?_
        refine de rfl (eo_mv rfl rfl) rfl ?_
        refine de rfl (eo_indexR rfl sl22 rfl rfl hrr (by simp) (by omega) (by omega)) rfl ?_
        refine de rfl (eo_load_old rfl s4 rfl (Rd.tabb hrr (by omega)) (by simp)) rfl ?_
        refine ge_nil ?_
        refine da rfl (xo_lit1 rfl Try.underlying22 e4 rfl (by first | rfl | exact AS.one)) rfl ?_
        rintro _ _ ⟨g69, rfl, rfl⟩
        refine ⟨by first | exact (List.Sublist.cons _ (List.Sublist.refl _)) | exact (List.sublist_append_left _ _), ?_⟩
        refine ga_nil ?_
        refine ix rfl (xo_app1b 2 rfl rfl Try.underlying22 e4 rfl hs rfl rfl (orig_at hq (by omega)) (by omega)) rfl ?_
        rintro _ _ ⟨s70, hs70, rfl, rfl⟩
        refine ie rfl (eo_field rfl f24_2 rfl) rfl ?_
        refine iu rfl (xo_store 1 rfl s22 rfl rfl (by first | rfl | exact AS.one) rfl rfl (by simp)) ?_
        rintro _ _ ⟨rfl, rfl⟩
        refine gi_nil ?_
        refine gq_nq ?_
        refine gq_block_end ?_
        refine gq_next ?_
        refine gc_region ?_
        refine ne (eo_mv rfl rfl) rfl ?_
        refine ne (eo_add rfl rfl rfl (by omega) (by omega)) rfl ?_
        refine ne (eo_as rfl rfl) rfl ?_
        refine go_nil ?_
        exact round3 (x + 1) (q + 1) s70 ⟨by omega, by push_cast; omega, hs70⟩ (by omega) ⟨rfl, rfl, rfl, rfl, rfl, rfl, rfl, trivial⟩ (List.Sublist.cons _ (List.Sublist.refl _))
      ·
        replace hc2 := of_decide_eq_false hc2
        refine gc_exit ?_
        refine gq_then_exit ?_
        refine gq_then_exit ?_
        refine gq_block_hit ?_
        refine gq_block_end ?_
        refine gq_next ?_
        refine gc_region ?_
        refine ne (eo_mv rfl rfl) rfl ?_
        refine ne (eo_add rfl rfl rfl (by omega) (by omega)) rfl ?_
        refine ne (eo_as rfl rfl) rfl ?_
        refine go_nil ?_
        exact round3 (y + 1) q s ⟨by omega, by push_cast; omega, hs⟩ (by omega) ⟨rfl, rfl, rfl, rfl, rfl, rfl, trivial⟩ (List.Sublist.refl _)
    ·
      replace hc1 := of_decide_eq_false hc1
      obtain rfl : q = (((1 + (cw % 40)) * ((nr : Nat) : Int)).toNat) := by rw [show (y : Int) = ((nr : Nat) : Int) by omega, Int.mul_comm] at hq; omega
      rw [AS.val_eq hs]
      refine gc_exit ?_
      refine gq_then_exit ?_
      refine gq_then_exit ?_
      refine gq_block_hit ?_
      refine gq_next ?_
      refine gc_seq ?_
      refine gc_region ?_
      refine ne (eo_loadA 0 rfl a24 rfl rfl rfl rfl) rfl ?_
      refine nx (xo_freshT rfl en23 rfl (fun W1 hO => trimmed_x _ _ _ _ _ _ W1 ((rds_as hs).rd (hO.tl 1 rfl (List.Sublist.refl _))) )) rfl ?_
      rintro _ _ ⟨S74, ⟨A74, k74, rfl, hk74, hS74⟩, rfl⟩
      refine ne (eo_mv rfl rfl) rfl ?_
      refine ne (eo_extract rfl rfl rfl) rfl ?_
      refine ne (eo_extract rfl rfl rfl) rfl ?_
      refine nx (xo_alloc rfl z24) rfl ?_
      rintro _ _ ⟨g15, rfl, rfl⟩
      refine nu (xo_storeA 0 rfl a24 rfl rfl (ones_cons (by first | rfl | exact AS.one) (ones_cons (by first | rfl | exact AS.one) (ones_cons (by first | rfl | exact AS.one) ones_nil))) rfl rfl rfl rfl) ?_
      rintro _ _ ⟨rfl, rfl⟩
      refine ne (eo_as rfl rfl) rfl ?_
      refine go_nil ?_
      refine gq_next ?_
      refine gc_seq ?_
      refine gc_seq ?_
      refine gc_region ?_
      refine ne (eo_mv rfl rfl) rfl ?_
      refine ne (eo_not rfl rfl) rfl ?_
      refine go_nil ?_
      refine gq_next ?_
      refine gc_cond rfl (fun hc3 => ?_) (fun hc3 => ?_)
      ·
        have hd3 := (not_t hc3)
        refine gc_seq ?_
        refine gc_region ?_
        refine ne (eo_call rfl en13 rfl (fun W1 hO => exam45_c W1  )) rfl ?_
        refine ne (eo_as rfl rfl) rfl ?_
        refine go_nil ?_
        refine gq_next ?_
        refine gc_ret ?_
        refine gq_then_ret ?_
        refine gq_results (res1 rfl rfl) ?_
        exact fun W1 hO => ⟨rfl, hO.toExt⟩
      ·
        have hd3 := (not_f hc3)
        have hM := corrects (ρ := fr) c1.1 c1.2 (by omega) (by omega) d1.1 d1.2 (show -12 ≤ (Int.tmod kk 13) by omega) (by omega) hd3
        refine gc_skip ?_
        refine gq_next ?_
        refine gc_seq ?_
        refine gc_region ?_
        refine ne (eo_mv rfl rfl) rfl ?_
        refine ne (eo_mv rfl rfl) rfl ?_
        refine ne (eo_mv rfl rfl) rfl ?_
        refine ne (eo_call rfl en24 rfl (fun W1 hO => shift_c _ _ _ _ W1  (by omega) (by omega) (by omega) (by omega) (by omega) (by omega) (by omega))) rfl ?_
        refine ne (eo_mv rfl rfl) rfl ?_
        refine ne (eo_sub rfl rfl rfl (by omega) (by omega)) rfl ?_
        refine ne (eo_mv rfl rfl) rfl ?_
        refine ne (eo_mv rfl rfl) rfl ?_
        refine ne (eo_mv rfl rfl) rfl ?_
        refine ne (eo_call rfl en24 rfl (fun W1 hO => shift_c _ _ _ _ W1  (by omega) (by omega) (by omega) (by omega) (by omega) (by omega) (by omega))) rfl ?_
        refine ne (eo_as rfl rfl) rfl ?_
        refine ne (eo_as rfl rfl) rfl ?_
        refine go_nil ?_
        refine gq_next ?_
        refine gc_seq ?_
        refine gc_region ?_
        refine ne (eo_mv rfl rfl) rfl ?_
        refine ne (eo_mv rfl rfl) rfl ?_
        refine ne (eo_len rfl Try.underlying22 rfl) rfl ?_
        refine ne (eo_mv rfl rfl) rfl ?_
        refine ne (eo_mv rfl rfl) rfl ?_
        refine ne (eo_max rfl rfl rfl) rfl ?_
        refine ne (eo_add rfl rfl rfl (by omega) (by omega)) rfl ?_
        refine ne (eo_build rfl rfl (b24_01 _ _)) rfl ?_
        refine nx (xo_alloc rfl z24) rfl ?_
        rintro _ _ ⟨g19, rfl, rfl⟩
        refine nu (xo_storeA 0 rfl a24 rfl rfl (ones_cons (by first | rfl | exact AS.one) (ones_cons (by first | rfl | exact AS.one) (ones_cons (by first | rfl | exact AS.one) ones_nil))) rfl rfl rfl rfl) ?_
        rintro _ _ ⟨rfl, rfl⟩
        refine go_nil ?_
        refine gq_next ?_
        refine gc_seq ?_
        refine gc_seq ?_
        refine gc_region ?_
        refine ne (eo_as rfl rfl) rfl ?_
        refine go_nil ?_
        refine gq_next ?_
        refine gc_block ?_
        refine loop3 (fun (y : Nat) (q : Nat) (u : AS) => (y : Int) ≤ (((nr : Nat) : Int) + (shMax (1 + (cw % 40)) (Int.tmod kk 13) (1 + (dd % 40)))) ∧ (q : Int) = y * (1 + (cw % 40)) ∧ u.Ok 1 q (tab q (bv (movF (1 + (cw % 40)) nr (shMax (1 + (cw % 40)) (Int.tmod kk 13) (1 + (dd % 40))) (Int.tmod kk 13) (1 + (dd % 40)) fr)))) (fun (y : Nat) (q : Nat) (u : AS) => ((((nr : Nat) : Int) + (shMax (1 + (cw % 40)) (Int.tmod kk 13) (1 + (dd % 40)))) - y).toNat) (fun (y : Nat) (q : Nat) (u : AS) => [(0, .slice Ar nr cr), (9, .int .i64 (1 + (cw % 40))), (10, .int .i64 (Int.tmod kk 13)), (11, .int .i64 (1 + (dd % 40))), (15, .pointer (some ⟨g15, 0, none⟩)), (17, .int .i64 (shI (1 + (cw % 40)) (Int.tmod kk 13) (1 + (dd % 40)) 0)), (18, .int .i64 (shI (1 + (cw % 40)) (Int.tmod kk 13) (1 + (dd % 40)) ((1 + (cw % 40)) - 1))), (19, .pointer (some ⟨g19, 0, none⟩)), (20, .int .i64 (y : Int))]) (fun (y : Nat) (q : Nat) (u : AS) => ⟨g19, 24, [.int .i64 (1 + (cw % 40)), .int .i64 (((nr : Nat) : Int) + (shMax (1 + (cw % 40)) (Int.tmod kk 13) (1 + (dd % 40)))), u.val q]⟩ :: ⟨g15, 24, [.int .i64 ((trimR ⟨(1 + (cw % 40)), ((nr : Nat) : Int), (((1 + (cw % 40)) * ((nr : Nat) : Int)).toNat), (origF (1 + (cw % 40)) fr)⟩).1.W), .int .i64 ((trimR ⟨(1 + (cw % 40)), ((nr : Nat) : Int), (((1 + (cw % 40)) * ((nr : Nat) : Int)).toNat), (origF (1 + (cw % 40)) fr)⟩).1.H), .slice A74 ((trimR ⟨(1 + (cw % 40)), ((nr : Nat) : Int), (((1 + (cw % 40)) * ((nr : Nat) : Int)).toNat), (origF (1 + (cw % 40)) fr)⟩).1.n) k74]⟩ :: ⟨g12, 24, [.int .i64 (1 + (cw % 40)), .int .i64 ((nr : Nat) : Int), .slice s.adr (((1 + (cw % 40)) * ((nr : Nat) : Int)).toNat) s.cap]⟩ :: ((s.blks 4 (tab (((1 + (cw % 40)) * ((nr : Nat) : Int)).toNat) (bv (origF (1 + (cw % 40)) fr))) ++ S74) ++ u.blks 4 (tab q (bv (movF (1 + (cw % 40)) nr (shMax (1 + (cw % 40)) (Int.tmod kk 13) (1 + (dd % 40))) (Int.tmod kk 13) (1 + (dd % 40)) fr))))) 0 0 .nil ⟨by omega, by simp, AS.Ok0⟩ ⟨rfl, rfl, rfl, rfl, rfl, rfl, rfl, rfl, rfl, trivial⟩ (List.Sublist.cons_cons _ (List.Sublist.cons_cons _ (List.Sublist.cons_cons _ sub_nil))) ?_
        rintro y q u ⟨hy, hq, hu⟩
        refine gc_seq ?_
        refine gc_seq ?_
        refine gc_region ?_
        refine ne (eo_mv rfl rfl) rfl ?_
        refine ne (eo_field rfl f24_1 rfl) rfl ?_
        refine ne (eo_load 0 rfl s3 rfl rfl rfl rfl) rfl ?_
        refine ne (eo_lss rfl rfl rfl) rfl ?_
        refine go_nil ?_
        refine gq_next ?_
        refine gc_cond rfl (fun hc4 => ?_) (fun hc4 => ?_)
        ·
          replace hc4 := of_decide_eq_true hc4
          have hyb := idx_bd (W := (1 + (cw % 40))) (H := (((nr : Nat) : Int) + (shMax (1 + (cw % 40)) (Int.tmod kk 13) (1 + (dd % 40))))) (x := 0) (y := (y : Int)) (by omega) (by omega) (by omega) (by omega)
          have ha : ((y : Int) + 1) * (1 + (cw % 40)) = y * (1 + (cw % 40)) + (1 + (cw % 40)) := add1_mul
          have hmu := Int.mul_le_mul c1.2 (show (((nr : Nat) : Int) + (shMax (1 + (cw % 40)) (Int.tmod kk 13) (1 + (dd % 40)))) ≤ 4096 by omega) (by omega) (by omega)
          refine gc_skip ?_
          refine gq_next ?_
          refine gc_seq ?_
          refine gc_block ?_
          refine gc_seq ?_
          refine gc_region ?_
          refine ne (eo_as rfl rfl) rfl ?_
          refine go_nil ?_
          refine gq_next ?_
          refine gc_block ?_
          refine loop3 (fun (x : Nat) (q : Nat) (u : AS) => (x : Int) ≤ (1 + (cw % 40)) ∧ (q : Int) = y * (1 + (cw % 40)) + x ∧ u.Ok 1 q (tab q (bv (movF (1 + (cw % 40)) nr (shMax (1 + (cw % 40)) (Int.tmod kk 13) (1 + (dd % 40))) (Int.tmod kk 13) (1 + (dd % 40)) fr)))) (fun (x : Nat) (q : Nat) (u : AS) => ((1 + (cw % 40)) - x).toNat) (fun (x : Nat) (q : Nat) (u : AS) => [(0, .slice Ar nr cr), (9, .int .i64 (1 + (cw % 40))), (10, .int .i64 (Int.tmod kk 13)), (11, .int .i64 (1 + (dd % 40))), (15, .pointer (some ⟨g15, 0, none⟩)), (17, .int .i64 (shI (1 + (cw % 40)) (Int.tmod kk 13) (1 + (dd % 40)) 0)), (18, .int .i64 (shI (1 + (cw % 40)) (Int.tmod kk 13) (1 + (dd % 40)) ((1 + (cw % 40)) - 1))), (19, .pointer (some ⟨g19, 0, none⟩)), (20, .int .i64 (y : Int)), (21, .int .i64 (x : Int))]) (fun (x : Nat) (q : Nat) (u : AS) => ⟨g19, 24, [.int .i64 (1 + (cw % 40)), .int .i64 (((nr : Nat) : Int) + (shMax (1 + (cw % 40)) (Int.tmod kk 13) (1 + (dd % 40)))), u.val q]⟩ :: ⟨g15, 24, [.int .i64 ((trimR ⟨(1 + (cw % 40)), ((nr : Nat) : Int), (((1 + (cw % 40)) * ((nr : Nat) : Int)).toNat), (origF (1 + (cw % 40)) fr)⟩).1.W), .int .i64 ((trimR ⟨(1 + (cw % 40)), ((nr : Nat) : Int), (((1 + (cw % 40)) * ((nr : Nat) : Int)).toNat), (origF (1 + (cw % 40)) fr)⟩).1.H), .slice A74 ((trimR ⟨(1 + (cw % 40)), ((nr : Nat) : Int), (((1 + (cw % 40)) * ((nr : Nat) : Int)).toNat), (origF (1 + (cw % 40)) fr)⟩).1.n) k74]⟩ :: ⟨g12, 24, [.int .i64 (1 + (cw % 40)), .int .i64 ((nr : Nat) : Int), .slice s.adr (((1 + (cw % 40)) * ((nr : Nat) : Int)).toNat) s.cap]⟩ :: ((s.blks 4 (tab (((1 + (cw % 40)) * ((nr : Nat) : Int)).toNat) (bv (origF (1 + (cw % 40)) fr))) ++ S74) ++ u.blks 4 (tab q (bv (movF (1 + (cw % 40)) nr (shMax (1 + (cw % 40)) (Int.tmod kk 13) (1 + (dd % 40))) (Int.tmod kk 13) (1 + (dd % 40)) fr))))) 0 q u ⟨by omega, by omega, hu⟩ ⟨rfl, rfl, rfl, rfl, rfl, rfl, rfl, rfl, rfl, rfl, trivial⟩ (List.Sublist.refl _) ?_
          rintro x q u ⟨hx, hq, hu⟩
          refine gc_seq ?_
          refine gc_seq ?_
          refine gc_region ?_
          refine ne (eo_mv rfl rfl) rfl ?_
          refine ne (eo_mv rfl rfl) rfl ?_
          refine ne (eo_lss rfl rfl rfl) rfl ?_
          refine go_nil ?_
          refine gq_next ?_
          refine gc_cond rfl (fun hc5 => ?_) (fun hc5 => ?_)
          ·
            replace hc5 := of_decide_eq_true hc5
            have hsx := sh_small (W := (1 + (cw % 40))) (num := (Int.tmod kk 13)) (d := (1 + (dd % 40))) (x := (x : Int)) c1.2 (by omega) (by omega) d1.1 (by omega) (by omega)
            refine gc_skip ?_
            refine gq_next ?_
            refine gc_seq ?_
            refine gc_block ?_
            refine gc_seq ?_
            refine gc_region ?_
            refine ne (eo_mv rfl rfl) rfl ?_
            refine ne (eo_mv rfl rfl) rfl ?_
            refine ne (eo_mv rfl rfl) rfl ?_
            refine ne (eo_max rfl rfl rfl) rfl ?_
            refine ne (eo_sub rfl rfl rfl (by omega) (by omega)) rfl ?_
            refine ne (eo_mv rfl rfl) rfl ?_
            refine ne (eo_mv rfl rfl) rfl ?_
            refine ne (eo_mv rfl rfl) rfl ?_
            refine ne (eo_mv rfl rfl) rfl ?_
            refine ne (eo_call rfl en24 rfl (fun W1 hO => shift_c _ _ _ _ W1  (by omega) (by omega) (by omega) (by omega) (by omega) (by omega) (by omega))) rfl ?_
            refine ne (eo_add rfl rfl rfl (by omega) (by omega)) rfl ?_
            refine ne (eo_as rfl rfl) rfl ?_
            refine go_nil ?_
            refine gq_next ?_
            refine gc_draw [] [0, 1, 2, 3, 4, 5, 6, 7, 8, 9, 10, 11, 12, 13, 14, 15] [16] [17, 18, 19] (by kernel_rfl) (by kernel_rfl) ?_
            refine gp_nil ?_
            refine de rfl (eo_field rfl f24_2 rfl) rfl ?_
            refine de rfl (eo_load 0 rfl s22 rfl rfl rfl rfl) rfl ?_
            refine de rfl (eo_mv rfl rfl) rfl ?_
            refine de rfl (eo_geq rfl rfl rfl) rfl ?_
            refine de rfl (eo_mv rfl rfl) rfl ?_
            refine dg rfl rfl rfl (fun h => eo_mv rfl rfl) rfl ?_
            refine dg rfl rfl rfl (fun h => eo_mv rfl rfl) rfl ?_
            refine dg rfl rfl rfl (fun h => eo_len rfl Try.underlying22 (ev_if h rfl)) rfl ?_
            refine dg rfl rfl rfl (fun h => eo_lss rfl (ev_if h rfl) (ev_if h rfl)) rfl ?_
            refine de rfl (eo_and rfl rfl (fun hb => ev_if hb rfl)) rfl ?_
            refine de rfl (eo_mv rfl rfl) rfl ?_
            refine dg rfl rfl rfl (fun h => eo_mv rfl rfl) rfl ?_
            refine dg rfl rfl rfl (fun h => eo_mv rfl rfl) rfl ?_
            refine dg rfl rfl rfl (fun h => eo_indexR rfl sl22 (ev_if h rfl) (ev_if h rfl) hrr (by simp) (by have hg0 := (and_t h).imp (fun h => of_decide_eq_true h) (fun h => of_decide_eq_true h); omega) (by have hg0 := (and_t h).imp (fun h => of_decide_eq_true h) (fun h => of_decide_eq_true h); omega)) rfl ?_
            refine dg rfl rfl rfl (fun h => eo_load_old rfl s4 (ev_if h rfl) (Rd.tabb hrr (by have hg0 := (and_t h).imp (fun h => of_decide_eq_true h) (fun h => of_decide_eq_true h); omega)) (by simp)) rfl ?_
            refine de rfl (eo_and rfl rfl (fun hb => ev_if hb rfl)) rfl ?_
            refine ge_nil ?_
            refine da rfl (xo_lit1 rfl Try.underlying22 e4 rfl (by first | rfl | exact AS.one)) rfl ?_
            rintro _ _ ⟨g136, rfl, rfl⟩
            refine ⟨by first | exact (List.Sublist.cons _ (List.Sublist.refl _)) | exact (List.sublist_append_left _ _), ?_⟩
            refine ga_nil ?_
            refine ix rfl (xo_app1bT (⟨g136, 4, [.bool ((decide (0 ≤ (((y : Int) - (max (shI (1 + (cw % 40)) (Int.tmod kk 13) (1 + (dd % 40)) 0) (shI (1 + (cw % 40)) (Int.tmod kk 13) (1 + (dd % 40)) ((1 + (cw % 40)) - 1)))) + (shI (1 + (cw % 40)) (Int.tmod kk 13) (1 + (dd % 40)) (x : Int)))) && decide ((((y : Int) - (max (shI (1 + (cw % 40)) (Int.tmod kk 13) (1 + (dd % 40)) 0) (shI (1 + (cw % 40)) (Int.tmod kk 13) (1 + (dd % 40)) ((1 + (cw % 40)) - 1)))) + (shI (1 + (cw % 40)) (Int.tmod kk 13) (1 + (dd % 40)) (x : Int))) < ((nr : Nat) : Int))) && (fr (((((y : Int) - (max (shI (1 + (cw % 40)) (Int.tmod kk 13) (1 + (dd % 40)) 0) (shI (1 + (cw % 40)) (Int.tmod kk 13) (1 + (dd % 40)) ((1 + (cw % 40)) - 1)))) + (shI (1 + (cw % 40)) (Int.tmod kk 13) (1 + (dd % 40)) (x : Int)))).toNat)))]⟩ :: ⟨g19, 24, [.int .i64 (1 + (cw % 40)), .int .i64 (((nr : Nat) : Int) + (shMax (1 + (cw % 40)) (Int.tmod kk 13) (1 + (dd % 40)))), u.val q]⟩ :: ⟨g15, 24, [.int .i64 ((trimR ⟨(1 + (cw % 40)), ((nr : Nat) : Int), (((1 + (cw % 40)) * ((nr : Nat) : Int)).toNat), (origF (1 + (cw % 40)) fr)⟩).1.W), .int .i64 ((trimR ⟨(1 + (cw % 40)), ((nr : Nat) : Int), (((1 + (cw % 40)) * ((nr : Nat) : Int)).toNat), (origF (1 + (cw % 40)) fr)⟩).1.H), .slice A74 ((trimR ⟨(1 + (cw % 40)), ((nr : Nat) : Int), (((1 + (cw % 40)) * ((nr : Nat) : Int)).toNat), (origF (1 + (cw % 40)) fr)⟩).1.n) k74]⟩ :: ⟨g12, 24, [.int .i64 (1 + (cw % 40)), .int .i64 ((nr : Nat) : Int), .slice s.adr (((1 + (cw % 40)) * ((nr : Nat) : Int)).toNat) s.cap]⟩ :: (s.blks 4 (tab (((1 + (cw % 40)) * ((nr : Nat) : Int)).toNat) (bv (origF (1 + (cw % 40)) fr))) ++ S74)) rfl rfl Try.underlying22 e4 rfl hu rfl rfl (mov_at hq (by omega)) (by omega)) rfl ?_
            rintro _ _ ⟨s137, hs137, rfl, rfl⟩
            refine ie rfl (eo_field rfl f24_2 rfl) rfl ?_
            refine iu rfl (xo_store 1 rfl s22 rfl rfl (by first | rfl | exact AS.one) rfl rfl (by simp)) ?_
            rintro _ _ ⟨rfl, rfl⟩
            refine gi_nil ?_
            refine gq_nq ?_
            refine gq_block_end ?_
            refine gq_next ?_
            refine gc_region ?_
            refine ne (eo_mv rfl rfl) rfl ?_
            refine ne (eo_add rfl rfl rfl (by omega) (by omega)) rfl ?_
            refine ne (eo_as rfl rfl) rfl ?_
            refine go_nil ?_
            exact round3 (x + 1) (q + 1) s137 ⟨by omega, by push_cast; omega, hs137⟩ (by omega) ⟨rfl, rfl, rfl, rfl, rfl, rfl, rfl, rfl, rfl, rfl, trivial⟩ (List.Sublist.cons _ (List.Sublist.refl _))
          ·
            replace hc5 := of_decide_eq_false hc5
            refine gc_exit ?_
            refine gq_then_exit ?_
            refine gq_then_exit ?_
            refine gq_block_hit ?_
            refine gq_block_end ?_
            refine gq_next ?_
            refine gc_region ?_
            refine ne (eo_mv rfl rfl) rfl ?_
            refine ne (eo_add rfl rfl rfl (by omega) (by omega)) rfl ?_
            refine ne (eo_as rfl rfl) rfl ?_
            refine go_nil ?_
            exact round3 (y + 1) q u ⟨by omega, by push_cast; omega, hu⟩ (by omega) ⟨rfl, rfl, rfl, rfl, rfl, rfl, rfl, rfl, rfl, trivial⟩ (List.Sublist.refl _)
        ·
          replace hc4 := of_decide_eq_false hc4
          obtain rfl : q = (((1 + (cw % 40)) * (((nr : Nat) : Int) + (shMax (1 + (cw % 40)) (Int.tmod kk 13) (1 + (dd % 40))))).toNat) := by rw [show (y : Int) = (((nr : Nat) : Int) + (shMax (1 + (cw % 40)) (Int.tmod kk 13) (1 + (dd % 40)))) by omega, Int.mul_comm] at hq; omega
          rw [AS.val_eq hu]
          refine gc_exit ?_
          refine gq_then_exit ?_
          refine gq_then_exit ?_
          refine gq_block_hit ?_
          refine gq_next ?_
          refine gc_seq ?_
          refine gc_region ?_
          refine ne (eo_loadA 0 rfl a24 rfl rfl rfl rfl) rfl ?_
          refine ne (eo_mv rfl rfl) rfl ?_
          refine nx (xo_freshT rfl en21 rfl (fun W1 hO => desk_x _ _ _ _ _ _ _ _ W1 ((rds_as hu).rd (hO.tl 3 rfl (List.sublist_append_right _ _))) (as_le hu))) rfl ?_
          rintro _ _ ⟨S142, ⟨A142, k142, rfl, hk142, hS142⟩, rfl⟩
          refine ne (eo_mv rfl rfl) rfl ?_
          refine ne (eo_extract rfl rfl rfl) rfl ?_
          refine ne (eo_extract rfl rfl rfl) rfl ?_
          refine ne (eo_extract rfl rfl rfl) rfl ?_
          refine nx (xo_alloc rfl z24) rfl ?_
          rintro _ _ ⟨g23, rfl, rfl⟩
          refine nu (xo_storeA 0 rfl a24 rfl rfl (ones_cons (by first | rfl | exact AS.one) (ones_cons (by first | rfl | exact AS.one) (ones_cons (by first | rfl | exact AS.one) ones_nil))) rfl rfl rfl rfl) ?_
          rintro _ _ ⟨rfl, rfl⟩
          refine ne (eo_as rfl rfl) rfl ?_
          refine ne (eo_as rfl rfl) rfl ?_
          refine go_nil ?_
          refine gq_next ?_
          refine gc_seq ?_
          refine gc_region ?_
          refine ne (eo_loadA 0 rfl a24 rfl rfl rfl rfl) rfl ?_
          refine nx (xo_freshT rfl en23 rfl (fun W1 hO => trimmed_x _ _ _ _ _ _ W1 (hS142.rd (hO.tl 4 rfl (List.sublist_append_right _ _))) )) rfl ?_
          rintro _ _ ⟨S148, ⟨A148, k148, rfl, hk148, hS148⟩, rfl⟩
          refine ne (eo_mv rfl rfl) rfl ?_
          refine ne (eo_extract rfl rfl rfl) rfl ?_
          refine ne (eo_extract rfl rfl rfl) rfl ?_
          refine nx (xo_alloc rfl z24) rfl ?_
          rintro _ _ ⟨g26, rfl, rfl⟩
          refine nu (xo_storeA 0 rfl a24 rfl rfl (ones_cons (by first | rfl | exact AS.one) (ones_cons (by first | rfl | exact AS.one) (ones_cons (by first | rfl | exact AS.one) ones_nil))) rfl rfl rfl rfl) ?_
          rintro _ _ ⟨rfl, rfl⟩
          refine ne (eo_as rfl rfl) rfl ?_
          refine go_nil ?_
          refine gq_next ?_
          refine gc_seq ?_
          refine gc_region ?_
          refine ne (eo_mv rfl rfl) rfl ?_
          refine ne (eo_eql rfl rfl rfl) rfl ?_
          refine ne (eo_mv rfl rfl) rfl ?_
          refine ng rfl rfl (fun h => eo_mv rfl rfl) rfl ?_
          refine ne (eo_and rfl rfl (fun hb => ev_if hb rfl)) rfl ?_
          refine ne (eo_mv rfl rfl) rfl ?_
          refine ng rfl rfl (fun h => eo_loadA 0 rfl a24 rfl rfl rfl rfl) rfl ?_
          refine ng rfl rfl (fun h => eo_loadA 3 rfl a24 rfl rfl rfl rfl) rfl ?_
          refine ng rfl rfl (fun h => eo_call rfl en16 (evs_cons (ev_if h rfl) (evs_cons (ev_if h rfl) evs_nil)) (fun W1 hO => requal_c _ _ _ _ _ _ _ _ _ _ _ _ W1 (Nat.le_trans trimR_le (by decide)) (hS148.rd (hO.tl 5 rfl (List.sublist_append_right _ _))) (hS74.rd (hO.tl 5 rfl ((((List.sublist_append_right _ _).trans (List.sublist_append_left _ _)).trans (List.sublist_append_left _ _)).trans (List.sublist_append_left _ _)))))) rfl ?_
          refine ne (eo_and rfl rfl (fun hb => ev_if hb rfl)) rfl ?_
          refine ne (eo_mv rfl rfl) rfl ?_
          refine ng rfl rfl (fun h => eo_call rfl en13 rfl (fun W1 hO => exam45_c W1  )) rfl ?_
          refine ne (eo_and rfl rfl (fun hb => ev_if hb rfl)) rfl ?_
          refine ne (eo_as rfl rfl) rfl ?_
          refine go_nil ?_
          refine gq_next ?_
          refine gc_ret ?_
          refine gq_results (res1 rfl rfl) ?_
          exact fun W1 hO => ⟨ret_bool (show (((decide ((deskR ⟨(1 + (cw % 40)), (((nr : Nat) : Int) + (shMax (1 + (cw % 40)) (Int.tmod kk 13) (1 + (dd % 40)))), (((1 + (cw % 40)) * (((nr : Nat) : Int) + (shMax (1 + (cw % 40)) (Int.tmod kk 13) (1 + (dd % 40))))).toNat), (movF (1 + (cw % 40)) nr (shMax (1 + (cw % 40)) (Int.tmod kk 13) (1 + (dd % 40))) (Int.tmod kk 13) (1 + (dd % 40)) fr)⟩ 12 (1 + (dd % 40))).2.2 = 0) && (trimR (deskR ⟨(1 + (cw % 40)), (((nr : Nat) : Int) + (shMax (1 + (cw % 40)) (Int.tmod kk 13) (1 + (dd % 40)))), (((1 + (cw % 40)) * (((nr : Nat) : Int) + (shMax (1 + (cw % 40)) (Int.tmod kk 13) (1 + (dd % 40))))).toNat), (movF (1 + (cw % 40)) nr (shMax (1 + (cw % 40)) (Int.tmod kk 13) (1 + (dd % 40))) (Int.tmod kk 13) (1 + (dd % 40)) fr)⟩ 12 (1 + (dd % 40))).1).2) && (eqP (trimR (deskR ⟨(1 + (cw % 40)), (((nr : Nat) : Int) + (shMax (1 + (cw % 40)) (Int.tmod kk 13) (1 + (dd % 40)))), (((1 + (cw % 40)) * (((nr : Nat) : Int) + (shMax (1 + (cw % 40)) (Int.tmod kk 13) (1 + (dd % 40))))).toNat), (movF (1 + (cw % 40)) nr (shMax (1 + (cw % 40)) (Int.tmod kk 13) (1 + (dd % 40))) (Int.tmod kk 13) (1 + (dd % 40)) fr)⟩ 12 (1 + (dd % 40))).1).1 (trimR ⟨(1 + (cw % 40)), ((nr : Nat) : Int), (((1 + (cw % 40)) * ((nr : Nat) : Int)).toNat), (origF (1 + (cw % 40)) fr)⟩).1)) && true) = true from by simp [hM.1, hM.2.1, hM.2.2]), hO.toExt⟩

end Go.Proofs.Ytmgkpdpmjhgekaa
