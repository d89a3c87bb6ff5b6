/-
  The walks of the functions of package font and of the document's answer (part C): what each call returns, at every argument.
-/
import Derived.Test.YtjndoanhkfdngaaWB
namespace Go.Proofs.Ytjndoanhkfdngaa
open Go.RowKit Go.Eng

open Go.Bs
theorem en25 : Ent Try.prog 25 := ent_of Try.func25 (by kernel_rfl) rfl
theorem e5 : TyE Try.prog 5 (.int .u8 0) 1 := ⟨rfl, by kernel_rfl⟩
theorem en13 : Ent Try.prog 13 := ent_of Try.func13 (by kernel_rfl) rfl
theorem en14 : Ent Try.prog 14 := ent_of Try.func14 (by kernel_rfl) rfl
theorem en17 : Ent Try.prog 17 := ent_of Try.func17 (by kernel_rfl) rfl
theorem sl35 : TySl Try.prog 35 5 1 := ⟨Try.underlying35, by kernel_rfl⟩
theorem s5 : TyS Try.prog 5 := ⟨⟨_, Try.underlying5, rfl⟩, by kernel_rfl⟩
theorem en15 : Ent Try.prog 15 := ent_of Try.func15 (by kernel_rfl) rfl
theorem en18 : Ent Try.prog 18 := ent_of Try.func18 (by kernel_rfl) rfl
theorem en16 : Ent Try.prog 16 := ent_of Try.func16 (by kernel_rfl) rfl

/-- barscan/barscanref47.Glyph -/
theorem rglyph_x (c : Int) (w : World)  (h0 : 0 ≤ c) (h1 : c ≤ 255) :
    Calls Try.prog 14 #[.int .u8 c] w (fun e w' => ∃ v Hn, e = .returned v ∧ RX (glyR c) v Hn ∧ Ow [] w w' Hn) := by
  refine calls_enter (N := ⟨33, []⟩) [] ([]) Try.func14 rfl rfl rfl (Ow.start _) ?_
  refine gc_seq ?_
  refine gc_region ?_
  refine nx (xo_alloc rfl z25) rfl ?_
  rintro _ _ ⟨g2, rfl, rfl⟩
  refine ne (eo_as rfl rfl) rfl ?_
  refine go_nil ?_
  refine gq_next ?_
  refine gc_seq ?_
  refine gc_region ?_
  refine ne (eo_mv rfl rfl) rfl ?_
  refine ne (eo_call rfl en25 rfl (fun W1 hO => rows_c _ W1  (by omega) (by omega))) rfl ?_
  refine ne (eo_as rfl rfl) rfl ?_
  refine go_nil ?_
  refine gq_next ?_
  refine gc_seq ?_
  refine gc_seq ?_
  refine gc_region ?_
  refine ne (eo_mv rfl rfl) rfl ?_
  refine ne (eo_seql rfl rfl rfl) rfl ?_
  refine go_nil ?_
  refine gq_next ?_
  refine gc_cond rfl (fun hc0 => ?_) (fun hc0 => ?_)
  ·
    refine gc_seq ?_
    refine gc_region ?_
    refine ne (eo_build rfl rfl (b25_)) rfl ?_
    refine nu (xo_storeA 0 rfl a25 rfl rfl (ones_cons (by first | rfl | exact AS.one) (ones_cons (by first | rfl | exact AS.one) (ones_cons (by first | rfl | exact AS.one) ones_nil))) rfl rfl rfl rfl) ?_
    rintro _ _ ⟨rfl, rfl⟩
    refine ne (eo_as rfl rfl) rfl ?_
    refine go_nil ?_
    refine gq_next ?_
    refine gc_ret ?_
    refine gq_then_ret ?_
    refine gq_results (resCT 0 rfl a25 rfl rfl rfl rfl rfl) ?_
    exact fun W1 hO => rx_nil hO (glyR_no (by rw [refS_nil] at hc0; exact not_t hc0))
  ·
    have hkn : knownB c = true := by
      rw [refS_nil] at hc0
      exact not_f hc0
    rw [refS_yes hkn]
    have hsz := glyS_size c
    refine gc_skip ?_
    refine gq_next ?_
    refine gc_seq ?_
    refine gc_region ?_
    refine ne (eo_build rfl rfl (b25_01 _ _)) rfl ?_
    refine nx (xo_alloc rfl z25) rfl ?_
    rintro _ _ ⟨g5, rfl, rfl⟩
    refine nu (xo_storeA 0 rfl a25 rfl rfl (ones_cons (by first | rfl | exact AS.one) (ones_cons (by first | rfl | exact AS.one) (ones_cons (by first | rfl | exact AS.one) ones_nil))) rfl rfl rfl rfl) ?_
    rintro _ _ ⟨rfl, rfl⟩
    refine go_nil ?_
    refine gq_next ?_
    refine gc_seq ?_
    refine gc_seq ?_
    refine gc_region ?_
    refine ne (eo_as rfl rfl) rfl ?_
    refine go_nil ?_
    refine gq_next ?_
    refine gc_block ?_
    refine loop3 (fun (p : Nat) (k : Nat) (s : AS) => p ≤ 41 ∧ k = p / 6 * 5 + min (p % 6) 5 ∧ s.Ok 1 k (tab k (bv (gpx c)))) (fun (p : Nat) (k : Nat) (s : AS) => 41 - p) (fun (p : Nat) (k : Nat) (s : AS) => [(2, .pointer (some ⟨g2, 0, none⟩)), (4, .string (glyS c)), (5, .pointer (some ⟨g5, 0, none⟩)), (6, .int .i64 (p : Int))]) (fun (p : Nat) (k : Nat) (s : AS) => ⟨g5, 25, [.int .i64 5, .int .i64 7, s.val k]⟩ :: ⟨g2, 25, [.int .i64 0, .int .i64 0, .slice none 0 0]⟩ :: s.blks 4 (tab k (bv (gpx c)))) 0 0 .nil ⟨by omega, by rfl, AS.Ok0⟩ ⟨rfl, rfl, rfl, rfl, trivial⟩ (List.Sublist.refl _) ?_
    rintro p k s ⟨hp, hk, hs⟩
    refine gc_seq ?_
    refine gc_seq ?_
    refine gc_region ?_
    refine ne (eo_mv rfl rfl) rfl ?_
    refine ne (eo_mv rfl rfl) rfl ?_
    refine ne (eo_lenS rfl Try.underlying9 rfl) rfl ?_
    refine ne (eo_lss rfl rfl rfl) rfl ?_
    refine go_nil ?_
    refine gq_next ?_
    refine gc_cond rfl (fun hc1 => ?_) (fun hc1 => ?_)
    ·
      replace hc1 := of_decide_eq_true hc1
      refine gc_skip ?_
      refine gq_next ?_
      refine gc_seq ?_
      refine gc_block ?_
      refine gc_seq ?_
      refine gc_region ?_
      refine ne (eo_mv rfl rfl) rfl ?_
      refine ne (eo_mv rfl rfl) rfl ?_
      refine ne (eo_strAt rfl Try.underlying9 rfl rfl (by omega) (by omega)) rfl ?_
      refine ne (eo_neq rfl rfl rfl) rfl ?_
      refine go_nil ?_
      refine gq_next ?_
      refine gc_cond rfl (fun hc2 => ?_) (fun hc2 => ?_)
      ·
        replace hc2 := of_decide_eq_true hc2
        obtain ⟨hb1, hb2⟩ := byte_bit (by omega) hc2 hk
        refine gc_draw [] [0, 1, 2, 3, 4, 5] [6] [7, 8, 9] (by kernel_rfl) (by kernel_rfl) ?_
        refine gp_nil ?_
        refine de rfl (eo_field rfl f25_2 rfl) rfl ?_
        refine de rfl (eo_load 0 rfl s23 rfl rfl rfl rfl) rfl ?_
        refine de rfl (eo_mv rfl rfl) rfl ?_
        refine de rfl (eo_mv rfl rfl) rfl ?_
        refine de rfl (eo_strAt rfl Try.underlying9 rfl rfl (by omega) (by omega)) rfl ?_
        refine de rfl (eo_eql rfl rfl rfl) rfl ?_
        refine ge_nil ?_
        refine da rfl (xo_lit1 rfl Try.underlying23 e4 rfl (by first | rfl | exact AS.one)) rfl ?_
        rintro _ _ ⟨g29, rfl, rfl⟩
        refine ⟨by first | exact (List.Sublist.cons _ (List.Sublist.refl _)) | exact (List.sublist_append_left _ _), ?_⟩
        refine ga_nil ?_
        refine ix rfl (xo_app1b 3 rfl rfl Try.underlying23 e4 rfl hs rfl rfl hb2 (by omega)) rfl ?_
        rintro _ _ ⟨s30, hs30, rfl, rfl⟩
        refine ie rfl (eo_field rfl f25_2 rfl) rfl ?_
        refine iu rfl (xo_store 1 rfl s23 rfl rfl (by first | rfl | exact AS.one) rfl rfl (by simp)) ?_
        rintro _ _ ⟨rfl, rfl⟩
        refine gi_nil ?_
        refine gq_nq ?_
        refine gq_block_end ?_
        refine gq_next ?_
        refine gc_region ?_
        refine ne (eo_mv rfl rfl) rfl ?_
        refine ne (eo_add rfl rfl rfl (by omega) (by omega)) rfl ?_
        refine ne (eo_as rfl rfl) rfl ?_
        refine go_nil ?_
        exact round3 (p + 1) (k + 1) s30 ⟨by omega, by omega, hs30⟩ (by omega) ⟨rfl, rfl, rfl, rfl, trivial⟩ (List.Sublist.cons _ (List.Sublist.refl _))
      ·
        replace hc2 := of_decide_eq_false hc2
        have hb1 := byte_sp (by omega) hc2
        refine gc_skip ?_
        refine gq_block_end ?_
        refine gq_next ?_
        refine gc_region ?_
        refine ne (eo_mv rfl rfl) rfl ?_
        refine ne (eo_add rfl rfl rfl (by omega) (by omega)) rfl ?_
        refine ne (eo_as rfl rfl) rfl ?_
        refine go_nil ?_
        exact round3 (p + 1) k s ⟨by omega, by omega, hs⟩ (by omega) ⟨rfl, rfl, rfl, rfl, trivial⟩ (List.Sublist.refl _)
    ·
      replace hc1 := of_decide_eq_false hc1
      refine gc_exit ?_
      refine gq_then_exit ?_
      refine gq_then_exit ?_
      refine gq_block_hit ?_
      refine gq_next ?_
      refine gc_seq ?_
      refine gc_region ?_
      refine ne (eo_loadA 0 rfl a25 rfl rfl rfl rfl) rfl ?_
      refine nu (xo_storeA 1 rfl a25 rfl rfl (ones_cons (by first | rfl | exact AS.one) (ones_cons (by first | rfl | exact AS.one) (ones_cons (by first | rfl | exact AS.one) ones_nil))) rfl rfl rfl rfl) ?_
      rintro _ _ ⟨rfl, rfl⟩
      refine ne (eo_as rfl rfl) rfl ?_
      refine go_nil ?_
      refine gq_next ?_
      refine gc_ret ?_
      refine gq_results (resCT 1 rfl a25 rfl rfl rfl rfl rfl) ?_
      obtain rfl : k = 35 := by omega
      exact fun W1 hO => rx_as 2 hO rfl hs (glyR_ok hkn)

/-- barscan/font.Chars -/
theorem chars_x  (w : World)   :
    Calls Try.prog 17 #[] w (fun e w' => ∃ v Hn, e = .returned v ∧ RLu 62 chC v Hn ∧ Ow [] w w' Hn) := by
  refine calls_enter (N := ⟨15, []⟩) [] ([]) Try.func17 rfl rfl rfl (Ow.start _) ?_
  refine gc_seq ?_
  refine gc_region ?_
  refine ne (eo_as rfl rfl) rfl ?_
  refine go_nil ?_
  refine gq_next ?_
  refine gc_seq ?_
  refine gc_region ?_
  refine ne (eo_as rfl rfl) rfl ?_
  refine go_nil ?_
  refine gq_next ?_
  refine gc_seq ?_
  refine gc_seq ?_
  refine gc_region ?_
  refine ne (eo_as rfl rfl) rfl ?_
  refine go_nil ?_
  refine gq_next ?_
  refine gc_block ?_
  refine loop3 (fun (c : Int) (k : Nat) (s : AS) => (0 ≤ c ∧ c ≤ 128) ∧ k = kcnt c ∧ s.Ok 1 k (tab k (iv .u8 chC))) (fun (c : Int) (k : Nat) (s : AS) => (128 - c).toNat) (fun (c : Int) (k : Nat) (s : AS) => [(1, s.val k), (2, .int .i32 c)]) (fun (c : Int) (k : Nat) (s : AS) => s.blks 5 (tab k (iv .u8 chC))) 0 0 .nil ⟨by omega, by rfl, AS.Ok0⟩ ⟨rfl, rfl, trivial⟩ (List.Sublist.refl _) ?_
  rintro c k s ⟨hc, hk, hs⟩
  have hkl := kcnt_le (c := c)
  refine gc_seq ?_
  refine gc_seq ?_
  refine gc_region ?_
  refine ne (eo_mv rfl rfl) rfl ?_
  refine ne (eo_lss rfl rfl rfl) rfl ?_
  refine go_nil ?_
  refine gq_next ?_
  refine gc_cond rfl (fun hc0 => ?_) (fun hc0 => ?_)
  ·
    replace hc0 := of_decide_eq_true hc0
    refine gc_skip ?_
    refine gq_next ?_
    refine gc_seq ?_
    refine gc_block ?_
    refine gc_seq ?_
    refine gc_region ?_
    refine ne (eo_mv rfl rfl) rfl ?_
    refine ne (eo_call rfl en24 rfl (fun W1 hO => known_c _ W1  )) rfl ?_
    refine go_nil ?_
    refine gq_next ?_
    refine gc_cond rfl (fun hc1 => ?_) (fun hc1 => ?_)
    ·
      have hki := known_iff.1 hc1
      obtain ⟨hk1, hk2⟩ := kcnt_yes hc1
      refine gc_region ?_
      refine ne (eo_mv rfl rfl) rfl ?_
      refine ne (eo_mv rfl rfl) rfl ?_
      refine ne (eo_convk rfl rfl ⟨_, Try.underlying21⟩ Try.underlying5 (u8_in (by omega) (by omega))) rfl ?_
      refine nx (xo_lit1 rfl Try.underlying35 e5 rfl (by first | rfl | exact AS.one)) rfl ?_
      rintro _ _ ⟨g12, rfl, rfl⟩
      refine nx (xo_app1i 1 rfl rfl Try.underlying35 e5 rfl hs rfl rfl (by rw [hk, hk2]) (by omega) (by decide)) rfl ?_
      rintro _ _ ⟨s13, hs13, rfl, rfl⟩
      refine ne (eo_as rfl rfl) rfl ?_
      refine go_nil ?_
      refine gq_block_end ?_
      refine gq_next ?_
      refine gc_region ?_
      refine ne (eo_mv rfl rfl) rfl ?_
      refine ne (eo_addk rfl rfl rfl (i32_in (by omega) (by omega))) rfl ?_
      refine ne (eo_as rfl rfl) rfl ?_
      refine go_nil ?_
      exact round3 (c + 1) (k + 1) s13 ⟨by omega, by rw [hk1, hk], hs13⟩ (by omega) ⟨rfl, rfl, trivial⟩ (List.Sublist.cons _ (List.Sublist.refl _))
    ·
      have hk1 := kcnt_no hc1
      refine gc_skip ?_
      refine gq_block_end ?_
      refine gq_next ?_
      refine gc_region ?_
      refine ne (eo_mv rfl rfl) rfl ?_
      refine ne (eo_addk rfl rfl rfl (i32_in (by omega) (by omega))) rfl ?_
      refine ne (eo_as rfl rfl) rfl ?_
      refine go_nil ?_
      exact round3 (c + 1) k s ⟨by omega, by rw [hk1, hk], hs⟩ (by omega) ⟨rfl, rfl, trivial⟩ (List.Sublist.refl _)
  ·
    replace hc0 := of_decide_eq_false hc0
    refine gc_exit ?_
    refine gq_then_exit ?_
    refine gq_then_exit ?_
    refine gq_block_hit ?_
    refine gq_next ?_
    refine gc_seq ?_
    refine gc_region ?_
    refine ne (eo_mv rfl rfl) rfl ?_
    refine ne (eo_as rfl rfl) rfl ?_
    refine go_nil ?_
    refine gq_next ?_
    refine gc_ret ?_
    refine gq_results (res1 rfl rfl) ?_
    obtain rfl : c = 128 := by omega
    exact fun W1 hO => rlu_as 0 hO rfl hs (by rw [hk]; rfl)

/-- barscan/barscanref47.Chars -/
theorem rchars_x  (w : World)   :
    Calls Try.prog 18 #[] w (fun e w' => ∃ v Hn, e = .returned v ∧ RLu 62 chC v Hn ∧ Ow [] w w' Hn) := by
  refine calls_enter (N := ⟨17, []⟩) [] ([]) Try.func18 rfl rfl rfl (Ow.start _) ?_
  refine gc_seq ?_
  refine gc_region ?_
  refine ne (eo_as rfl rfl) rfl ?_
  refine go_nil ?_
  refine gq_next ?_
  refine gc_seq ?_
  refine gc_region ?_
  refine ne (eo_as rfl rfl) rfl ?_
  refine go_nil ?_
  refine gq_next ?_
  refine gc_seq ?_
  refine gc_seq ?_
  refine gc_region ?_
  refine ne (eo_as rfl rfl) rfl ?_
  refine go_nil ?_
  refine gq_next ?_
  refine gc_block ?_
  refine loop3 (fun (c : Int) (k : Nat) (s : AS) => (0 ≤ c ∧ c ≤ 256) ∧ k = kcnt c ∧ s.Ok 1 k (tab k (iv .u8 chC))) (fun (c : Int) (k : Nat) (s : AS) => (256 - c).toNat) (fun (c : Int) (k : Nat) (s : AS) => [(1, s.val k), (2, .int .i64 c)]) (fun (c : Int) (k : Nat) (s : AS) => s.blks 5 (tab k (iv .u8 chC))) 0 0 .nil ⟨by omega, by rfl, AS.Ok0⟩ ⟨rfl, rfl, trivial⟩ (List.Sublist.refl _) ?_
  rintro c k s ⟨hc, hk, hs⟩
  have hkl := kcnt_le (c := c)
  refine gc_seq ?_
  refine gc_seq ?_
  refine gc_region ?_
  refine ne (eo_mv rfl rfl) rfl ?_
  refine ne (eo_lss rfl rfl rfl) rfl ?_
  refine go_nil ?_
  refine gq_next ?_
  refine gc_cond rfl (fun hc0 => ?_) (fun hc0 => ?_)
  ·
    replace hc0 := of_decide_eq_true hc0
    refine gc_skip ?_
    refine gq_next ?_
    refine gc_seq ?_
    refine gc_block ?_
    refine gc_seq ?_
    refine gc_region ?_
    refine ne (eo_mv rfl rfl) rfl ?_
    refine ne (eo_convk rfl rfl ⟨_, Try.underlying3⟩ Try.underlying5 (u8_in (by omega) (by omega))) rfl ?_
    refine ne (eo_call rfl en25 rfl (fun W1 hO => rows_c _ W1  (by omega) (by omega))) rfl ?_
    refine ne (eo_sneq rfl rfl rfl) rfl ?_
    refine go_nil ?_
    refine gq_next ?_
    refine gc_cond rfl (fun hc1 => ?_) (fun hc1 => ?_)
    ·
      rw [refS_nil] at hc1
      have hkn : knownB c = true := by simpa using hc1
      have hki := known_iff.1 hkn
      obtain ⟨hk1, hk2⟩ := kcnt_yes hkn
      refine gc_region ?_
      refine ne (eo_mv rfl rfl) rfl ?_
      refine ne (eo_mv rfl rfl) rfl ?_
      refine ne (eo_convk rfl rfl ⟨_, Try.underlying3⟩ Try.underlying5 (u8_in (by omega) (by omega))) rfl ?_
      refine nx (xo_lit1 rfl Try.underlying35 e5 rfl (by first | rfl | exact AS.one)) rfl ?_
      rintro _ _ ⟨g14, rfl, rfl⟩
      refine nx (xo_app1i 1 rfl rfl Try.underlying35 e5 rfl hs rfl rfl (by rw [hk, hk2]) (by omega) (by decide)) rfl ?_
      rintro _ _ ⟨s15, hs15, rfl, rfl⟩
      refine ne (eo_as rfl rfl) rfl ?_
      refine go_nil ?_
      refine gq_block_end ?_
      refine gq_next ?_
      refine gc_region ?_
      refine ne (eo_mv rfl rfl) rfl ?_
      refine ne (eo_add rfl rfl rfl (by omega) (by omega)) rfl ?_
      refine ne (eo_as rfl rfl) rfl ?_
      refine go_nil ?_
      exact round3 (c + 1) (k + 1) s15 ⟨by omega, by rw [hk1, hk], hs15⟩ (by omega) ⟨rfl, rfl, trivial⟩ (List.Sublist.cons _ (List.Sublist.refl _))
    ·
      rw [refS_nil] at hc1
      have hk1 := kcnt_no (c := c) (by simpa using hc1)
      refine gc_skip ?_
      refine gq_block_end ?_
      refine gq_next ?_
      refine gc_region ?_
      refine ne (eo_mv rfl rfl) rfl ?_
      refine ne (eo_add rfl rfl rfl (by omega) (by omega)) rfl ?_
      refine ne (eo_as rfl rfl) rfl ?_
      refine go_nil ?_
      exact round3 (c + 1) k s ⟨by omega, by rw [hk1, hk], hs⟩ (by omega) ⟨rfl, rfl, trivial⟩ (List.Sublist.refl _)
  ·
    replace hc0 := of_decide_eq_false hc0
    refine gc_exit ?_
    refine gq_then_exit ?_
    refine gq_then_exit ?_
    refine gq_block_hit ?_
    refine gq_next ?_
    refine gc_seq ?_
    refine gc_region ?_
    refine ne (eo_mv rfl rfl) rfl ?_
    refine ne (eo_as rfl rfl) rfl ?_
    refine go_nil ?_
    refine gq_next ?_
    refine gc_ret ?_
    refine gq_results (res1 rfl rfl) ?_
    obtain rfl : c = 256 := by omega
    exact fun W1 hO => rlu_as 0 hO rfl hs (by rw [hk]; rfl)

/-- barscan/font.Distance -/
theorem dist_c (a : Int) (b : Int) (w : World)  (a0 : 0 ≤ a) (a1 : a ≤ 255) (b0 : 0 ≤ b) (b1 : b ≤ 255) :
    Calls Try.prog 15 #[.int .u8 a, .int .u8 b] w (fun e w' => e = .returned (.tuple #[.int .i64 (distR a b).1, .int .i64 (distR a b).2]) ∧ Ext w w') := by
  refine calls_enter (N := ⟨47, []⟩) [] ([]) Try.func15 rfl rfl rfl (Ow.start _) ?_
  refine gc_seq ?_
  refine gc_region ?_
  refine ne (eo_as rfl rfl) rfl ?_
  refine ne (eo_as rfl rfl) rfl ?_
  refine go_nil ?_
  refine gq_next ?_
  refine gc_seq ?_
  refine gc_region ?_
  refine ne (eo_mv rfl rfl) rfl ?_
  refine nx (xo_freshT rfl en13 rfl (fun W1 hO => glyph_x _ W1  (by omega) (by omega))) rfl ?_
  rintro _ H14 ⟨S14, ⟨A14, k14, rfl, hk14, hS14⟩, hH14⟩
  obtain rfl : S14 = H14 := hH14.symm
  refine ne (eo_mv rfl rfl) rfl ?_
  refine ne (eo_extract rfl rfl rfl) rfl ?_
  refine ne (eo_extract rfl rfl rfl) rfl ?_
  refine nx (xo_alloc rfl z25) rfl ?_
  rintro _ _ ⟨g6, rfl, rfl⟩
  refine nu (xo_storeA 0 rfl a25 rfl rfl (ones_cons (by first | rfl | exact AS.one) (ones_cons (by first | rfl | exact AS.one) (ones_cons (by first | rfl | exact AS.one) ones_nil))) rfl rfl rfl rfl) ?_
  rintro _ _ ⟨rfl, rfl⟩
  refine ne (eo_as rfl rfl) rfl ?_
  refine go_nil ?_
  refine gq_next ?_
  refine gc_seq ?_
  refine gc_seq ?_
  refine gc_region ?_
  refine ne (eo_mv rfl rfl) rfl ?_
  refine ne (eo_neq rfl rfl rfl) rfl ?_
  refine go_nil ?_
  refine gq_next ?_
  refine gc_cond rfl (fun hc0 => ?_) (fun hc0 => ?_)
  ·
    replace hc0 := of_decide_eq_true hc0
    refine gc_seq ?_
    refine gc_region ?_
    refine ne (eo_mv rfl rfl) rfl ?_
    refine ne (eo_as rfl rfl) rfl ?_
    refine ne (eo_as rfl rfl) rfl ?_
    refine go_nil ?_
    refine gq_next ?_
    refine gc_ret ?_
    refine gq_then_ret ?_
    refine gq_results (res2 rfl rfl rfl) ?_
    exact fun W1 hO => ⟨ret_ii (by rw [(glyR_err hc0).2]; exact (distR_no (.inl (glyR_err hc0).1)).symm), hO.toExt⟩
  ·
    replace hc0 := of_decide_eq_false hc0
    have hka := glyR_zero hc0
    refine gc_skip ?_
    refine gq_next ?_
    refine gc_seq ?_
    refine gc_region ?_
    refine ne (eo_mv rfl rfl) rfl ?_
    refine nx (xo_freshT rfl en13 rfl (fun W1 hO => glyph_x _ W1  (by omega) (by omega))) rfl ?_
    rintro _ _ ⟨S22, ⟨A22, k22, rfl, hk22, hS22⟩, rfl⟩
    refine ne (eo_mv rfl rfl) rfl ?_
    refine ne (eo_extract rfl rfl rfl) rfl ?_
    refine ne (eo_extract rfl rfl rfl) rfl ?_
    refine nx (xo_alloc rfl z25) rfl ?_
    rintro _ _ ⟨g8, rfl, rfl⟩
    refine nu (xo_storeA 0 rfl a25 rfl rfl (ones_cons (by first | rfl | exact AS.one) (ones_cons (by first | rfl | exact AS.one) (ones_cons (by first | rfl | exact AS.one) ones_nil))) rfl rfl rfl rfl) ?_
    rintro _ _ ⟨rfl, rfl⟩
    refine ne (eo_as rfl rfl) rfl ?_
    refine go_nil ?_
    refine gq_next ?_
    refine gc_seq ?_
    refine gc_seq ?_
    refine gc_region ?_
    refine ne (eo_mv rfl rfl) rfl ?_
    refine ne (eo_neq rfl rfl rfl) rfl ?_
    refine go_nil ?_
    refine gq_next ?_
    refine gc_cond rfl (fun hc1 => ?_) (fun hc1 => ?_)
    ·
      replace hc1 := of_decide_eq_true hc1
      refine gc_seq ?_
      refine gc_region ?_
      refine ne (eo_mv rfl rfl) rfl ?_
      refine ne (eo_as rfl rfl) rfl ?_
      refine ne (eo_as rfl rfl) rfl ?_
      refine go_nil ?_
      refine gq_next ?_
      refine gc_ret ?_
      refine gq_then_ret ?_
      refine gq_results (res2 rfl rfl rfl) ?_
      exact fun W1 hO => ⟨ret_ii (by rw [(glyR_err hc1).2]; exact (distR_no (.inr (glyR_err hc1).1)).symm), hO.toExt⟩
    ·
      replace hc1 := of_decide_eq_false hc1
      have hkb := glyR_zero hc1
      have hga := glyR_ok hka
      have hna : (glyR a).1.n = 35 := by rw [hga]
      have hfa : ∀ j, (glyR a).1.f j = gpx a j := fun j => by rw [hga]
      have hgb := glyR_ok hkb
      have hnb : (glyR b).1.n = 35 := by rw [hgb]
      have hfb : ∀ j, (glyR b).1.f j = gpx b j := fun j => by rw [hgb]
      refine gc_skip ?_
      refine gq_next ?_
      refine gc_seq ?_
      refine gc_region ?_
      refine ne (eo_as rfl rfl) rfl ?_
      refine go_nil ?_
      refine gq_next ?_
      refine gc_seq ?_
      refine gc_seq ?_
      refine gc_region ?_
      refine ne (eo_field rfl f25_2 rfl) rfl ?_
      refine ne (eo_load 1 rfl s23 rfl rfl rfl rfl) rfl ?_
      refine ne (eo_len rfl Try.underlying23 rfl) rfl ?_
      refine ne (eo_mv rfl rfl) rfl ?_
      refine go_nil ?_
      refine gq_next ?_
      refine gc_block ?_
      refine loop2 (fun (i : Nat) (q : Int) => i ≤ 35 ∧ q = distN a b i) (fun (i : Nat) (q : Int) => 35 - i) (fun (i : Nat) (q : Int) => [(8, .pointer (some ⟨g8, 0, none⟩)), (9, .int .i64 q), (29, .slice A14 ((glyR a).1.n) k14), (30, .int .i64 (((glyR a).1.n : Nat) : Int)), (31, .int .i64 (i : Int))]) (fun (i : Nat) (q : Int) => ⟨g8, 25, [.int .i64 ((glyR b).1.W), .int .i64 ((glyR b).1.H), .slice A22 ((glyR b).1.n) k22]⟩ :: ⟨g6, 25, [.int .i64 ((glyR a).1.W), .int .i64 ((glyR a).1.H), .slice A14 ((glyR a).1.n) k14]⟩ :: (S14 ++ S22)) 0 0 ⟨by omega, rfl⟩ ⟨rfl, rfl, rfl, rfl, rfl, trivial⟩ (List.Sublist.refl _) ?_
      rintro i q ⟨hi, hq⟩
      have hqb := distN_bd (a := a) (b := b) (k := i)
      refine gc_seq ?_
      refine gc_region ?_
      refine ne (eo_lss rfl rfl rfl) rfl ?_
      refine go_nil ?_
      refine gq_next ?_
      refine gc_seq ?_
      refine gc_cond rfl (fun hc2 => ?_) (fun hc2 => ?_)
      ·
        replace hc2 := of_decide_eq_true hc2
        refine gc_skip ?_
        refine gq_next ?_
        refine gc_seq ?_
        refine gc_block ?_
        refine gc_seq ?_
        refine gc_region ?_
        refine ne (eo_mv rfl rfl) rfl ?_
        refine ne (eo_indexS rfl sl23 rfl rfl (fun W1 hO => (hS14.rd (hO.tl 2 rfl (List.sublist_append_left _ _)))) (by simp) (by omega) (by omega)) rfl ?_
        refine ne (eo_loadS rfl s4 rfl (fun W1 hO => Rd.tabb (hS14.rd (hO.tl 2 rfl (List.sublist_append_left _ _))) (by omega))) rfl ?_
        refine ne (eo_as rfl rfl) rfl ?_
        refine ne (eo_as rfl rfl) rfl ?_
        refine go_nil ?_
        refine gq_next ?_
        refine gc_seq ?_
        refine gc_region ?_
        refine ne (eo_mv rfl rfl) rfl ?_
        refine ne (eo_field rfl f25_2 rfl) rfl ?_
        refine ne (eo_load 0 rfl s23 rfl rfl rfl rfl) rfl ?_
        refine ne (eo_mv rfl rfl) rfl ?_
        refine ne (eo_indexS rfl sl23 rfl rfl (fun W1 hO => (hS22.rd (hO.tl 2 rfl (List.sublist_append_right _ _)))) (by simp) (by omega) (by omega)) rfl ?_
        refine ne (eo_loadS rfl s4 rfl (fun W1 hO => Rd.tabb (hS22.rd (hO.tl 2 rfl (List.sublist_append_right _ _))) (by omega))) rfl ?_
        refine ne (eo_bneq rfl rfl rfl Try.underlying4) rfl ?_
        refine go_nil ?_
        refine gq_next ?_
        refine gc_cond rfl (fun hc3 => ?_) (fun hc3 => ?_)
        ·
          refine gc_region ?_
          refine ne (eo_mv rfl rfl) rfl ?_
          refine ne (eo_add rfl rfl rfl (by omega) (by omega)) rfl ?_
          refine ne (eo_as rfl rfl) rfl ?_
          refine go_nil ?_
          refine gq_block_end ?_
          refine gq_next ?_
          refine gc_region ?_
          refine ne (eo_add rfl rfl rfl (by omega) (by omega)) rfl ?_
          refine ne (eo_mv rfl rfl) rfl ?_
          refine go_nil ?_
          exact round2 (i + 1) (q + 1) ⟨by omega, by rw [hfa, hfb] at hc3; rw [distN_yes (by simpa using hc3), hq]⟩ (by omega) ⟨rfl, rfl, rfl, rfl, rfl, trivial⟩ (List.Sublist.refl _)
        ·
          refine gc_skip ?_
          refine gq_block_end ?_
          refine gq_next ?_
          refine gc_region ?_
          refine ne (eo_add rfl rfl rfl (by omega) (by omega)) rfl ?_
          refine ne (eo_mv rfl rfl) rfl ?_
          refine go_nil ?_
          exact round2 (i + 1) q ⟨by omega, by rw [hfa, hfb] at hc3; rw [distN_no (by simpa using hc3), hq]⟩ (by omega) ⟨rfl, rfl, rfl, rfl, rfl, trivial⟩ (List.Sublist.refl _)
      ·
        replace hc2 := of_decide_eq_false hc2
        refine gc_exit ?_
        refine gq_then_exit ?_
        refine gq_then_exit ?_
        refine gq_block_hit ?_
        refine gq_next ?_
        refine gc_seq ?_
        refine gc_region ?_
        refine ne (eo_mv rfl rfl) rfl ?_
        refine ne (eo_as rfl rfl) rfl ?_
        refine ne (eo_as rfl rfl) rfl ?_
        refine go_nil ?_
        refine gq_next ?_
        refine gc_ret ?_
        refine gq_results (res2 rfl rfl rfl) ?_
        exact fun W1 hO => ⟨ret_ii (by rw [distR_ok hka hkb, hq, show i = 35 by omega]), hO.toExt⟩

/-- barscan/barscanref47.Distance -/
theorem rdist_c (a : Int) (b : Int) (w : World)  (a0 : 0 ≤ a) (a1 : a ≤ 255) (b0 : 0 ≤ b) (b1 : b ≤ 255) :
    Calls Try.prog 16 #[.int .u8 a, .int .u8 b] w (fun e w' => e = .returned (.tuple #[.int .i64 (distR a b).1, .int .i64 (distR a b).2]) ∧ Ext w w') := by
  refine calls_enter (N := ⟨46, []⟩) [] ([]) Try.func16 rfl rfl rfl (Ow.start _) ?_
  refine gc_seq ?_
  refine gc_region ?_
  refine ne (eo_as rfl rfl) rfl ?_
  refine ne (eo_as rfl rfl) rfl ?_
  refine go_nil ?_
  refine gq_next ?_
  refine gc_seq ?_
  refine gc_region ?_
  refine ne (eo_mv rfl rfl) rfl ?_
  refine nx (xo_freshT rfl en14 rfl (fun W1 hO => rglyph_x _ W1  (by omega) (by omega))) rfl ?_
  rintro _ H14 ⟨S14, ⟨A14, k14, rfl, hk14, hS14⟩, hH14⟩
  obtain rfl : S14 = H14 := hH14.symm
  refine ne (eo_mv rfl rfl) rfl ?_
  refine ne (eo_extract rfl rfl rfl) rfl ?_
  refine ne (eo_extract rfl rfl rfl) rfl ?_
  refine nx (xo_alloc rfl z25) rfl ?_
  rintro _ _ ⟨g6, rfl, rfl⟩
  refine nu (xo_storeA 0 rfl a25 rfl rfl (ones_cons (by first | rfl | exact AS.one) (ones_cons (by first | rfl | exact AS.one) (ones_cons (by first | rfl | exact AS.one) ones_nil))) rfl rfl rfl rfl) ?_
  rintro _ _ ⟨rfl, rfl⟩
  refine ne (eo_as rfl rfl) rfl ?_
  refine go_nil ?_
  refine gq_next ?_
  refine gc_seq ?_
  refine gc_region ?_
  refine ne (eo_mv rfl rfl) rfl ?_
  refine nx (xo_freshT rfl en14 rfl (fun W1 hO => rglyph_x _ W1  (by omega) (by omega))) rfl ?_
  rintro _ _ ⟨S19, ⟨A19, k19, rfl, hk19, hS19⟩, rfl⟩
  refine ne (eo_mv rfl rfl) rfl ?_
  refine ne (eo_extract rfl rfl rfl) rfl ?_
  refine ne (eo_extract rfl rfl rfl) rfl ?_
  refine nx (xo_alloc rfl z25) rfl ?_
  rintro _ _ ⟨g8, rfl, rfl⟩
  refine nu (xo_storeA 0 rfl a25 rfl rfl (ones_cons (by first | rfl | exact AS.one) (ones_cons (by first | rfl | exact AS.one) (ones_cons (by first | rfl | exact AS.one) ones_nil))) rfl rfl rfl rfl) ?_
  rintro _ _ ⟨rfl, rfl⟩
  refine ne (eo_as rfl rfl) rfl ?_
  refine go_nil ?_
  refine gq_next ?_
  refine gc_seq ?_
  refine gc_seq ?_
  refine gc_region ?_
  refine ne (eo_mv rfl rfl) rfl ?_
  refine ne (eo_neq rfl rfl rfl) rfl ?_
  refine ne (eo_mv rfl rfl) rfl ?_
  refine ng rfl rfl (fun h => eo_mv rfl rfl) rfl ?_
  refine ng rfl rfl (fun h => eo_neq rfl (ev_if h rfl) rfl) rfl ?_
  refine ne (eo_or rfl rfl (fun hb => ev_if hb rfl)) rfl ?_
  refine go_nil ?_
  refine gq_next ?_
  refine gc_cond rfl (fun hc0 => ?_) (fun hc0 => ?_)
  ·
    have hd0 := (or_t hc0).imp (fun h => of_decide_eq_true h) (fun h => of_decide_eq_true h)
    refine gc_seq ?_
    refine gc_region ?_
    refine ne (eo_as rfl rfl) rfl ?_
    refine ne (eo_as rfl rfl) rfl ?_
    refine go_nil ?_
    refine gq_next ?_
    refine gc_ret ?_
    refine gq_then_ret ?_
    refine gq_results (res2 rfl rfl rfl) ?_
    exact fun W1 hO => ⟨ret_ii (by rw [distR_no (hd0.imp (fun h => (glyR_err h).1) (fun h => (glyR_err h).1))]), hO.toExt⟩
  ·
    have hd0 := (or_f hc0).imp (fun h => ne_f h) (fun h => ne_f h)
    have hka := glyR_zero (c := a) (by omega)
    have hkb := glyR_zero (c := b) (by omega)
    have hga := glyR_ok hka
    have hna : (glyR a).1.n = 35 := by rw [hga]
    have hfa : ∀ j, (glyR a).1.f j = gpx a j := fun j => by rw [hga]
    have hgb := glyR_ok hkb
    have hnb : (glyR b).1.n = 35 := by rw [hgb]
    have hfb : ∀ j, (glyR b).1.f j = gpx b j := fun j => by rw [hgb]
    refine gc_skip ?_
    refine gq_next ?_
    refine gc_seq ?_
    refine gc_region ?_
    refine ne (eo_as rfl rfl) rfl ?_
    refine go_nil ?_
    refine gq_next ?_
    refine gc_seq ?_
    refine gc_seq ?_
    refine gc_region ?_
    refine ne (eo_as rfl rfl) rfl ?_
    refine go_nil ?_
    refine gq_next ?_
    refine gc_block ?_
    refine loop2 (fun (i : Nat) (q : Int) => i ≤ 35 ∧ q = distN a b i) (fun (i : Nat) (q : Int) => 35 - i) (fun (i : Nat) (q : Int) => [(6, .pointer (some ⟨g6, 0, none⟩)), (8, .pointer (some ⟨g8, 0, none⟩)), (10, .int .i64 q), (11, .int .i64 (i : Int))]) (fun (i : Nat) (q : Int) => ⟨g8, 25, [.int .i64 ((glyR b).1.W), .int .i64 ((glyR b).1.H), .slice A19 ((glyR b).1.n) k19]⟩ :: ⟨g6, 25, [.int .i64 ((glyR a).1.W), .int .i64 ((glyR a).1.H), .slice A14 ((glyR a).1.n) k14]⟩ :: (S14 ++ S19)) 0 0 ⟨by omega, rfl⟩ ⟨rfl, rfl, rfl, rfl, trivial⟩ (List.Sublist.refl _) ?_
    rintro i q ⟨hi, hq⟩
    have hqb := distN_bd (a := a) (b := b) (k := i)
    refine gc_seq ?_
    refine gc_seq ?_
    refine gc_region ?_
    refine ne (eo_mv rfl rfl) rfl ?_
    refine ne (eo_lss rfl rfl rfl) rfl ?_
    refine go_nil ?_
    refine gq_next ?_
    refine gc_cond rfl (fun hc1 => ?_) (fun hc1 => ?_)
    ·
      replace hc1 := of_decide_eq_true hc1
      refine gc_skip ?_
      refine gq_next ?_
      refine gc_seq ?_
      refine gc_block ?_
      refine gc_seq ?_
      refine gc_draw [] [0, 1, 2, 3, 4, 5, 6, 7, 8, 9, 10] [] [] (by kernel_rfl) (by kernel_rfl) ?_
      refine gp_nil ?_
      refine de rfl (eo_field rfl f25_2 rfl) rfl ?_
      refine de rfl (eo_load 1 rfl s23 rfl rfl rfl rfl) rfl ?_
      refine de rfl (eo_mv rfl rfl) rfl ?_
      refine de rfl (eo_indexS rfl sl23 rfl rfl (fun W1 hO => (hS14.rd (hO.tl 2 rfl (List.sublist_append_left _ _)))) (by simp) (by omega) (by omega)) rfl ?_
      refine de rfl (eo_loadS rfl s4 rfl (fun W1 hO => Rd.tabb (hS14.rd (hO.tl 2 rfl (List.sublist_append_left _ _))) (by omega))) rfl ?_
      refine de rfl (eo_field rfl f25_2 rfl) rfl ?_
      refine de rfl (eo_load 0 rfl s23 rfl rfl rfl rfl) rfl ?_
      refine de rfl (eo_mv rfl rfl) rfl ?_
      refine de rfl (eo_indexS rfl sl23 rfl rfl (fun W1 hO => (hS19.rd (hO.tl 2 rfl (List.sublist_append_right _ _)))) (by simp) (by omega) (by omega)) rfl ?_
      refine de rfl (eo_loadS rfl s4 rfl (fun W1 hO => Rd.tabb (hS19.rd (hO.tl 2 rfl (List.sublist_append_right _ _))) (by omega))) rfl ?_
      refine de rfl (eo_bneq rfl rfl rfl Try.underlying4) rfl ?_
      refine ge_nil ?_
      refine ga_nil ?_
      refine gi_nil ?_
      refine gq_nq ?_
      refine gq_next ?_
      refine gc_cond rfl (fun hc2 => ?_) (fun hc2 => ?_)
      ·
        refine gc_region ?_
        refine ne (eo_mv rfl rfl) rfl ?_
        refine ne (eo_add rfl rfl rfl (by omega) (by omega)) rfl ?_
        refine ne (eo_as rfl rfl) rfl ?_
        refine go_nil ?_
        refine gq_block_end ?_
        refine gq_next ?_
        refine gc_region ?_
        refine ne (eo_mv rfl rfl) rfl ?_
        refine ne (eo_add rfl rfl rfl (by omega) (by omega)) rfl ?_
        refine ne (eo_as rfl rfl) rfl ?_
        refine go_nil ?_
        exact round2 (i + 1) (q + 1) ⟨by omega, by rw [hfa, hfb] at hc2; rw [distN_yes (by simpa using hc2), hq]⟩ (by omega) ⟨rfl, rfl, rfl, rfl, trivial⟩ (List.Sublist.refl _)
      ·
        refine gc_skip ?_
        refine gq_block_end ?_
        refine gq_next ?_
        refine gc_region ?_
        refine ne (eo_mv rfl rfl) rfl ?_
        refine ne (eo_add rfl rfl rfl (by omega) (by omega)) rfl ?_
        refine ne (eo_as rfl rfl) rfl ?_
        refine go_nil ?_
        exact round2 (i + 1) q ⟨by omega, by rw [hfa, hfb] at hc2; rw [distN_no (by simpa using hc2), hq]⟩ (by omega) ⟨rfl, rfl, rfl, rfl, trivial⟩ (List.Sublist.refl _)
    ·
      replace hc1 := of_decide_eq_false hc1
      refine gc_exit ?_
      refine gq_then_exit ?_
      refine gq_then_exit ?_
      refine gq_block_hit ?_
      refine gq_next ?_
      refine gc_seq ?_
      refine gc_region ?_
      refine ne (eo_mv rfl rfl) rfl ?_
      refine ne (eo_as rfl rfl) rfl ?_
      refine ne (eo_as rfl rfl) rfl ?_
      refine go_nil ?_
      refine gq_next ?_
      refine gc_ret ?_
      refine gq_results (res2 rfl rfl rfl) ?_
      exact fun W1 hO => ⟨ret_ii (by rw [distR_ok hka hkb, hq, show i = 35 by omega]), hO.toExt⟩

/-- barscan/font.Closest -/
theorem close_c  (w : World)   :
    Calls Try.prog 19 #[] w (fun e w' => e = .returned (.int .i64 (cloI 62)) ∧ Ext w w') := by
  refine calls_enter (N := ⟨39, []⟩) [] ([]) Try.func19 rfl rfl rfl (Ow.start _) ?_
  refine gc_seq ?_
  refine gc_region ?_
  refine ne (eo_as rfl rfl) rfl ?_
  refine go_nil ?_
  refine gq_next ?_
  refine gc_seq ?_
  refine gc_region ?_
  refine ne (eo_as rfl rfl) rfl ?_
  refine go_nil ?_
  refine gq_next ?_
  refine gc_seq ?_
  refine gc_region ?_
  refine nx (xo_freshT rfl en17 rfl (fun W1 hO => chars_x W1)) rfl ?_
  rintro _ H9 ⟨S9, ⟨A9, k9, rfl, hk9, hS9⟩, hH9⟩
  obtain rfl : S9 = H9 := hH9.symm
  refine ne (eo_as rfl rfl) rfl ?_
  refine go_nil ?_
  refine gq_next ?_
  refine gc_seq ?_
  refine gc_seq ?_
  refine gc_region ?_
  refine ne (eo_mv rfl rfl) rfl ?_
  refine ne (eo_len rfl Try.underlying35 rfl) rfl ?_
  refine ne (eo_mv rfl rfl) rfl ?_
  refine go_nil ?_
  refine gq_next ?_
  refine gc_block ?_
  refine loop2 (fun (i : Nat) (b : Int) => i ≤ 62 ∧ b = cloI i) (fun (i : Nat) (b : Int) => 62 - i) (fun (i : Nat) (b : Int) => [(1, .int .i64 b), (2, .slice A9 62 k9), (10, .slice A9 62 k9), (11, .int .i64 ((62 : Nat) : Int)), (12, .int .i64 (i : Int))]) (fun (i : Nat) (b : Int) => S9) 0 35 ⟨by omega, rfl⟩ ⟨rfl, rfl, rfl, rfl, rfl, trivial⟩ (List.Sublist.refl _) ?_
  rintro i b ⟨hi, hb⟩
  refine gc_seq ?_
  refine gc_region ?_
  refine ne (eo_lss rfl rfl rfl) rfl ?_
  refine go_nil ?_
  refine gq_next ?_
  refine gc_seq ?_
  refine gc_cond rfl (fun hc0 => ?_) (fun hc0 => ?_)
  ·
    replace hc0 := of_decide_eq_true hc0
    refine gc_skip ?_
    refine gq_next ?_
    refine gc_seq ?_
    refine gc_block ?_
    refine gc_seq ?_
    refine gc_region ?_
    refine ne (eo_mv rfl rfl) rfl ?_
    refine ne (eo_indexS rfl sl35 rfl rfl (fun W1 hO => (hS9.rd (hO.tl 0 rfl (List.Sublist.refl _)))) (by simp) (by omega) (by omega)) rfl ?_
    refine ne (eo_loadS rfl s5 rfl (fun W1 hO => Rd.tabi (hS9.rd (hO.tl 0 rfl (List.Sublist.refl _))) (by omega))) rfl ?_
    refine ne (eo_as rfl rfl) rfl ?_
    refine ne (eo_as rfl rfl) rfl ?_
    refine go_nil ?_
    refine gq_next ?_
    refine gc_seq ?_
    refine gc_region ?_
    refine ne (eo_mv rfl rfl) rfl ?_
    refine ne (eo_mv rfl rfl) rfl ?_
    refine ne (eo_slH rfl sl35 rfl rfl (by omega) (by omega)) rfl ?_
    refine ne (eo_len rfl Try.underlying35 rfl) rfl ?_
    refine ne (eo_mv rfl rfl) rfl ?_
    refine go_nil ?_
    refine gq_next ?_
    refine gc_block ?_
    refine loop2 (fun (j : Nat) (b : Int) => j ≤ i ∧ b = cloJ (cloI i) i j) (fun (j : Nat) (b : Int) => i - j) (fun (j : Nat) (b : Int) => [(1, .int .i64 b), (2, .slice A9 62 k9), (4, .int .u8 (chC (i))), (10, .slice A9 62 k9), (11, .int .i64 ((62 : Nat) : Int)), (12, .int .i64 (i : Int)), (19, .slice A9 i k9), (20, .int .i64 ((i : Nat) : Int)), (21, .int .i64 (j : Int))]) (fun (j : Nat) (b : Int) => S9) 0 b ⟨by omega, by rw [hb]; rfl⟩ ⟨rfl, rfl, rfl, rfl, rfl, rfl, rfl, rfl, rfl, trivial⟩ (List.Sublist.refl _) ?_
    rintro j b ⟨hj, hb⟩
    refine gc_seq ?_
    refine gc_region ?_
    refine ne (eo_lss rfl rfl rfl) rfl ?_
    refine go_nil ?_
    refine gq_next ?_
    refine gc_seq ?_
    refine gc_cond rfl (fun hc1 => ?_) (fun hc1 => ?_)
    ·
      replace hc1 := of_decide_eq_true hc1
      have hci := known_u8 (chC_known (k := i))
      have hcj := known_u8 (chC_known (k := j))
      have hci2 : 32 ≤ chC (i : Int).toNat ∧ chC (i : Int).toNat ≤ 95 := hci
      have hcj2 : 32 ≤ chC (j : Int).toNat ∧ chC (j : Int).toNat ≤ 95 := hcj
      have hdd := distR_ok (chC_known (k := i)) (chC_known (k := j))
      refine gc_skip ?_
      refine gq_next ?_
      refine gc_seq ?_
      refine gc_block ?_
      refine gc_seq ?_
      refine gc_region ?_
      refine ne (eo_indexS rfl sl35 rfl rfl (fun W1 hO => (Rd.pre (hS9.rd (hO.tl 0 rfl (List.Sublist.refl _))) (by omega))) (by simp) (by omega) (by omega)) rfl ?_
      refine ne (eo_loadS rfl s5 rfl (fun W1 hO => Rd.tabi (hS9.rd (hO.tl 0 rfl (List.Sublist.refl _))) (by omega))) rfl ?_
      refine ne (eo_as rfl rfl) rfl ?_
      refine go_nil ?_
      refine gq_next ?_
      refine gc_seq ?_
      refine gc_region ?_
      refine ne (eo_mv rfl rfl) rfl ?_
      refine ne (eo_mv rfl rfl) rfl ?_
      refine ne (eo_call rfl en15 rfl (fun W1 hO => dist_c _ _ W1  (by omega) (by omega) (by omega) (by omega))) rfl ?_
      refine ne (eo_mv rfl rfl) rfl ?_
      refine ne (eo_extract rfl rfl rfl) rfl ?_
      refine ne (eo_extract rfl rfl rfl) rfl ?_
      refine ne (eo_as rfl rfl) rfl ?_
      refine ne (eo_as rfl rfl) rfl ?_
      refine go_nil ?_
      refine gq_next ?_
      refine gc_seq ?_
      refine gc_region ?_
      refine ne (eo_mv rfl rfl) rfl ?_
      refine ne (eo_eql rfl rfl rfl) rfl ?_
      refine go_nil ?_
      refine gq_next ?_
      refine gc_cond rfl (fun hc2 => ?_) (fun hc2 => ?_)
      ·
        replace hc2 := of_decide_eq_true hc2
        refine gc_region ?_
        refine ne (eo_mv rfl rfl) rfl ?_
        refine ne (eo_mv rfl rfl) rfl ?_
        refine ne (eo_min rfl rfl rfl) rfl ?_
        refine ne (eo_as rfl rfl) rfl ?_
        refine go_nil ?_
        refine gq_block_end ?_
        refine gq_next ?_
        refine gc_region ?_
        refine ne (eo_add rfl rfl rfl (by omega) (by omega)) rfl ?_
        refine ne (eo_mv rfl rfl) rfl ?_
        refine go_nil ?_
        exact round2 (j + 1) (min b ((distR (chC (i)) (chC (j))).1)) ⟨by omega, by rw [hb, hdd]; rfl⟩ (by omega) ⟨rfl, rfl, rfl, rfl, rfl, rfl, rfl, rfl, rfl, trivial⟩ (List.Sublist.refl _)
      ·
        replace hc2 := of_decide_eq_false hc2
        exact absurd (show (distR (chC i) (chC j)).2 = 0 from by rw [hdd]) hc2
    ·
      replace hc1 := of_decide_eq_false hc1
      refine gc_exit ?_
      refine gq_then_exit ?_
      refine gq_then_exit ?_
      refine gq_block_hit ?_
      refine gq_block_end ?_
      refine gq_next ?_
      refine gc_region ?_
      refine ne (eo_add rfl rfl rfl (by omega) (by omega)) rfl ?_
      refine ne (eo_mv rfl rfl) rfl ?_
      refine go_nil ?_
      exact round2 (i + 1) b ⟨by omega, by rw [hb, show j = i by omega]; rfl⟩ (by omega) ⟨rfl, rfl, rfl, rfl, rfl, trivial⟩ (List.Sublist.refl _)
  ·
    replace hc0 := of_decide_eq_false hc0
    refine gc_exit ?_
    refine gq_then_exit ?_
    refine gq_then_exit ?_
    refine gq_block_hit ?_
    refine gq_next ?_
    refine gc_seq ?_
    refine gc_region ?_
    refine ne (eo_mv rfl rfl) rfl ?_
    refine ne (eo_as rfl rfl) rfl ?_
    refine go_nil ?_
    refine gq_next ?_
    refine gc_ret ?_
    refine gq_results (res1 rfl rfl) ?_
    exact fun W1 hO => ⟨ret_int (by rw [hb, show i = 62 by omega]), hO.toExt⟩

/-- barscan/barscanref47.Closest -/
theorem rclose_c  (w : World)   :
    Calls Try.prog 20 #[] w (fun e w' => e = .returned (.int .i64 (cloI 62)) ∧ Ext w w') := by
  refine calls_enter (N := ⟨35, []⟩) [] ([]) Try.func20 rfl rfl rfl (Ow.start _) ?_
  refine gc_seq ?_
  refine gc_region ?_
  refine ne (eo_as rfl rfl) rfl ?_
  refine go_nil ?_
  refine gq_next ?_
  refine gc_seq ?_
  refine gc_region ?_
  refine ne (eo_as rfl rfl) rfl ?_
  refine go_nil ?_
  refine gq_next ?_
  refine gc_seq ?_
  refine gc_region ?_
  refine nx (xo_freshT rfl en18 rfl (fun W1 hO => rchars_x W1)) rfl ?_
  rintro _ H7 ⟨S7, ⟨A7, k7, rfl, hk7, hS7⟩, hH7⟩
  obtain rfl : S7 = H7 := hH7.symm
  refine ne (eo_as rfl rfl) rfl ?_
  refine go_nil ?_
  refine gq_next ?_
  refine gc_seq ?_
  refine gc_seq ?_
  refine gc_region ?_
  refine ne (eo_as rfl rfl) rfl ?_
  refine go_nil ?_
  refine gq_next ?_
  refine gc_block ?_
  refine loop2 (fun (i : Nat) (b : Int) => i ≤ 62 ∧ b = cloI i) (fun (i : Nat) (b : Int) => 62 - i) (fun (i : Nat) (b : Int) => [(1, .int .i64 b), (2, .slice A7 62 k7), (3, .int .i64 (i : Int))]) (fun (i : Nat) (b : Int) => S7) 0 35 ⟨by omega, rfl⟩ ⟨rfl, rfl, rfl, trivial⟩ (List.Sublist.refl _) ?_
  rintro i b ⟨hi, hb⟩
  refine gc_seq ?_
  refine gc_seq ?_
  refine gc_region ?_
  refine ne (eo_mv rfl rfl) rfl ?_
  refine ne (eo_mv rfl rfl) rfl ?_
  refine ne (eo_len rfl Try.underlying35 rfl) rfl ?_
  refine ne (eo_lss rfl rfl rfl) rfl ?_
  refine go_nil ?_
  refine gq_next ?_
  refine gc_cond rfl (fun hc0 => ?_) (fun hc0 => ?_)
  ·
    replace hc0 := of_decide_eq_true hc0
    refine gc_skip ?_
    refine gq_next ?_
    refine gc_seq ?_
    refine gc_block ?_
    refine gc_seq ?_
    refine gc_region ?_
    refine ne (eo_as rfl rfl) rfl ?_
    refine go_nil ?_
    refine gq_next ?_
    refine gc_block ?_
    refine loop2 (fun (j : Nat) (b : Int) => j ≤ i ∧ b = cloJ (cloI i) i j) (fun (j : Nat) (b : Int) => i - j) (fun (j : Nat) (b : Int) => [(1, .int .i64 b), (2, .slice A7 62 k7), (3, .int .i64 (i : Int)), (4, .int .i64 (j : Int))]) (fun (j : Nat) (b : Int) => S7) 0 b ⟨by omega, by rw [hb]; rfl⟩ ⟨rfl, rfl, rfl, rfl, trivial⟩ (List.Sublist.refl _) ?_
    rintro j b ⟨hj, hb⟩
    refine gc_seq ?_
    refine gc_seq ?_
    refine gc_region ?_
    refine ne (eo_mv rfl rfl) rfl ?_
    refine ne (eo_mv rfl rfl) rfl ?_
    refine ne (eo_lss rfl rfl rfl) rfl ?_
    refine go_nil ?_
    refine gq_next ?_
    refine gc_cond rfl (fun hc1 => ?_) (fun hc1 => ?_)
    ·
      replace hc1 := of_decide_eq_true hc1
      have hci := known_u8 (chC_known (k := i))
      have hcj := known_u8 (chC_known (k := j))
      have hci2 : 32 ≤ chC (i : Int).toNat ∧ chC (i : Int).toNat ≤ 95 := hci
      have hcj2 : 32 ≤ chC (j : Int).toNat ∧ chC (j : Int).toNat ≤ 95 := hcj
      have hdd := distR_ok (chC_known (k := i)) (chC_known (k := j))
      refine gc_skip ?_
      refine gq_next ?_
      refine gc_seq ?_
      refine gc_block ?_
      refine gc_seq ?_
      refine gc_draw [] [0, 1, 2, 3, 4, 5, 6, 7, 8, 9, 10, 11, 12, 13] [] [] (by kernel_rfl) (by kernel_rfl) ?_
      refine gp_nil ?_
      refine de rfl (eo_mv rfl rfl) rfl ?_
      refine de rfl (eo_mv rfl rfl) rfl ?_
      refine de rfl (eo_indexS rfl sl35 rfl rfl (fun W1 hO => (hS7.rd (hO.tl 0 rfl (List.Sublist.refl _)))) (by simp) (by omega) (by omega)) rfl ?_
      refine de rfl (eo_loadS rfl s5 rfl (fun W1 hO => Rd.tabi (hS7.rd (hO.tl 0 rfl (List.Sublist.refl _))) (by omega))) rfl ?_
      refine de rfl (eo_mv rfl rfl) rfl ?_
      refine de rfl (eo_mv rfl rfl) rfl ?_
      refine de rfl (eo_indexS rfl sl35 rfl rfl (fun W1 hO => (hS7.rd (hO.tl 0 rfl (List.Sublist.refl _)))) (by simp) (by omega) (by omega)) rfl ?_
      refine de rfl (eo_loadS rfl s5 rfl (fun W1 hO => Rd.tabi (hS7.rd (hO.tl 0 rfl (List.Sublist.refl _))) (by omega))) rfl ?_
      refine de rfl (eo_call rfl en16 rfl (fun W1 hO => rdist_c _ _ W1  (by omega) (by omega) (by omega) (by omega))) rfl ?_
      refine de rfl (eo_mv rfl rfl) rfl ?_
      refine de rfl (eo_extract rfl rfl rfl) rfl ?_
      refine de rfl (eo_extract rfl rfl rfl) rfl ?_
      refine de rfl (eo_as rfl rfl) rfl ?_
      refine de rfl (eo_as rfl rfl) rfl ?_
      refine ge_nil ?_
      refine ga_nil ?_
      refine gi_nil ?_
      refine gq_nq ?_
      refine gq_next ?_
      refine gc_region ?_
      refine ne (eo_mv rfl rfl) rfl ?_
      refine ne (eo_mv rfl rfl) rfl ?_
      refine ne (eo_min rfl rfl rfl) rfl ?_
      refine ne (eo_as rfl rfl) rfl ?_
      refine go_nil ?_
      refine gq_block_end ?_
      refine gq_next ?_
      refine gc_region ?_
      refine ne (eo_mv rfl rfl) rfl ?_
      refine ne (eo_add rfl rfl rfl (by omega) (by omega)) rfl ?_
      refine ne (eo_as rfl rfl) rfl ?_
      refine go_nil ?_
      exact round2 (j + 1) (min b ((distR (chC (i)) (chC (j))).1)) ⟨by omega, by rw [hb, hdd]; rfl⟩ (by omega) ⟨rfl, rfl, rfl, rfl, trivial⟩ (List.Sublist.refl _)
    ·
      replace hc1 := of_decide_eq_false hc1
      refine gc_exit ?_
      refine gq_then_exit ?_
      refine gq_then_exit ?_
      refine gq_block_hit ?_
      refine gq_block_end ?_
      refine gq_next ?_
      refine gc_region ?_
      refine ne (eo_mv rfl rfl) rfl ?_
      refine ne (eo_add rfl rfl rfl (by omega) (by omega)) rfl ?_
      refine ne (eo_as rfl rfl) rfl ?_
      refine go_nil ?_
      exact round2 (i + 1) b ⟨by omega, by rw [hb, show j = i by omega]; rfl⟩ (by omega) ⟨rfl, rfl, rfl, trivial⟩ (List.Sublist.refl _)
  ·
    replace hc0 := of_decide_eq_false hc0
    refine gc_exit ?_
    refine gq_then_exit ?_
    refine gq_then_exit ?_
    refine gq_block_hit ?_
    refine gq_next ?_
    refine gc_seq ?_
    refine gc_region ?_
    refine ne (eo_mv rfl rfl) rfl ?_
    refine ne (eo_as rfl rfl) rfl ?_
    refine go_nil ?_
    refine gq_next ?_
    refine gc_ret ?_
    refine gq_results (res1 rfl rfl) ?_
    exact fun W1 hO => ⟨ret_int (by rw [hb, show i = 62 by omega]), hO.toExt⟩

end Go.Proofs.Ytjndoanhkfdngaa
