/-
  The walks of the functions of package font and of the document's answer (part G): what each call returns, at every argument.
-/
import Derived.Test.YtjndoanhkfdngaaWE
namespace Go.Proofs.Ytjndoanhkfdngaa
open Go.RowKit Go.Eng

open Go.Bs
theorem en12 : Ent Try.prog 12 := ent_of Try.func12 (by kernel_rfl) rfl
theorem en19 : Ent Try.prog 19 := ent_of Try.func19 (by kernel_rfl) rfl
theorem en20 : Ent Try.prog 20 := ent_of Try.func20 (by kernel_rfl) rfl
theorem en7 : Ent Try.prog 7 := ent_of Try.func7 (by kernel_rfl) rfl

/-- barscan/barscanlaw47.FontGlyphs -/
theorem lglyphs_c (a : Int) (b : Int) (w : World)  (a0 : 0 ≤ a) (a1 : a ≤ 255) (b0 : 0 ≤ b) (b1 : b ≤ 255) :
    Calls Try.prog 4 #[.int .u8 a, .int .u8 b] w (fun e w' => e = .returned (.bool true) ∧ Ext w w') := by
  refine calls_enter (N := ⟨68, []⟩) [] ([]) Try.func4 rfl rfl rfl (Ow.start _) ?_
  refine gc_seq ?_
  refine gc_region ?_
  refine ne (eo_as rfl rfl) rfl ?_
  refine go_nil ?_
  refine gq_next ?_
  refine gc_seq ?_
  refine gc_region ?_
  refine ne (eo_mv rfl rfl) rfl ?_
  refine nx (xo_freshT rfl en13 rfl (fun W1 hO => glyph_x _ W1  (by omega) (by omega))) rfl ?_
  rintro _ H15 ⟨S15, ⟨A15, k15, rfl, hk15, hS15⟩, hH15⟩
  obtain rfl : S15 = H15 := hH15.symm
  refine ne (eo_mv rfl rfl) rfl ?_
  refine ne (eo_extract rfl rfl rfl) rfl ?_
  refine ne (eo_extract rfl rfl rfl) rfl ?_
  refine nx (xo_alloc rfl z25) rfl ?_
  rintro _ _ ⟨g5, rfl, rfl⟩
  refine nu (xo_storeA 0 rfl a25 rfl rfl (ones_cons (by first | rfl | exact AS.one) (ones_cons (by first | rfl | exact AS.one) (ones_cons (by first | rfl | exact AS.one) ones_nil))) rfl rfl rfl rfl) ?_
  rintro _ _ ⟨rfl, rfl⟩
  refine ne (eo_as rfl rfl) rfl ?_
  refine go_nil ?_
  refine gq_next ?_
  refine gc_seq ?_
  refine gc_region ?_
  refine ne (eo_mv rfl rfl) rfl ?_
  refine nx (xo_freshT rfl en14 rfl (fun W1 hO => rglyph_x _ W1  (by omega) (by omega))) rfl ?_
  rintro _ _ ⟨S20, ⟨A20, k20, rfl, hk20, hS20⟩, rfl⟩
  refine ne (eo_mv rfl rfl) rfl ?_
  refine ne (eo_extract rfl rfl rfl) rfl ?_
  refine ne (eo_extract rfl rfl rfl) rfl ?_
  refine nx (xo_alloc rfl z25) rfl ?_
  rintro _ _ ⟨g7, rfl, rfl⟩
  refine nu (xo_storeA 0 rfl a25 rfl rfl (ones_cons (by first | rfl | exact AS.one) (ones_cons (by first | rfl | exact AS.one) (ones_cons (by first | rfl | exact AS.one) ones_nil))) rfl rfl rfl rfl) ?_
  rintro _ _ ⟨rfl, rfl⟩
  refine ne (eo_as rfl rfl) rfl ?_
  refine go_nil ?_
  refine gq_next ?_
  refine gc_seq ?_
  refine gc_region ?_
  refine ne (eo_mv rfl rfl) rfl ?_
  refine ne (eo_mv rfl rfl) rfl ?_
  refine ne (eo_call rfl en15 rfl (fun W1 hO => dist_c _ _ W1  (by omega) (by omega) (by omega) (by omega))) rfl ?_
  refine ne (eo_mv rfl rfl) rfl ?_
  refine ne (eo_extract rfl rfl rfl) rfl ?_
  refine ne (eo_extract rfl rfl rfl) rfl ?_
  refine ne (eo_as rfl rfl) rfl ?_
  refine ne (eo_as rfl rfl) rfl ?_
  refine go_nil ?_
  refine gq_next ?_
  refine gc_seq ?_
  refine gc_region ?_
  refine ne (eo_mv rfl rfl) rfl ?_
  refine ne (eo_mv rfl rfl) rfl ?_
  refine ne (eo_call rfl en16 rfl (fun W1 hO => rdist_c _ _ W1  (by omega) (by omega) (by omega) (by omega))) rfl ?_
  refine ne (eo_mv rfl rfl) rfl ?_
  refine ne (eo_extract rfl rfl rfl) rfl ?_
  refine ne (eo_extract rfl rfl rfl) rfl ?_
  refine ne (eo_as rfl rfl) rfl ?_
  refine ne (eo_as rfl rfl) rfl ?_
  refine go_nil ?_
  refine gq_next ?_
  refine gc_seq ?_
  refine gc_drawU [(0, true), (1, false), (2, false), (3, false), (4, true), (5, false), (6, false), (7, false), (8, false), (9, true), (10, false), (11, false), (12, false), (13, false), (14, true), (15, false), (16, false), (17, false), (18, false), (19, false), (20, true), (21, false), (22, false), (23, false), (24, false), (25, false), (26, false), (27, false), (28, false), (29, false), (30, false), (31, false), (32, false), (33, false)] (by kernel_rfl) (by kernel_rfl) ?_
  refine ue rfl (eo_loadA 1 rfl a25 rfl rfl rfl rfl) rfl ?_
  refine ua rfl (xo_of_eo (eo_loadA 0 rfl a25 rfl rfl rfl rfl)) rfl ?_
  rintro _ _ ⟨rfl, rfl⟩
  refine ⟨by first | exact (List.Sublist.refl _) | exact (List.sublist_append_left _ _), ?_⟩
  refine ua rfl (xo_of_eo (eo_call rfl en12 rfl (fun W1 hO => calls_bool (b := (eqP (glyR a).1 (glyR a).1)) (b' := true) (eqP_rf _) (same47_c _ _ _ _ _ _ _ _ _ _ _ _ W1 (hS15.rd (hO.tl 2 rfl (List.sublist_append_left _ _))) (hS20.rd (hO.tl 2 rfl (List.sublist_append_right _ _))) (Nat.le_trans glyR_le (by decide)))))) rfl ?_
  rintro _ _ ⟨rfl, rfl⟩
  refine ⟨by first | exact (List.Sublist.refl _) | exact (List.sublist_append_left _ _), ?_⟩
  refine ua rfl (xo_of_eo (eo_mv rfl rfl)) rfl ?_
  rintro _ _ ⟨rfl, rfl⟩
  refine ⟨by first | exact (List.Sublist.refl _) | exact (List.sublist_append_left _ _), ?_⟩
  refine ug rfl rfl rfl (eo_mv rfl rfl) rfl ?_
  refine uag rfl rfl rfl (xo_of_eo (eo_mv rfl rfl)) rfl ?_
  rintro _ _ ⟨rfl, rfl⟩
  refine ⟨by first | exact (List.Sublist.refl _) | exact (List.sublist_append_left _ _), ?_⟩
  refine uag rfl rfl rfl (xo_of_eo (eo_eql rfl rfl rfl)) rfl ?_
  rintro _ _ ⟨rfl, rfl⟩
  refine ⟨by first | exact (List.Sublist.refl _) | exact (List.sublist_append_left _ _), ?_⟩
  refine ua rfl (xo_of_eo (eo_and rfl rfl (fun _ => rfl))) rfl ?_
  rintro _ _ ⟨rfl, rfl⟩
  refine ⟨by first | exact (List.Sublist.refl _) | exact (List.sublist_append_left _ _), ?_⟩
  rw [show (true && decide ((glyR a).2 = (glyR a).2)) = true from by simp]
  refine ua rfl (xo_of_eo (eo_mv rfl rfl)) rfl ?_
  rintro _ _ ⟨rfl, rfl⟩
  refine ⟨by first | exact (List.Sublist.refl _) | exact (List.sublist_append_left _ _), ?_⟩
  refine ug rfl rfl rfl (eo_mv rfl rfl) rfl ?_
  refine uag rfl rfl rfl (xo_of_eo (eo_mv rfl rfl)) rfl ?_
  rintro _ _ ⟨rfl, rfl⟩
  refine ⟨by first | exact (List.Sublist.refl _) | exact (List.sublist_append_left _ _), ?_⟩
  refine uag rfl rfl rfl (xo_of_eo (eo_eql rfl rfl rfl)) rfl ?_
  rintro _ _ ⟨rfl, rfl⟩
  refine ⟨by first | exact (List.Sublist.refl _) | exact (List.sublist_append_left _ _), ?_⟩
  refine ua rfl (xo_of_eo (eo_and rfl rfl (fun _ => rfl))) rfl ?_
  rintro _ _ ⟨rfl, rfl⟩
  refine ⟨by first | exact (List.Sublist.refl _) | exact (List.sublist_append_left _ _), ?_⟩
  rw [show (true && decide ((distR a b).1 = (distR a b).1)) = true from by simp]
  refine ua rfl (xo_of_eo (eo_mv rfl rfl)) rfl ?_
  rintro _ _ ⟨rfl, rfl⟩
  refine ⟨by first | exact (List.Sublist.refl _) | exact (List.sublist_append_left _ _), ?_⟩
  refine ug rfl rfl rfl (eo_mv rfl rfl) rfl ?_
  refine uag rfl rfl rfl (xo_of_eo (eo_mv rfl rfl)) rfl ?_
  rintro _ _ ⟨rfl, rfl⟩
  refine ⟨by first | exact (List.Sublist.refl _) | exact (List.sublist_append_left _ _), ?_⟩
  refine uag rfl rfl rfl (xo_of_eo (eo_eql rfl rfl rfl)) rfl ?_
  rintro _ _ ⟨rfl, rfl⟩
  refine ⟨by first | exact (List.Sublist.refl _) | exact (List.sublist_append_left _ _), ?_⟩
  refine ua rfl (xo_of_eo (eo_and rfl rfl (fun _ => rfl))) rfl ?_
  rintro _ _ ⟨rfl, rfl⟩
  refine ⟨by first | exact (List.Sublist.refl _) | exact (List.sublist_append_left _ _), ?_⟩
  rw [show (true && decide ((distR a b).2 = (distR a b).2)) = true from by simp]
  refine ua rfl (xo_of_eo (eo_mv rfl rfl)) rfl ?_
  rintro _ _ ⟨rfl, rfl⟩
  refine ⟨by first | exact (List.Sublist.refl _) | exact (List.sublist_append_left _ _), ?_⟩
  refine uag rfl rfl rfl (xo_freshT rfl en17 rfl (fun W1 hO => chars_x W1)) rfl ?_
  rintro _ _ ⟨S54, ⟨A54, k54, rfl, hk54, hS54⟩, rfl⟩
  refine ⟨by first | exact (List.sublist_append_left _ _) | exact (List.sublist_append_left _ _), ?_⟩
  refine ug rfl rfl rfl (eo_bstr (F := chC) rfl rfl Try.underlying35 Try.underlying5 Try.underlying9 (fun W1 hO => (hS54.rd (hO.tl 2 rfl (List.sublist_append_right _ _)))) (by omega)) rfl ?_
  refine uag rfl rfl rfl (xo_freshT rfl en18 rfl (fun W1 hO => rchars_x W1)) rfl ?_
  rintro _ _ ⟨S56, ⟨A56, k56, rfl, hk56, hS56⟩, rfl⟩
  refine ⟨by first | exact (List.sublist_append_left _ _) | exact (List.sublist_append_left _ _), ?_⟩
  refine uag rfl rfl rfl (xo_of_eo (eo_bstr (F := chC) rfl rfl Try.underlying35 Try.underlying5 Try.underlying9 (fun W1 hO => (hS56.rd (hO.tl 2 rfl (List.sublist_append_right _ _)))) (by omega))) rfl ?_
  rintro _ _ ⟨rfl, rfl⟩
  refine ⟨by first | exact (List.Sublist.refl _) | exact (List.sublist_append_left _ _), ?_⟩
  refine uag rfl rfl rfl (xo_of_eo (eo_seql rfl rfl rfl)) rfl ?_
  rintro _ _ ⟨rfl, rfl⟩
  refine ⟨by first | exact (List.Sublist.refl _) | exact (List.sublist_append_left _ _), ?_⟩
  refine ua rfl (xo_of_eo (eo_and rfl rfl (fun _ => rfl))) rfl ?_
  rintro _ _ ⟨rfl, rfl⟩
  refine ⟨by first | exact (List.Sublist.refl _) | exact (List.sublist_append_left _ _), ?_⟩
  rw [show (true && ((bstr 62 chC).toList == (bstr 62 chC).toList)) = true from by simp]
  refine ua rfl (xo_of_eo (eo_mv rfl rfl)) rfl ?_
  rintro _ _ ⟨rfl, rfl⟩
  refine ⟨by first | exact (List.Sublist.refl _) | exact (List.sublist_append_left _ _), ?_⟩
  refine uag rfl rfl rfl (xo_of_eo (eo_call rfl en19 rfl (fun W1 hO => close_c W1  ))) rfl ?_
  rintro _ _ ⟨rfl, rfl⟩
  refine ⟨by first | exact (List.Sublist.refl _) | exact (List.sublist_append_left _ _), ?_⟩
  refine uag rfl rfl rfl (xo_of_eo (eo_call rfl en20 rfl (fun W1 hO => rclose_c W1  ))) rfl ?_
  rintro _ _ ⟨rfl, rfl⟩
  refine ⟨by first | exact (List.Sublist.refl _) | exact (List.sublist_append_left _ _), ?_⟩
  refine uag rfl rfl rfl (xo_of_eo (eo_eql rfl rfl rfl)) rfl ?_
  rintro _ _ ⟨rfl, rfl⟩
  refine ⟨by first | exact (List.Sublist.refl _) | exact (List.sublist_append_left _ _), ?_⟩
  refine ua rfl (xo_of_eo (eo_and rfl rfl (fun _ => rfl))) rfl ?_
  rintro _ _ ⟨rfl, rfl⟩
  refine ⟨by first | exact (List.Sublist.refl _) | exact (List.sublist_append_left _ _), ?_⟩
  rw [show (true && decide ((cloI 62) = (cloI 62))) = true from by simp]
  refine ua rfl (xo_of_eo (eo_mv rfl rfl)) rfl ?_
  rintro _ _ ⟨rfl, rfl⟩
  refine ⟨by first | exact (List.Sublist.refl _) | exact (List.sublist_append_left _ _), ?_⟩
  refine uag rfl rfl rfl (xo_of_eo (eo_call rfl en7 rfl (fun W1 hO => exam47_c W1  ))) rfl ?_
  rintro _ _ ⟨rfl, rfl⟩
  refine ⟨by first | exact (List.Sublist.refl _) | exact (List.sublist_append_left _ _), ?_⟩
  refine ua rfl (xo_of_eo (eo_and rfl rfl (fun _ => rfl))) rfl ?_
  rintro _ _ ⟨rfl, rfl⟩
  refine ⟨by first | exact (List.Sublist.refl _) | exact (List.sublist_append_left _ _), ?_⟩
  refine ua rfl (xo_of_eo (eo_as rfl rfl)) rfl ?_
  rintro _ _ ⟨rfl, rfl⟩
  refine ⟨by first | exact (List.Sublist.refl _) | exact (List.sublist_append_left _ _), ?_⟩
  refine gu_nil ?_
  refine gq_nq ?_
  refine gq_next ?_
  refine gc_ret ?_
  refine gq_results (res1 rfl rfl) ?_
  exact fun W1 hO => ⟨ret_bool (show (true && true) = true from by simp), hO.toExt⟩

end Go.Proofs.Ytjndoanhkfdngaa
