/-
  The walks of the functions of package regions and of the document's answers (part M): what each call returns, at every argument.
-/
import Derived.Test.YtnmiljloifbjeaaWB
import Derived.Test.YtnmiljloifbjeaaRt
namespace Go.Proofs.Ytnmiljloifbjeaa
open Go.RowKit Go.Eng

open Go.Bs
theorem sl34 : TySl Try.prog 34 38 2 := ⟨Try.underlying34, by kernel_rfl⟩
theorem st38 : StEq Try.prog 38 := ⟨by rw [Program.fieldsOf, Try.underlying38], by kernel_rfl, by kernel_rfl⟩
theorem eq38 (a0 a1 b0 b1 : Int) : EqOk Try.prog #[.int .i64 a0, .int .i64 a1] #[.int .i64 b0, .int .i64 b1] (Try.prog.fieldsOf 38).toList [a0, a1] [b0, b1] := by
  rw [Program.fieldsOf, Try.underlying38]
  exact ⟨by decide, fun _ => by kernel_rfl, fun _ => by kernel_rfl, Try.underlying3, by decide, fun _ => by kernel_rfl, fun _ => by kernel_rfl, Try.underlying3, trivial⟩
theorem sl27 : TySl Try.prog 27 32 4 := ⟨Try.underlying27, by kernel_rfl⟩
theorem st32 : StEq Try.prog 32 := ⟨by rw [Program.fieldsOf, Try.underlying32], by kernel_rfl, by kernel_rfl⟩
theorem eq32 (a0 a1 a2 a3 b0 b1 b2 b3 : Int) : EqOk Try.prog #[.int .i64 a0, .int .i64 a1, .int .i64 a2, .int .i64 a3] #[.int .i64 b0, .int .i64 b1, .int .i64 b2, .int .i64 b3] (Try.prog.fieldsOf 32).toList [a0, a1, a2, a3] [b0, b1, b2, b3] := by
  rw [Program.fieldsOf, Try.underlying32]
  exact ⟨by decide, fun _ => by kernel_rfl, fun _ => by kernel_rfl, Try.underlying3, by decide, fun _ => by kernel_rfl, fun _ => by kernel_rfl, Try.underlying3, by decide, fun _ => by kernel_rfl, fun _ => by kernel_rfl, Try.underlying3, by decide, fun _ => by kernel_rfl, fun _ => by kernel_rfl, Try.underlying3, trivial⟩

/-- barscan/barscanref20.Points -/
theorem points_c (A : Option Addr) (n c : Nat) (F : Nat → Int) (A1 : Option Addr) (n1 c1 : Nat) (F1 : Nat → Int) (w : World) (hr : Rd w A (tab (n * 2) (iv .i64 F))) (hr1 : Rd w A1 (tab (n1 * 2) (iv .i64 F1))) (hnn : n ≤ 1073741824) :
    Calls Try.prog 19 #[.slice A n c, .slice A1 n1 c1] w (fun e w' => e = .returned (.bool (eqS (n * 2) F (n1 * 2) F1)) ∧ Ext w w') := by
  refine calls_enter (N := ⟨26, []⟩) [] ([]) Try.func19 rfl rfl rfl (Ow.start _) ?_
  refine gc_seq ?_
  refine gc_region ?_
  refine ne (eo_as rfl rfl) rfl ?_
  refine go_nil ?_
  refine gq_next ?_
  refine gc_seq ?_
  refine gc_seq ?_
  refine gc_region ?_
  refine ne (eo_mv rfl rfl) rfl ?_
  refine ne (eo_len rfl Try.underlying34 rfl) rfl ?_
  refine ne (eo_mv rfl rfl) rfl ?_
  refine ne (eo_len rfl Try.underlying34 rfl) rfl ?_
  refine ne (eo_neq rfl rfl rfl) rfl ?_
  refine go_nil ?_
  refine gq_next ?_
  refine gc_cond rfl (fun hc0 => ?_) (fun hc0 => ?_)
  ·
    replace hc0 := of_decide_eq_true hc0
    refine gc_seq ?_
    refine gc_region ?_
    refine ne (eo_as rfl rfl) rfl ?_
    refine go_nil ?_
    refine gq_next ?_
    refine gc_ret ?_
    refine gq_then_ret ?_
    refine gq_results (res1 rfl rfl) ?_
    exact fun W1 hO => ⟨ret_bool (eqN_len (by decide) (by omega)).symm, hO.toExt⟩
  ·
    replace hc0 := of_decide_eq_false hc0
    refine gc_skip ?_
    refine gq_next ?_
    refine gc_seq ?_
    refine gc_seq ?_
    refine gc_region ?_
    refine ne (eo_as rfl rfl) rfl ?_
    refine go_nil ?_
    refine gq_next ?_
    refine gc_block ?_
    refine loop1 (fun (i : Nat) => i ≤ n ∧ ∀ j, j < i * 2 → F j = F1 j) (fun (i : Nat) => n - i) (fun (i : Nat) => [(0, .slice A n c), (1, .slice A1 n1 c1), (5, .int .i64 (i : Int))]) (fun (i : Nat) => []) 0 ⟨by omega, fun j hj => by omega⟩ ⟨rfl, rfl, rfl, trivial⟩ (List.Sublist.refl _) ?_
    rintro i ⟨hi, hI⟩
    refine gc_seq ?_
    refine gc_seq ?_
    refine gc_region ?_
    refine ne (eo_mv rfl rfl) rfl ?_
    refine ne (eo_mv rfl rfl) rfl ?_
    refine ne (eo_len rfl Try.underlying34 rfl) rfl ?_
    refine ne (eo_lss rfl rfl rfl) rfl ?_
    refine go_nil ?_
    refine gq_next ?_
    refine gc_cond rfl (fun hc1 => ?_) (fun hc1 => ?_)
    ·
      replace hc1 := of_decide_eq_true hc1
      refine gc_skip ?_
      refine gq_next ?_
      refine gc_seq ?_
      refine gc_block ?_
      refine gc_seq ?_
      refine gc_draw [] [0, 1, 2, 3, 4, 5, 6, 7, 8] [] [] (by kernel_rfl) (by kernel_rfl) ?_
      refine gp_nil ?_
      refine de rfl (eo_mv rfl rfl) rfl ?_
      refine de rfl (eo_mv rfl rfl) rfl ?_
      refine de rfl (eo_indexNS rfl sl34 rfl rfl (fun W1 hO => (hr.old0 hO)) (by omega) (by omega) (by omega)) rfl ?_
      refine de rfl (eo_loadNA rfl a38 rfl (fun W1 hO => (hr.old0 hO)) (by omega)) rfl ?_
      refine de rfl (eo_mv rfl rfl) rfl ?_
      refine de rfl (eo_mv rfl rfl) rfl ?_
      refine de rfl (eo_indexNS rfl sl34 rfl rfl (fun W1 hO => (hr1.old0 hO)) (by omega) (by omega) (by omega)) rfl ?_
      refine de rfl (eo_loadNA rfl a38 rfl (fun W1 hO => (hr1.old0 hO)) (by omega)) rfl ?_
      refine de rfl (eo_neA rfl rfl rfl st38 (eq38 _ _ _ _)) rfl ?_
      refine ge_nil ?_
      refine ga_nil ?_
      refine gi_nil ?_
      refine gq_nq ?_
      refine gq_next ?_
      refine gc_cond rfl (fun hc2 => ?_) (fun hc2 => ?_)
      ·
        refine gc_seq ?_
        refine gc_region ?_
        refine ne (eo_as rfl rfl) rfl ?_
        refine go_nil ?_
        refine gq_next ?_
        refine gc_ret ?_
        refine gq_block_ret ?_
        refine gq_then_ret ?_
        refine gq_then_ret ?_
        refine gq_block_ret ?_
        refine gq_then_ret ?_
        refine gq_results (res1 rfl rfl) ?_
        exact fun W1 hO => ⟨ret_bool (eq2_no (i := i) (by omega) (not_t hc2)).symm, hO.toExt⟩
      ·
        refine gc_skip ?_
        refine gq_block_end ?_
        refine gq_next ?_
        refine gc_region ?_
        refine ne (eo_mv rfl rfl) rfl ?_
        refine ne (eo_add rfl rfl rfl (by omega) (by omega)) rfl ?_
        refine ne (eo_as rfl rfl) rfl ?_
        refine go_nil ?_
        exact round1 (i + 1) ⟨by omega, eq2_up hI (not_f hc2)⟩ (by omega) ⟨rfl, rfl, rfl, trivial⟩ (List.Sublist.refl _)
    ·
      replace hc1 := of_decide_eq_false hc1
      refine gc_exit ?_
      refine gq_then_exit ?_
      refine gq_then_exit ?_
      refine gq_block_hit ?_
      refine gq_next ?_
      refine gc_seq ?_
      refine gc_region ?_
      refine ne (eo_as rfl rfl) rfl ?_
      refine go_nil ?_
      refine gq_next ?_
      refine gc_ret ?_
      refine gq_results (res1 rfl rfl) ?_
      exact fun W1 hO => ⟨ret_bool (eqS_yes (by omega) fun j hj => hI j (by omega)).symm, hO.toExt⟩

/-- barscan/barscanref42.Boxes -/
theorem boxes_c (A : Option Addr) (n c : Nat) (F : Nat → Int) (A1 : Option Addr) (n1 c1 : Nat) (F1 : Nat → Int) (w : World) (hr : Rd w A (tab (n * 4) (iv .i64 F))) (hr1 : Rd w A1 (tab (n1 * 4) (iv .i64 F1))) (hnn : n ≤ 1073741824) :
    Calls Try.prog 23 #[.slice A n c, .slice A1 n1 c1] w (fun e w' => e = .returned (.bool (eqS (n * 4) F (n1 * 4) F1)) ∧ Ext w w') := by
  refine calls_enter (N := ⟨26, []⟩) [] ([]) Try.func23 rfl rfl rfl (Ow.start _) ?_
  refine gc_seq ?_
  refine gc_region ?_
  refine ne (eo_as rfl rfl) rfl ?_
  refine go_nil ?_
  refine gq_next ?_
  refine gc_seq ?_
  refine gc_seq ?_
  refine gc_region ?_
  refine ne (eo_mv rfl rfl) rfl ?_
  refine ne (eo_len rfl Try.underlying27 rfl) rfl ?_
  refine ne (eo_mv rfl rfl) rfl ?_
  refine ne (eo_len rfl Try.underlying27 rfl) rfl ?_
  refine ne (eo_neq rfl rfl rfl) rfl ?_
  refine go_nil ?_
  refine gq_next ?_
  refine gc_cond rfl (fun hc0 => ?_) (fun hc0 => ?_)
  ·
    replace hc0 := of_decide_eq_true hc0
    refine gc_seq ?_
    refine gc_region ?_
    refine ne (eo_as rfl rfl) rfl ?_
    refine go_nil ?_
    refine gq_next ?_
    refine gc_ret ?_
    refine gq_then_ret ?_
    refine gq_results (res1 rfl rfl) ?_
    exact fun W1 hO => ⟨ret_bool (eqN_len (by decide) (by omega)).symm, hO.toExt⟩
  ·
    replace hc0 := of_decide_eq_false hc0
    refine gc_skip ?_
    refine gq_next ?_
    refine gc_seq ?_
    refine gc_seq ?_
    refine gc_region ?_
    refine ne (eo_as rfl rfl) rfl ?_
    refine go_nil ?_
    refine gq_next ?_
    refine gc_block ?_
    refine loop1 (fun (i : Nat) => i ≤ n ∧ ∀ j, j < i * 4 → F j = F1 j) (fun (i : Nat) => n - i) (fun (i : Nat) => [(0, .slice A n c), (1, .slice A1 n1 c1), (5, .int .i64 (i : Int))]) (fun (i : Nat) => []) 0 ⟨by omega, fun j hj => by omega⟩ ⟨rfl, rfl, rfl, trivial⟩ (List.Sublist.refl _) ?_
    rintro i ⟨hi, hI⟩
    refine gc_seq ?_
    refine gc_seq ?_
    refine gc_region ?_
    refine ne (eo_mv rfl rfl) rfl ?_
    refine ne (eo_mv rfl rfl) rfl ?_
    refine ne (eo_len rfl Try.underlying27 rfl) rfl ?_
    refine ne (eo_lss rfl rfl rfl) rfl ?_
    refine go_nil ?_
    refine gq_next ?_
    refine gc_cond rfl (fun hc1 => ?_) (fun hc1 => ?_)
    ·
      replace hc1 := of_decide_eq_true hc1
      refine gc_skip ?_
      refine gq_next ?_
      refine gc_seq ?_
      refine gc_block ?_
      refine gc_seq ?_
      refine gc_draw [] [0, 1, 2, 3, 4, 5, 6, 7, 8] [] [] (by kernel_rfl) (by kernel_rfl) ?_
      refine gp_nil ?_
      refine de rfl (eo_mv rfl rfl) rfl ?_
      refine de rfl (eo_mv rfl rfl) rfl ?_
      refine de rfl (eo_indexNS rfl sl27 rfl rfl (fun W1 hO => (hr.old0 hO)) (by omega) (by omega) (by omega)) rfl ?_
      refine de rfl (eo_loadNA rfl a32 rfl (fun W1 hO => (hr.old0 hO)) (by omega)) rfl ?_
      refine de rfl (eo_mv rfl rfl) rfl ?_
      refine de rfl (eo_mv rfl rfl) rfl ?_
      refine de rfl (eo_indexNS rfl sl27 rfl rfl (fun W1 hO => (hr1.old0 hO)) (by omega) (by omega) (by omega)) rfl ?_
      refine de rfl (eo_loadNA rfl a32 rfl (fun W1 hO => (hr1.old0 hO)) (by omega)) rfl ?_
      refine de rfl (eo_neA rfl rfl rfl st32 (eq32 _ _ _ _ _ _ _ _)) rfl ?_
      refine ge_nil ?_
      refine ga_nil ?_
      refine gi_nil ?_
      refine gq_nq ?_
      refine gq_next ?_
      refine gc_cond rfl (fun hc2 => ?_) (fun hc2 => ?_)
      ·
        refine gc_seq ?_
        refine gc_region ?_
        refine ne (eo_as rfl rfl) rfl ?_
        refine go_nil ?_
        refine gq_next ?_
        refine gc_ret ?_
        refine gq_block_ret ?_
        refine gq_then_ret ?_
        refine gq_then_ret ?_
        refine gq_block_ret ?_
        refine gq_then_ret ?_
        refine gq_results (res1 rfl rfl) ?_
        exact fun W1 hO => ⟨ret_bool (eq4_no (i := i) (by omega) (not_t hc2)).symm, hO.toExt⟩
      ·
        refine gc_skip ?_
        refine gq_block_end ?_
        refine gq_next ?_
        refine gc_region ?_
        refine ne (eo_mv rfl rfl) rfl ?_
        refine ne (eo_add rfl rfl rfl (by omega) (by omega)) rfl ?_
        refine ne (eo_as rfl rfl) rfl ?_
        refine go_nil ?_
        exact round1 (i + 1) ⟨by omega, eq4_up hI (not_f hc2)⟩ (by omega) ⟨rfl, rfl, rfl, trivial⟩ (List.Sublist.refl _)
    ·
      replace hc1 := of_decide_eq_false hc1
      refine gc_exit ?_
      refine gq_then_exit ?_
      refine gq_then_exit ?_
      refine gq_block_hit ?_
      refine gq_next ?_
      refine gc_seq ?_
      refine gc_region ?_
      refine ne (eo_as rfl rfl) rfl ?_
      refine go_nil ?_
      refine gq_next ?_
      refine gc_ret ?_
      refine gq_results (res1 rfl rfl) ?_
      exact fun W1 hO => ⟨ret_bool (eqS_yes (by omega) fun j hj => hI j (by omega)).symm, hO.toExt⟩

end Go.Proofs.Ytnmiljloifbjeaa
