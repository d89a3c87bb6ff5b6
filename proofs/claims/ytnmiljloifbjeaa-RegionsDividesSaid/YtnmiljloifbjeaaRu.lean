/-
  For the walks of the document's answer to the segmentation of pages, and for the laws. No program is named here.
-/
import Derived.Test.YtnmiljloifbjeaaRt
namespace Go.Bs
open Go.RowKit Go.Eng
/-- a gap is opened with no line, and gets its first one -/
theorem gp_opn {e : Int → Bool} {a : Int} {i k q : Nat} {f1 : Nat → Int} (hk : k = (gpL e a i).length) (hI : ∀ j, j < k * 2 → f1 j = ptG (gpL e a i) j) (he : e (a + i) = true) (ho : (decide (1 ≤ i) && e (a + i - 1)) = false) (hq : q = k * 2 + 1) :
    k + 1 = (gpL e a (i + 1)).length ∧ ∀ j, j < (k + 1) * 2 → upd (ptG (gpL e a i ++ [(a + i, 0)])) q (ptG (gpL e a i ++ [(a + i, 0)]) q + 1) j = ptG (gpL e a (i + 1)) j := by
  have hn : ¬ (0 < (gpL e a i).length ∧ ((gpL e a i).getD ((gpL e a i).length - 1) (0, 0)).1 + ((gpL e a i).getD ((gpL e a i).length - 1) (0, 0)).2 = a + i) := fun c => by
    have := gp_open.1 c
    rw [this.2, decide_eq_true this.1] at ho
    cases ho
  rw [gp_new he hn]
  generalize gpL e a i = l at *
  have g1 : (l ++ [(a + (i : Int), (0 : Int))]).getD l.length (0, 0) = (a + i, 0) := by rw [getD_app2 (Nat.le_refl _), Nat.sub_self]; rfl
  have g2 : (l ++ [(a + (i : Int), (1 : Int))]).getD l.length (0, 0) = (a + i, 1) := by rw [getD_app2 (Nat.le_refl _), Nat.sub_self]; rfl
  subst hk
  refine ⟨by simp, fun j hj => ?_⟩
  by_cases c : j = q
  · subst c
    rw [upd_eq, hq, ptG_y, ptG_y, g1, g2]
    rfl
  · rw [upd_ne c]
    by_cases d : j < l.length * 2
    · rw [← ptG_pre j d, ← ptG_pre j d]
    · rw [show j = l.length * 2 + 0 by omega, ptG_x, ptG_x, g1, g2]
theorem gp_opF {e : Int → Bool} {a : Int} {i k : Nat} {f1 : Nat → Int} (hk : k = (gpL e a i).length) (hI : ∀ j, j < k * 2 → f1 j = ptG (gpL e a i) j) : (∀ j, j < k * 2 → f1 j = ptG (gpL e a i ++ [(a + i, 0)]) j) ∧ (∀ j, j < 2 → [a + (i : Int), 0].getD j 0 = ptG (gpL e a i ++ [(a + i, 0)]) (k * 2 + j)) ∧ ptG (gpL e a i ++ [(a + i, 0)]) (k * 2 + 1) = 0 := by
  subst hk
  have g1 : (gpL e a i ++ [(a + (i : Int), (0 : Int))]).getD (gpL e a i).length (0, 0) = (a + i, 0) := by rw [getD_app2 (Nat.le_refl _), Nat.sub_self]; rfl
  exact ⟨fun j hj => by rw [hI j hj]; exact ptG_pre j hj, fun j hj => ptG_new (p := (a + i, 0)) j hj, by rw [ptG_y, g1]⟩
theorem gp_cont {e : Int → Bool} {a : Int} {i k : Nat} {f1 : Nat → Int} (hk : k = (gpL e a i).length) (hI : ∀ j, j < k * 2 → f1 j = ptG (gpL e a i) j) (ho : (decide (1 ≤ i) && e (a + i - 1)) = true) : 0 < k ∧ f1 ((k - 1) * 2) + f1 ((k - 1) * 2 + 1) = a + i := by
  refine (gp_op hk hI).2 ?_
  simpa using ho
theorem op_next {e : Int → Bool} {a : Int} {i : Nat} : e (a + i) = (decide (1 ≤ i + 1) && e (a + ((i + 1 : Nat) : Int) - 1)) := by
  rw [show a + ((i + 1 : Nat) : Int) - 1 = a + i by push_cast; omega]
  simp
theorem ret_boxb {X Y w h : Int} {b : Bx} {q : Bool} (e : ⟨X, Y, w, h⟩ = b) : Ending.returned (.tuple #[.agg #[.int .i64 X, .int .i64 Y, .int .i64 w, .int .i64 h], .bool q]) = .returned (.tuple #[.agg #[.int .i64 b.X, .int .i64 b.Y, .int .i64 b.W, .int .i64 b.H], .bool q]) := by rw [← e]
theorem bx_join {l r : List Bx} : tab (l.length * 4) (iv .i64 (bxG l)) ++ tab (r.length * 4) (iv .i64 (bxG r)) = tab ((l ++ r).length * 4) (iv .i64 (bxG (l ++ r))) := by
  rw [tab_app, List.length_append, Nat.add_mul]
  refine tab_ext fun i hi => ?_
  split
  · rename_i h; unfold iv; rw [bxG_pre i h]
  · rename_i h
    unfold iv
    rw [bxG_post (l := l) (r := r) (i - l.length * 4) (by omega), show l.length * 4 + (i - l.length * 4) = i by omega]
theorem rapp_one {w W : World} {Hb : List Blk} {g : Nat} {e : TypeId} {b : Bx} {l : List Bx} (i : Nat) (hO : Ow [] w W Hb) (hi : Hb[i]? = some ⟨g, e, [.int .i64 b.X, .int .i64 b.Y, .int .i64 b.W, .int .i64 b.H]⟩) (hl : l = [b]) :
    ∃ v Hn, Ending.returned (.slice (some ⟨g, 0, none⟩) 1 1) = .returned v ∧ RApp [] e 4 l.length (tab (l.length * 4) (iv .i64 (bxG l))) v Hn ∧ Ow [] w W Hn := by
  subst hl
  have e4 : tab ([b].length * 4) (iv .i64 (bxG [b])) = [.int .i64 b.X, .int .i64 b.Y, .int .i64 b.W, .int .i64 b.H] := by simp [tab, List.range_succ, iv, bxG, bxE]
  rw [e4]
  exact ⟨_, [⟨g, e, [.int .i64 b.X, .int .i64 b.Y, .int .i64 b.W, .int .i64 b.H]⟩], rfl, ⟨.at_ g [] 1, ⟨by simp, by decide, by simp, by simp⟩, rfl, rfl⟩, hO.pick i hi⟩
theorem cutR_pos {W H gx gy : Int} {n i : Nat} {f : Nat → Bool} (h : i < (cutR ⟨W, H, n, f⟩ gx gy).1.length) : vldB W H n = true ∧ gxy gx gy = true := by
  refine cutR_zero (f := f) (Classical.byContradiction fun c => ?_)
  rw [cutR_err c] at h
  simp at h
/-! ### the laws -/
theorem gapR_len {W H : Int} {n : Nat} {f : Nat → Bool} {b : Bx} {v : Bool} : (gapR ⟨W, H, n, f⟩ b v).1.length ≤ 1073741824 := by
  cases hv : vldB W H n with
  | false => rw [gapR_no hv]; exact Nat.zero_le _
  | true =>
    cases hi : insB W H b.X b.Y b.W b.H with
    | false => rw [gapR_range hv hi]; exact Nat.zero_le _
    | true =>
      rw [gapR_ok hv hi]
      obtain ⟨v1, v2, v3, v4, v5, v6⟩ := vldB_iff.1 hv
      exact Nat.le_trans (gpV_len (insB_in hi) v2 v4) (by decide)

section
variable {W H gx gy gap : Int} {n : Nat} {f : Nat → Bool} {b : Bx}
theorem sm_law (hv : vldB W H n = true) (hg : 0 ≤ gap ∧ gap ≤ 4096) : (smR ⟨W, H, n, f⟩ gap).1.n = n ∧ (smR ⟨W, H, n, f⟩ gap).1.f = smQ f W gap W ∧ (smR (smR ⟨W, H, n, f⟩ gap).1 gap).2 = 0 ∧ eqP (smR ⟨W, H, n, f⟩ gap).1 (smR (smR ⟨W, H, n, f⟩ gap).1 gap).1 = true := by
  have v1 := (vldB_iff.1 hv).1
  rw [smR_ok hv hg]
  refine ⟨rfl, rfl, ?_, ?_⟩
  · show (smR ⟨W, H, n, smQ f W gap W⟩ gap).2 = 0
    rw [smR_ok hv hg]
  · show eqP ⟨W, H, n, smQ f W gap W⟩ (smR ⟨W, H, n, smQ f W gap W⟩ gap).1 = true
    rw [smR_ok hv hg]
    exact eqP_of ⟨rfl, rfl, rfl, fun j _ => (sm_twice v1 j).symm⟩
theorem smR_two (hv : vldB W H n = true) (h : (smR ⟨W, H, n, f⟩ gap).2 ≠ 0) : gap < 0 ∨ 4096 < gap := by
  refine Classical.byContradiction fun c => ?_
  rw [smR_ok hv (by omega)] at h
  exact h rfl
theorem smR_fine (h : ¬ (smR ⟨W, H, n, f⟩ gap).2 ≠ 0) (hv : vldB W H n = true) : 0 ≤ gap ∧ gap ≤ 4096 := by
  refine Classical.byContradiction fun c => ?_
  rw [smR_range hv c] at h
  exact h (by decide)
end
end Go.Bs
