/-
  For the walks of the division of a page and of its regions: the least box, lists of regions, lists that are alike. No program is named here.
-/
import Derived.Test.YtnmiljloifbjeaaRs
namespace Go.Bs
open Go.RowKit Go.Eng
def bx1 (W H : Int) : Bx := ⟨0, 0, W, H⟩
section
variable {W H gx gy : Int} {n : Nat} {f : Nat → Bool} {b : Bx}
theorem bx_in (h : vldB W H n = true) : BIn W H ⟨0, 0, W, H⟩ := by
  obtain ⟨v1, v2, v3, v4, v5, v6⟩ := vldB_iff.1 h
  exact ⟨Int.le_refl _, Int.le_refl _, by show 0 ≤ W; omega, by show 0 ≤ H; omega, by show 0 + W ≤ W; omega, by show 0 + H ≤ H; omega⟩
theorem bx_none (h : vldB W H n = true) (k : bxB (dotsV W H n f) = false) : bxS f W ⟨0, 0, W, H⟩ = 0 := by
  have k2 : topF (dotsV W H n f) < 0 := by
    unfold bxB at k
    have := of_decide_eq_false k
    omega
  rcases box_spec (f := f) h with ⟨a, _⟩ | ⟨a, _⟩
  · exact (bxS_zero (bx_in h)).2 fun x y ⟨h1, h2, h3, h4⟩ => a x y h1 (by simp only at h2; omega) h3 (by simp only at h4; omega)
  · omega
theorem bx_red (h : vldB W H n = true) (k : bxB (dotsV W H n f) = true) : (⟨bxX (dotsV W H n f), bxY (dotsV W H n f), bxW (dotsV W H n f), bxH (dotsV W H n f)⟩ : Bx) = redB f W ⟨0, 0, W, H⟩ ∧ HasD f W ⟨0, 0, W, H⟩ := by
  have k2 : ¬ topF (dotsV W H n f) < 0 := of_decide_eq_true k
  rcases box_spec (f := f) h with ⟨_, a⟩ | ⟨_, a⟩
  · omega
  · obtain ⟨y1, l1, l2, l3, l4, l5⟩ := a.left
    obtain ⟨y2, r1, r2, r3, r4, r5⟩ := a.right
    obtain ⟨x1, t1, t2, t3, t4, t5⟩ := a.top
    obtain ⟨x2, b1, b2, b3, b4, b5⟩ := a.bot
    have p1 := a.all _ _ l3 l4 l1 l2 l5
    have p2 := a.all _ _ r3 r4 r1 r2 r5
    have p3 := a.all _ _ t1 t2 t3 t4 t5
    have p4 := a.all _ _ b1 b2 b3 b4 b5
    unfold bxX bxY bxW bxH
    rw [if_neg k2, if_neg k2, if_neg k2, if_neg k2]
    have red : BRed f W ⟨0, 0, W, H⟩ ⟨leftF (dotsV W H n f), topF (dotsV W H n f), rightF (dotsV W H n f) - leftF (dotsV W H n f) + 1, botF (dotsV W H n f) - topF (dotsV W H n f) + 1⟩ := by
      refine ⟨⟨l3, by show leftF _ + (rightF _ - leftF _ + 1) ≤ 0 + W; omega, t3, by show topF _ + (botF _ - topF _ + 1) ≤ 0 + H; omega⟩, fun x y ⟨h1, h2, h3, h4⟩ d => ?_, ⟨x1, ⟨?_, ?_, ?_, ?_⟩, t5⟩, ⟨x2, ⟨?_, ?_, ?_, ?_⟩, ?_⟩, ⟨y1, ⟨?_, ?_, ?_, ?_⟩, l5⟩, ⟨y2, ⟨?_, ?_, ?_, ?_⟩, ?_⟩⟩
      · simp only at h1 h2 h3 h4
        have q := a.all x y h1 (by omega) h3 (by omega) d
        exact ⟨q.1, by simp only; omega, q.2.2.1, by simp only; omega⟩
      all_goals simp only
      all_goals first | omega | skip
      · rw [show topF (dotsV W H n f) + (botF (dotsV W H n f) - topF (dotsV W H n f) + 1) - 1 = botF (dotsV W H n f) by omega]; exact b5
      · rw [show leftF (dotsV W H n f) + (rightF (dotsV W H n f) - leftF (dotsV W H n f) + 1) - 1 = rightF (dotsV W H n f) by omega]; exact r5
    exact ⟨(red_of (bx_in h) red).symm, red.hasD⟩
theorem cutR_zero (h : (cutR ⟨W, H, n, f⟩ gx gy).2 = 0) : vldB W H n = true ∧ gxy gx gy = true := by
  cases hv : vldB W H n with
  | false => rw [cutR_no hv] at h; simp at h
  | true =>
    cases hg : gxy gx gy with
    | false => rw [cutR_range hv hg] at h; simp at h
    | true => exact ⟨rfl, rfl⟩
theorem cutR_err (h : (cutR ⟨W, H, n, f⟩ gx gy).2 ≠ 0) : (cutR ⟨W, H, n, f⟩ gx gy).1 = [] := by
  cases hv : vldB W H n with
  | false => rw [cutR_no hv]
  | true =>
    cases hg : gxy gx gy with
    | false => rw [cutR_range hv hg]
    | true => rw [cutR_ok hv hg] at h; exact absurd rfl h
theorem cutR_dv (hv : vldB W H n = true) (hg : gxy gx gy = true) : Dv f W H gx gy ⟨0, 0, W, H⟩ (cutR ⟨W, H, n, f⟩ gx gy).1 := by
  obtain ⟨v1, v2, v3, v4, v5, v6⟩ := vldB_iff.1 hv
  rw [cutR_ok hv hg]
  exact dv_spec (bx_in hv) (by show W + H ≤ _; omega)
theorem cutR_len : (cutR ⟨W, H, n, f⟩ gx gy).1.length ≤ n := by
  cases hv : vldB W H n with
  | false => rw [cutR_no hv]; exact Nat.zero_le _
  | true =>
    cases hg : gxy gx gy with
    | false => rw [cutR_range hv hg]; exact Nat.zero_le _
    | true =>
      have h := (cutR_dv (f := f) hv hg).num
      have v6 := (vldB_iff.1 hv).2.2.2.2.2
      simp only at h
      omega
theorem tg_ins (h : Tg f W H b) : insB W H b.X b.Y b.W b.H = true := by
  have p := h.red.pos
  obtain ⟨a1, a2, a3, a4, a5, a6⟩ := h.inn
  exact insB_iff.2 ⟨a1, a2, p.1, p.2, a5, a6⟩
end
theorem ne_cells {X : List Nat} {w0 W : World} {Hb : List Blk} {A B : Option Addr} {n m k : Nat} {G : Nat → Int} {g : Nat} {t : TypeId} {a b c d : Int} (hO : Ow X w0 W Hb) (i : Nat) (hi : Hb[i]? = some ⟨g, t, [.int .i64 a, .slice B m k, .int .i64 b, .int .i64 c, .int .i64 d]⟩) (hr : Rd W A (tab n (iv .i32 G))) (hn : 0 < n) : bl A ≠ g := by
  intro e
  have h := Rd.tabi hr hn
  rw [e, hO.cell hi] at h
  generalize of A + 0 = j at h
  rcases j with _ | _ | _ | _ | _ | j <;> simp at h
/-! ### lists of regions -/
def rgG (c : Bx → Int) (l : List Bx) (i : Nat) : Int := if i % 5 = 0 then c (l.getD (i / 5) bx0) else bxE (l.getD (i / 5) bx0) (i % 5 - 1)
theorem rgG_at {c : Bx → Int} {l : List Bx} {k j : Nat} (hj : j < 5) : rgG c l (k * 5 + j) = if j = 0 then c (l.getD k bx0) else bxE (l.getD k bx0) (j - 1) := by
  unfold rgG
  rw [show (k * 5 + j) % 5 = j by omega, show (k * 5 + j) / 5 = k by omega]
theorem rg_new {c : Bx → Int} {l : List Bx} {k : Nat} {q : Int} (hq : q = c (l.getD k bx0)) : ∀ j, j < 5 → [q, (l.getD k bx0).X, (l.getD k bx0).Y, (l.getD k bx0).W, (l.getD k bx0).H].getD j 0 = rgG c l (k * 5 + j) := fun j hj => by
  rw [rgG_at hj]
  rcases j with _ | _ | _ | _ | _ | j
  · exact hq
  · rfl
  · rfl
  · rfl
  · rfl
  · omega
theorem bx_mem {l : List Bx} {i : Nat} (h : i < l.length) : l.getD i bx0 ∈ l := by
  rw [List.getD_eq_getElem?_getD, List.getElem?_eq_getElem h]
  exact List.getElem_mem h
theorem bxG_0 {l : List Bx} {i k : Nat} (h : i = k) : bxG l (i * 4 + 0) = (l.getD k bx0).X := by rw [h, bxG_at (by decide)]; rfl
theorem bxG_1 {l : List Bx} {i k : Nat} (h : i = k) : bxG l (i * 4 + 1) = (l.getD k bx0).Y := by rw [h, bxG_at (by decide)]; rfl
theorem bxG_2 {l : List Bx} {i k : Nat} (h : i = k) : bxG l (i * 4 + 2) = (l.getD k bx0).W := by rw [h, bxG_at (by decide)]; rfl
theorem bxG_3 {l : List Bx} {i k : Nat} (h : i = k) : bxG l (i * 4 + 3) = (l.getD k bx0).H := by rw [h, bxG_at (by decide)]; rfl
/-! ### lists that are alike -/
section
variable {F F1 : Nat → Int} {n n1 i : Nat}
theorem eq4_no (hi : i < n) (h : ([F (i * 4 + 0), F (i * 4 + 1), F (i * 4 + 2), F (i * 4 + 3)] == [F1 (i * 4 + 0), F1 (i * 4 + 1), F1 (i * 4 + 2), F1 (i * 4 + 3)]) = false) : eqS (n * 4) F (n1 * 4) F1 = false := by
  refine decide_eq_false fun e => ?_
  rw [e.2 _ (show i * 4 + 0 < n * 4 by omega), e.2 _ (show i * 4 + 1 < n * 4 by omega), e.2 _ (show i * 4 + 2 < n * 4 by omega), e.2 _ (show i * 4 + 3 < n * 4 by omega)] at h
  simp at h
theorem eq4_up (hI : ∀ j, j < i * 4 → F j = F1 j) (h : ([F (i * 4 + 0), F (i * 4 + 1), F (i * 4 + 2), F (i * 4 + 3)] == [F1 (i * 4 + 0), F1 (i * 4 + 1), F1 (i * 4 + 2), F1 (i * 4 + 3)]) = true) : ∀ j, j < (i + 1) * 4 → F j = F1 j := by
  intro j hj
  simp only [beq_iff_eq, List.cons.injEq, and_true] at h
  obtain ⟨h0, h1, h2, h3⟩ := h
  by_cases c : j < i * 4
  · exact hI j c
  · rcases (show j = i * 4 + 0 ∨ j = i * 4 + 1 ∨ j = i * 4 + 2 ∨ j = i * 4 + 3 by omega) with rfl | rfl | rfl | rfl
    · exact h0
    · exact h1
    · exact h2
    · exact h3
theorem eq2_no (hi : i < n) (h : ([F (i * 2 + 0), F (i * 2 + 1)] == [F1 (i * 2 + 0), F1 (i * 2 + 1)]) = false) : eqS (n * 2) F (n1 * 2) F1 = false := by
  refine decide_eq_false fun e => ?_
  rw [e.2 _ (show i * 2 + 0 < n * 2 by omega), e.2 _ (show i * 2 + 1 < n * 2 by omega)] at h
  simp at h
theorem eq2_up (hI : ∀ j, j < i * 2 → F j = F1 j) (h : ([F (i * 2 + 0), F (i * 2 + 1)] == [F1 (i * 2 + 0), F1 (i * 2 + 1)]) = true) : ∀ j, j < (i + 1) * 2 → F j = F1 j := by
  intro j hj
  simp only [beq_iff_eq, List.cons.injEq, and_true] at h
  obtain ⟨h0, h1⟩ := h
  by_cases c : j < i * 2
  · exact hI j c
  · rcases (show j = i * 2 + 0 ∨ j = i * 2 + 1 by omega) with rfl | rfl
    · exact h0
    · exact h1
theorem eqN_len {sz : Nat} (hs : 0 < sz) (h : n ≠ n1) : eqS (n * sz) F (n1 * sz) F1 = false := eqS_len fun e => h (Nat.eq_of_mul_eq_mul_right hs e)
end
end Go.Bs
