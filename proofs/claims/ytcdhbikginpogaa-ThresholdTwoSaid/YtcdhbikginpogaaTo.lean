/-
  The best threshold is the least of the best. No program is named here.
-/
import Derived.Test.YtcdhbikginpogaaTh
namespace Go.Bs
open Go.RowKit Go.Eng

theorem frac_lt {x a y b z c : Int} (ha : 0 < a) (hb : 0 < b) (hc : 0 < c) (h1 : x * b ≤ y * a) (h2 : y * c < z * b) : x * c < z * a := by
  refine Int.not_le.1 fun h => ?_
  have e1 : z * a * b ≤ x * c * b := Int.mul_le_mul_of_nonneg_right h (by omega)
  have e2 : x * b * c ≤ y * a * c := Int.mul_le_mul_of_nonneg_right h1 (by omega)
  have e3 : y * c * a < z * b * a := Int.mul_lt_mul_of_pos_right h2 ha
  rw [Int.mul_right_comm x c b] at e1
  rw [Int.mul_right_comm y a c] at e2
  rw [Int.mul_right_comm z a b] at e1
  omega
theorem bst_opt {f : Nat → Int} {n : Nat} (hp : PixOk n f) (hn : n ≤ 2000) : ∀ k j, j ≤ k →
    vN f n j * vD f n (bst f n k) ≤ vN f n (bst f n k) * vD f n j ∧ (j < bst f n k → vN f n j * vD f n (bst f n k) < vN f n (bst f n k) * vD f n j)
  | 0, j, hj => by
    rw [show j = 0 by omega]
    exact ⟨Int.le_refl _, fun h => absurd h (by show ¬ 0 < 0; omega)⟩
  | k + 1, j, hj => by
    have pos : ∀ t, 0 < vD f n t := fun t => by have := (vNB (t := t) hp hn).2.1; omega
    by_cases c : vN f n (bst f n k) * vD f n (k + 1) < vN f n (k + 1) * vD f n (bst f n k)
    · rw [← bst_yes rfl c]
      by_cases e : j = k + 1
      · rw [e]
        exact ⟨Int.le_refl _, fun h => absurd h (by omega)⟩
      · have i := (bst_opt hp hn k j (by omega)).1
        have r := frac_lt (pos j) (pos (bst f n k)) (pos (k + 1)) i c
        exact ⟨by omega, fun _ => r⟩
    · rw [← bst_no rfl c]
      by_cases e : j = k + 1
      · rw [e]
        have := bst_le (f := f) (n := n) (k := k)
        exact ⟨by omega, fun h => by omega⟩
      · exact bst_opt hp hn k j (by omega)
theorem sT_le {f : Nat → Int} {n t : Nat} (h : PixOk n f) : sT f n t ≤ 255 * nT f n t ∧ sT f n 256 - sT f n t ≤ 255 * ((n : Int) - nT f n t) := by
  induction n with
  | zero => exact ⟨Int.le_refl _, Int.le_refl _⟩
  | succ n ih =>
    have i := ih h.le
    have b := h n (by omega)
    unfold sT nT
    rw [if_pos (show f n < ((256 : Nat) : Int) by omega)]
    split <;> omega
/-- the products of a small image stay within a word -/
theorem opt_bd {f : Nat → Int} {n t : Nat} (hp : PixOk n f) (hn : n ≤ 300) : (0 ≤ qT f n t ∧ qT f n t ≤ 22500) ∧ (-5737500 ≤ dT f n t ∧ dT f n t ≤ 5737500) ∧ (0 ≤ ((n : Int) - nT f n t) * sT f n t ∧ ((n : Int) - nT f n t) * sT f n t ≤ 5737500) ∧ (0 ≤ nT f n t * (sT f n 256 - sT f n t) ∧ nT f n t * (sT f n 256 - sT f n t) ≤ 5737500) := by
  obtain ⟨⟨a1, a2⟩, ⟨b1, b2⟩, ⟨c1, c2⟩, ⟨d1, d2⟩⟩ := parts_bd (t := t) hp (by omega)
  obtain ⟨e1, e2⟩ := sT_le (t := t) hp
  unfold qT dT
  generalize nT f n t = u at *
  generalize sT f n t = s at *
  generalize sT f n 256 = S at *
  generalize hv : (n : Int) - u = v at *
  have q0 : 0 ≤ u * v := Int.mul_nonneg a1 c1
  have q1 : u * v ≤ 22500 := by
    have h := sq_nn (z := u - v)
    rw [Int.sub_mul, Int.mul_sub, Int.mul_sub, Int.mul_comm v u] at h
    have h2 := sq_le (z := u + v) (c := 300) (by omega)
    rw [Int.add_mul, Int.mul_add, Int.mul_add, Int.mul_comm v u] at h2
    omega
  have p1 : v * s ≤ v * (255 * u) := Int.mul_le_mul_of_nonneg_left e1 c1
  have p2 : u * (S - s) ≤ u * (255 * v) := Int.mul_le_mul_of_nonneg_left e2 a1
  have p3 : 0 ≤ v * s := Int.mul_nonneg c1 b1
  have p4 : 0 ≤ u * (S - s) := Int.mul_nonneg a1 d1
  have k1 : v * (255 * u) = 255 * (u * v) := by rw [Int.mul_left_comm, Int.mul_comm v u]
  have k2 : u * (255 * v) = 255 * (u * v) := Int.mul_left_comm _ _ _
  omega
/-- a side of the comparison: the numerator and the denominator that the law computes -/
theorem opt_yes {f : Nat → Int} {n t : Nat} (h : 0 < qT f n t) : dT f n t * dT f n t = vN f n t ∧ max 1 (qT f n t) = vD f n t := ⟨(vN_pos h).1.symm, by rw [(vN_pos h).2]; omega⟩
theorem opt_no {f : Nat → Int} {n t : Nat} (hp : PixOk n f) (hn : n ≤ 2000) (h : ¬ 0 < qT f n t) : (0 : Int) * 0 = vN f n t ∧ max 1 (qT f n t) = vD f n t := ⟨by rw [(vN_not hp hn h).1]; rfl, by rw [(vN_not hp hn h).2]; omega⟩
theorem opt_end {f : Nat → Int} {n o : Nat} {x q y r : Int} (hp : PixOk n f) (hn : n ≤ 2000) (ho : o ≤ 255) (h1 : x = vN f n (bst f n 255) ∧ q = vD f n (bst f n 255)) (h2 : y = vN f n o ∧ r = vD f n o) :
    y * q ≤ x * r ∧ (y * q < x * r ∨ ((bst f n 255 : Nat) : Int) ≤ (o : Int)) := by
  rw [h1.1, h1.2, h2.1, h2.2]
  have h := bst_opt hp hn 255 o ho
  refine ⟨h.1, ?_⟩
  by_cases c : o < bst f n 255
  · exact .inl (h.2 c)
  · exact .inr (by omega)
end Go.Bs
