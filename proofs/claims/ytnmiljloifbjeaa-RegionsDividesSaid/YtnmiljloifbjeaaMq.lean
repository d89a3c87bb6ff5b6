/-
  Plain laws of package morphology: erosion, dilation, opening, closing and majority as statements about pixels. No program is named here.
-/
import Derived.Test.YtnmiljloifbjeaaMo
namespace Go.Bs
open Go.RowKit Go.Eng

theorem erL_iff {n : Nat} {r : Int} {f : Nat → Bool} {i : Nat} (hr : 0 ≤ r) : erL n r f i = true ↔ (r ≤ (i : Int) ∧ (i : Int) + r < n ∧ ∀ k : Nat, (i : Int) ≤ k + r → (k : Int) ≤ i + r → f k = true) := by
  unfold erL
  rw [Bool.and_eq_true, Bool.and_eq_true, decide_eq_true_eq, decide_eq_true_eq, shG_iff hr, and_assoc]
  refine and_congr_right fun h1 => and_congr_right fun h2 => ?_
  constructor
  · intro h k a b; exact h k (by omega) (by omega)
  · intro h k a b; exact h k (by omega) (by omega)
theorem diL_iff {n : Nat} {r : Int} {f : Nat → Bool} {i : Nat} (hr : 0 ≤ r) : diL n r f i = true ↔ ∃ k : Nat, k < n ∧ f k = true ∧ (k : Int) ≤ i + r ∧ (i : Int) ≤ k + r := by
  unfold diL
  rw [spG_iff]
  constructor
  · rintro ⟨k, a, b, c, d⟩; exact ⟨k, a, b, by omega, by omega⟩
  · rintro ⟨k, a, b, c, d⟩; exact ⟨k, a, b, by omega, by omega⟩
theorem at_iff {m : Pm Bool} (hv : m.vld = true) {x y : Int} : m.at_ x y = true ↔ (0 ≤ x ∧ x < m.W ∧ 0 ≤ y ∧ y < m.H ∧ m.f (y * m.W + x).toNat = true) := by
  have hv' : vldB m.W m.H m.n = true := hv
  unfold Pm.at_ atB
  rw [hv', Bool.true_and, Bool.and_eq_true, inB_iff]
  constructor
  · rintro ⟨⟨a, b, c, d⟩, e⟩; exact ⟨a, b, c, d, e⟩
  · rintro ⟨a, b, c, d, e⟩; exact ⟨⟨a, b, c, d⟩, e⟩
theorem at_in_b {m : Pm Bool} {x y : Int} (h : m.at_ x y = true) : 0 ≤ x ∧ x < m.W ∧ 0 ≤ y ∧ y < m.H := by
  unfold Pm.at_ atB at h
  simp only [Bool.and_eq_true] at h
  exact inB_iff.1 h.1.2
/-- the pixel of a function's table -/
theorem rows_z {W w y x : Int} {op : (Nat → Bool) → Nat → Bool} {f : Nat → Bool} (hy : 0 ≤ y) (hx : 0 ≤ x) (hw : x < w) : rowsF W w op f (y * w + x).toNat = op (fun i => f ((y * W).toNat + i)) x.toNat := by
  have h0 : 0 ≤ y * w := Int.mul_nonneg hy (by omega)
  have hq : (((y * w + x).toNat : Nat) : Int) = y * w + ((x.toNat : Nat) : Int) := by omega
  rw [← rows_at (op := op) (f := f) (W := W) hq (by omega)]
theorem cols_z {W y x : Int} {op : (Nat → Bool) → Nat → Bool} {f : Nat → Bool} (hy : 0 ≤ y) (hx : 0 ≤ x) (hw : x < W) : colsF W op f (y * W + x).toNat = op (fun i => f ((i : Int) * W + x).toNat) y.toNat := by
  have h0 : 0 ≤ y * W := Int.mul_nonneg hy (by omega)
  have hq : (((y * W + x).toNat : Nat) : Int) = ((y.toNat : Nat) : Int) * W + x := by rw [Int.toNat_of_nonneg hy]; omega
  rw [← cols_at (op := op) (f := f) hq hx hw]
theorem off_eq {y W : Int} {i : Nat} (hy : 0 ≤ y) (hW : 0 ≤ W) : (y * W).toNat + i = (y * W + i).toNat := by
  have h0 : 0 ≤ y * W := Int.mul_nonneg hy hW
  omega
theorem erode_iff {m : Pm Bool} (hv : m.vld = true) {rx ry x y : Int} (r1 : 0 ≤ rx) (r2 : 0 ≤ ry) (h1 : 0 ≤ x) (h2 : x < m.W) (h3 : 0 ≤ y) (h4 : y < m.H) :
    erodeF m rx ry (y * m.W + x).toNat = true ↔ ∀ x' y' : Int, x - rx ≤ x' → x' ≤ x + rx → y - ry ≤ y' → y' ≤ y + ry → m.at_ x' y' = true := by
  obtain ⟨w1, w2, w3⟩ := n_m hv
  unfold erodeF
  rw [cols_z h3 h1 h2, erL_iff r2]
  constructor
  · rintro ⟨a, b, c⟩ x' y' e1 e2 e3 e4
    have h := c y'.toNat (by omega) (by omega)
    rw [Int.toNat_of_nonneg (by omega), rows_z (by omega) h1 h2, erL_iff r1] at h
    obtain ⟨a', b', c'⟩ := h
    have h := c' x'.toNat (by omega) (by omega)
    rw [off_eq (by omega) (by omega), Int.toNat_of_nonneg (by omega)] at h
    exact (at_iff hv).2 ⟨by omega, by omega, by omega, by omega, h⟩
  · intro h
    have p := at_in_b (h (x - rx) (y - ry) (by omega) (by omega) (by omega) (by omega))
    have q := at_in_b (h (x + rx) (y + ry) (by omega) (by omega) (by omega) (by omega))
    refine ⟨by omega, by omega, fun k a b => ?_⟩
    rw [rows_z (by omega) h1 h2, erL_iff r1]
    refine ⟨by omega, by omega, fun i c d => ?_⟩
    have := (at_iff hv).1 (h i k (by omega) (by omega) (by omega) (by omega))
    rw [off_eq (by omega) (by omega)]
    exact this.2.2.2.2
theorem dilate_iff {m : Pm Bool} (hv : m.vld = true) {rx ry x y : Int} (r1 : 0 ≤ rx) (r2 : 0 ≤ ry) (h1 : 0 ≤ x) (h2 : x < m.W) (h3 : 0 ≤ y) (h4 : y < m.H) :
    dilateF m rx ry (y * m.W + x).toNat = true ↔ ∃ x' y' : Int, x - rx ≤ x' ∧ x' ≤ x + rx ∧ y - ry ≤ y' ∧ y' ≤ y + ry ∧ m.at_ x' y' = true := by
  obtain ⟨w1, w2, w3⟩ := n_m hv
  unfold dilateF
  rw [cols_z h3 h1 h2, diL_iff r2]
  constructor
  · rintro ⟨k, a, b, c, d⟩
    rw [rows_z (by omega) h1 h2, diL_iff r1] at b
    obtain ⟨i, a', b', c', d'⟩ := b
    rw [off_eq (by omega) (by omega)] at b'
    exact ⟨i, k, by omega, by omega, by omega, by omega, (at_iff hv).2 ⟨by omega, by omega, by omega, by omega, b'⟩⟩
  · rintro ⟨x', y', a, b, c, d, e⟩
    obtain ⟨p1, p2, p3, p4, p5⟩ := (at_iff hv).1 e
    refine ⟨y'.toNat, by omega, ?_, by omega, by omega⟩
    rw [Int.toNat_of_nonneg p3, rows_z p3 h1 h2, diL_iff r1]
    refine ⟨x'.toNat, by omega, ?_, by omega, by omega⟩
    rw [off_eq p3 (by omega), Int.toNat_of_nonneg p1]
    exact p5
theorem close_iff {m : Pm Bool} (hv : m.vld = true) {rx ry x y : Int} (r1 : 0 ≤ rx) (r2 : 0 ≤ ry) (h1 : 0 ≤ x) (h2 : x < m.W) (h3 : 0 ≤ y) (h4 : y < m.H) :
    closeF m rx ry (y * m.W + x).toNat = true ↔ ∀ x' y' : Int, x - rx ≤ x' → x' ≤ x + rx → y - ry ≤ y' → y' ≤ y + ry → ∃ u v : Int, x' - rx ≤ u ∧ u ≤ x' + rx ∧ y' - ry ≤ v ∧ v ≤ y' + ry ∧ m.at_ u v = true := by
  obtain ⟨w1, w2, w3⟩ := n_m hv
  unfold closeF
  rw [rows_z h3 h1 h2, shG_iff r1]
  have key : ∀ k : Nat, (k : Int) < m.W + 2 * rx → (colsF (m.W + 2 * rx) (clL m.H.toNat ry) (rowsF m.W (m.W + 2 * rx) (spG m.W.toNat rx) m.f) ((y * (m.W + 2 * rx)).toNat + k) = true ↔ ∀ j : Nat, y.toNat ≤ j → (j : Int) ≤ y.toNat + 2 * ry → ∃ u v : Nat, u < m.W.toNat ∧ v < m.H.toNat ∧ u ≤ k ∧ (k : Int) ≤ u + 2 * rx ∧ v ≤ j ∧ (j : Int) ≤ v + 2 * ry ∧ m.f ((v : Int) * m.W + u).toNat = true) := by
    intro k hk
    rw [off_eq h3 (by omega), cols_z h3 (by omega) hk]
    unfold clL
    rw [shG_iff r2]
    refine forall_congr' fun j => forall_congr' fun ha => forall_congr' fun hb => ?_
    rw [spG_iff]
    constructor
    · rintro ⟨v, a, b, c, d⟩
      rw [rows_z (by omega) (by omega) hk, spG_iff] at b
      obtain ⟨u, a', b', c', d'⟩ := b
      rw [off_eq (by omega) (by omega)] at b'
      exact ⟨u, v, a', a, by omega, by omega, c, d, b'⟩
    · rintro ⟨u, v, a, b, c, d, e, e', g⟩
      refine ⟨v, b, ?_, e, e'⟩
      rw [rows_z (by omega) (by omega) hk, spG_iff]
      refine ⟨u, a, ?_, by omega, by omega⟩
      rw [off_eq (by omega) (by omega)]
      exact g
  constructor
  · intro h x' y' a b c d
    obtain ⟨u, v, e1, e2, e3, e4, e5, e6, e7⟩ := (key (x' + rx).toNat (by omega)).1 (h _ (by omega) (by omega)) (y' + ry).toNat (by omega) (by omega)
    exact ⟨u, v, by omega, by omega, by omega, by omega, (at_iff hv).2 ⟨by omega, by omega, by omega, by omega, e7⟩⟩
  · intro h k a b
    rw [key k (by omega)]
    intro j c d
    obtain ⟨u, v, e1, e2, e3, e4, e5⟩ := h (k - rx) (j - ry) (by omega) (by omega) (by omega) (by omega)
    obtain ⟨p1, p2, p3, p4, p5⟩ := (at_iff hv).1 e5
    refine ⟨u.toNat, v.toNat, by omega, by omega, by omega, by omega, by omega, by omega, ?_⟩
    rw [Int.toNat_of_nonneg p1, Int.toNat_of_nonneg p3]
    exact p5

/-! ### counts -/
theorem cnt_pos {f : Nat → Bool} {W H x y rx ry : Int} (hW : 1 ≤ W) (hH : 1 ≤ H) : cntAt f W H x y rx ry ≠ 0 ↔ ∃ u v : Int, x - rx ≤ u ∧ u ≤ x + rx ∧ y - ry ≤ v ∧ v ≤ y + ry ∧ 0 ≤ u ∧ u < W ∧ 0 ≤ v ∧ v < H ∧ f (v * W + u).toNat = true := by
  unfold cntAt
  have h0 := box_nonneg (f := f) (W := W) (t := (max 0 (y - ry)).toNat) (b := (max (max 0 (y - ry)) (min (H - 1) (y + ry) + 1)).toNat) (l := (max 0 (x - rx)).toNat) (r := (max (max 0 (x - rx)) (min (W - 1) (x + rx) + 1)).toNat) (by omega) (by omega)
  have h1 := box_pos (f := f) (W := W) (t := (max 0 (y - ry)).toNat) (b := (max (max 0 (y - ry)) (min (H - 1) (y + ry) + 1)).toNat) (l := (max 0 (x - rx)).toNat) (r := (max (max 0 (x - rx)) (min (W - 1) (x + rx) + 1)).toNat) (by omega) (by omega)
  have h2 : boxS (bw f) W (max 0 (y - ry)).toNat (max (max 0 (y - ry)) (min (H - 1) (y + ry) + 1)).toNat (max 0 (x - rx)).toNat (max (max 0 (x - rx)) (min (W - 1) (x + rx) + 1)).toNat ≠ 0 ↔ 0 < boxS (bw f) W (max 0 (y - ry)).toNat (max (max 0 (y - ry)) (min (H - 1) (y + ry) + 1)).toNat (max 0 (x - rx)).toNat (max (max 0 (x - rx)) (min (W - 1) (x + rx) + 1)).toNat := by omega
  rw [h2, h1]
  constructor
  · rintro ⟨v, u, a, b, c, d, e⟩
    exact ⟨u, v, by omega, by omega, by omega, by omega, by omega, by omega, by omega, by omega, e⟩
  · rintro ⟨u, v, a, b, c, d, e1, e2, e3, e4, e5⟩
    refine ⟨v.toNat, u.toNat, by omega, by omega, by omega, by omega, ?_⟩
    rw [Int.toNat_of_nonneg e3, Int.toNat_of_nonneg e1]
    exact e5
theorem cnt_at {m : Pm Bool} (hv : m.vld = true) {x y rx ry : Int} : cntAt m.f m.W m.H x y rx ry ≠ 0 ↔ ∃ u v : Int, x - rx ≤ u ∧ u ≤ x + rx ∧ y - ry ≤ v ∧ v ≤ y + ry ∧ m.at_ u v = true := by
  obtain ⟨w1, w2, w3⟩ := n_m hv
  rw [cnt_pos w1 w2]
  refine exists_congr fun u => exists_congr fun v => ?_
  rw [at_iff hv]
theorem mul_lt_of {a b A B : Int} (h1 : 0 ≤ a) (h2 : a ≤ A) (h3 : 0 ≤ b) (h4 : b ≤ B) (hA : 1 ≤ A) (hB : 1 ≤ B) (h : a < A ∨ b < B) : a * b < A * B := by
  rcases h with h | h
  · have e1 : a * b ≤ a * B := Int.mul_le_mul_of_nonneg_left h4 h1
    have e2 : a * B < A * B := Int.mul_lt_mul_of_pos_right h (by omega)
    omega
  · have e1 : a * b ≤ A * b := Int.mul_le_mul_of_nonneg_right h2 h3
    have e2 : A * b < A * B := Int.mul_lt_mul_of_pos_left h (by omega)
    omega
theorem cnt_full {m : Pm Bool} (hv : m.vld = true) {x y rx ry : Int} (r1 : 0 ≤ rx) (r2 : 0 ≤ ry) (h1 : 0 ≤ x) (h2 : x < m.W) (h3 : 0 ≤ y) (h4 : y < m.H) :
    cntAt m.f m.W m.H x y rx ry = areaI rx ry ↔ ∀ x' y' : Int, x - rx ≤ x' → x' ≤ x + rx → y - ry ≤ y' → y' ≤ y + ry → m.at_ x' y' = true := by
  obtain ⟨w1, w2, w3⟩ := n_m hv
  unfold cntAt areaI
  have h0 := box_nonneg (f := m.f) (W := m.W) (t := (max 0 (y - ry)).toNat) (b := (max (max 0 (y - ry)) (min (m.H - 1) (y + ry) + 1)).toNat) (l := (max 0 (x - rx)).toNat) (r := (max (max 0 (x - rx)) (min (m.W - 1) (x + rx) + 1)).toNat) (by omega) (by omega)
  have hf := box_full (f := m.f) (W := m.W) (t := (max 0 (y - ry)).toNat) (b := (max (max 0 (y - ry)) (min (m.H - 1) (y + ry) + 1)).toNat) (l := (max 0 (x - rx)).toNat) (r := (max (max 0 (x - rx)) (min (m.W - 1) (x + rx) + 1)).toNat) (by omega) (by omega)
  by_cases hin : 0 ≤ x - rx ∧ x + rx < m.W ∧ 0 ≤ y - ry ∧ y + ry < m.H
  · have e1 : (((max (max 0 (y - ry)) (min (m.H - 1) (y + ry) + 1)).toNat : Nat) : Int) - ((max 0 (y - ry)).toNat : Nat) = 2 * ry + 1 := by omega
    have e2 : (((max (max 0 (x - rx)) (min (m.W - 1) (x + rx) + 1)).toNat : Nat) : Int) - ((max 0 (x - rx)).toNat : Nat) = 2 * rx + 1 := by omega
    rw [e1, e2, Int.mul_comm] at hf
    rw [hf]
    constructor
    · intro h x' y' a b c d
      have := h y'.toNat x'.toNat (by omega) (by omega) (by omega) (by omega)
      rw [Int.toNat_of_nonneg (by omega), Int.toNat_of_nonneg (by omega)] at this
      exact (at_iff hv).2 ⟨by omega, by omega, by omega, by omega, this⟩
    · intro h y' x' a b c d
      exact ((at_iff hv).1 (h x' y' (by omega) (by omega) (by omega) (by omega))).2.2.2.2
  · constructor
    · intro h
      have hlt := mul_lt_of (a := (((max (max 0 (y - ry)) (min (m.H - 1) (y + ry) + 1)).toNat : Nat) : Int) - ((max 0 (y - ry)).toNat : Nat)) (A := 2 * ry + 1) (b := (((max (max 0 (x - rx)) (min (m.W - 1) (x + rx) + 1)).toNat : Nat) : Int) - ((max 0 (x - rx)).toNat : Nat)) (B := 2 * rx + 1) (by omega) (by omega) (by omega) (by omega) (by omega) (by omega) (by omega)
      rw [Int.mul_comm (2 * ry + 1)] at hlt
      omega
    · intro h
      have p := at_in_b (h (x - rx) (y - ry) (by omega) (by omega) (by omega) (by omega))
      have q := at_in_b (h (x + rx) (y + ry) (by omega) (by omega) (by omega) (by omega))
      omega

/-! ### program and document agree -/
theorem bool_ext {a b : Bool} (h : a = true ↔ b = true) : a = b := by
  cases a <;> cases b <;> simp_all
/-- from pixels to the table -/
theorem tab_eqv {W H : Int} {n : Nat} {F G : Nat → Bool} (hv : vldB W H n = true) (h : ∀ x y : Int, 0 ≤ x → x < W → 0 ≤ y → y < H → F (y * W + x).toNat = G (y * W + x).toNat) : (⟨W, H, (W * H).toNat, F⟩ : Pm Bool).eqv ⟨W, H, n, G⟩ := by
  obtain ⟨v1, v2, v3, v4, v5, v6⟩ := vldB_iff.1 hv
  refine ⟨rfl, rfl, by show (W * H).toNat = n; omega, fun j hj => ?_⟩
  have hj' : j < n := by have : j < (W * H).toNat := hj; omega
  obtain ⟨a, b, c, d, e⟩ := cell_bd hv hj'
  have := h _ _ a b c d
  rw [e] at this
  exact this
theorem chk_m {m : Pm Bool} {rx ry : Int} (h : m.chk rx ry = 0) : m.vld = true ∧ 0 ≤ rx ∧ rx ≤ 4096 ∧ 0 ≤ ry ∧ ry ≤ 4096 := mchk_zero h
theorem erode_eq {m : Pm Bool} {rx ry : Int} : (erodeR m rx ry).1.eqv (rerodeR m rx ry).1 ∧ (erodeR m rx ry).2 = (rerodeR m rx ry).2 := by
  unfold erodeR rerodeR
  split
  · rename_i h
    obtain ⟨hv, r1, _, r2, _⟩ := chk_m h
    refine ⟨tab_eqv hv fun x y a b c d => bool_ext ?_, rfl⟩
    rw [erode_iff hv r1 r2 a b c d]
    unfold rErF
    have h0 : 0 ≤ y * m.W := Int.mul_nonneg c (by omega)
    obtain ⟨p, q⟩ := toNat_dm (k := y * m.W + x) (by omega) rfl a b
    rw [p, q, decide_eq_true_eq, cnt_full hv r1 r2 a b c d]
  · exact ⟨Pm.eqv.rf, rfl⟩
theorem dilate_eq {m : Pm Bool} {rx ry : Int} : (dilateR m rx ry).1.eqv (rdilateR m rx ry).1 ∧ (dilateR m rx ry).2 = (rdilateR m rx ry).2 := by
  unfold dilateR rdilateR
  split
  · rename_i h
    obtain ⟨hv, r1, r3, r2, r4⟩ := chk_m h
    refine ⟨tab_eqv hv fun x y a b c d => bool_ext ?_, rfl⟩
    rw [dilate_iff hv r1 r2 a b c d]
    unfold rDiF
    have h0 : 0 ≤ y * m.W := Int.mul_nonneg c (by omega)
    obtain ⟨p, q⟩ := toNat_dm (k := y * m.W + x) (by omega) rfl a b
    have w := vldB_iff.1 hv
    have hl := cnt_le (f := m.f) (W := m.W) (H := m.H) (x := x) (y := y) (rx := rx) (ry := ry) (by omega) (by omega) (by omega) (by omega)
    rw [p, q, decide_eq_true_eq, ← cnt_at hv]
    omega
  · exact ⟨Pm.eqv.rf, rfl⟩
theorem close_eq {m : Pm Bool} {rx ry : Int} : (closeR m rx ry).1.eqv (rcloseR m rx ry).1 ∧ (closeR m rx ry).2 = (rcloseR m rx ry).2 := by
  unfold closeR rcloseR
  split
  · rename_i h
    obtain ⟨hv, r1, r3, r2, r4⟩ := chk_m h
    refine ⟨tab_eqv hv fun x y a b c d => bool_ext ?_, rfl⟩
    rw [close_iff hv r1 r2 a b c d]
    unfold rClF
    have h0 : 0 ≤ y * m.W := Int.mul_nonneg c (by omega)
    obtain ⟨p, q⟩ := toNat_dm (k := y * m.W + x) (by omega) rfl a b
    rw [p, q, nearB_iff]
    exact forall_congr' fun x' => forall_congr' fun y' => forall_congr' fun _ => forall_congr' fun _ => forall_congr' fun _ => forall_congr' fun _ => (cnt_at hv).symm
  · exact ⟨Pm.eqv.rf, rfl⟩
theorem maj_eq {m : Pm Bool} {r : Int} : (majR m r).1.eqv (rmajR m r).1 ∧ (majR m r).2 = (rmajR m r).2 := by
  unfold majR rmajR
  split
  · rename_i h
    obtain ⟨hv, r1, r3, r2, r4⟩ := chk_m h
    refine ⟨⟨rfl, rfl, rfl, fun j hj => ?_⟩, rfl⟩
    obtain ⟨a, b, c, d, e⟩ := cell_m hv hj
    show majF m r j = rMaF m r j
    unfold majF rMaF boxAt cntAt areaI
    rw [show min m.H ((j : Int) / m.W + r + 1) = max (max 0 ((j : Int) / m.W - r)) (min (m.H - 1) ((j : Int) / m.W + r) + 1) by omega, show min m.W ((j : Int) % m.W + r + 1) = max (max 0 ((j : Int) % m.W - r)) (min (m.W - 1) ((j : Int) % m.W + r) + 1) by omega]
  · exact ⟨Pm.eqv.rf, rfl⟩
/-- equal bitmaps have equal pixels -/
theorem at_eqv {a b : Pm Bool} (h : a.eqv b) (x y : Int) : a.at_ x y = b.at_ x y := by
  obtain ⟨h1, h2, h3, h4⟩ := h
  unfold Pm.at_ atB
  rw [← h1, ← h2, ← h3]
  cases hv : vldB a.W a.H a.n with
  | false => simp
  | true =>
    cases hi : inB a.W a.H x y with
    | false => simp
    | true =>
      obtain ⟨i1, i2, i3, i4⟩ := inB_iff.1 hi
      have hb := idx_bd i1 i2 i3 i4
      have v := vldB_iff.1 hv
      simp only [Bool.true_and]
      exact h4 _ (by omega)
theorem chk_eqv {a b : Pm Bool} (h : a.eqv b) (rx ry : Int) : a.chk rx ry = b.chk rx ry := by
  unfold Pm.chk
  rw [h.1, h.2.1, h.2.2.1]
theorem dilate_congr {a b : Pm Bool} (h : a.eqv b) {rx ry : Int} : (dilateR a rx ry).1.eqv (dilateR b rx ry).1 ∧ (dilateR a rx ry).2 = (dilateR b rx ry).2 := by
  unfold dilateR
  rw [← chk_eqv h]
  split
  · rename_i hc
    obtain ⟨hv, r1, r3, r2, r4⟩ := chk_m hc
    have hv2 := h.vld hv
    refine ⟨?_, rfl⟩
    have w := vldB_iff.1 hv
    have e := tab_eqv (F := dilateF a rx ry) (G := dilateF b rx ry) (W := a.W) (H := a.H) (n := (a.W * a.H).toNat) (vld_enl (by have := hv; simp only [Pm.vld, vldB, Bool.and_eq_true] at this; exact this.1)) (fun x y p q s t => bool_ext (by
      rw [dilate_iff hv r1 r2 p q s t]
      have := dilate_iff hv2 r1 r2 (x := x) (y := y) p (by rw [← h.1]; exact q) s (by rw [← h.2.1]; exact t)
      rw [← h.1] at this
      rw [this]
      refine exists_congr fun u => exists_congr fun v => ?_
      rw [at_eqv h]))
    rw [h.1, h.2.1] at e
    refine Pm.eqv.tr ?_ e
    rw [h.1, h.2.1]
    exact Pm.eqv.rf
  · exact ⟨Pm.eqv.rf, rfl⟩
theorem open_eq {m : Pm Bool} {rx ry : Int} : (openR m rx ry).1.eqv (ropenR m rx ry).1 ∧ (openR m rx ry).2 = (ropenR m rx ry).2 := by
  have he := erode_eq (m := m) (rx := rx) (ry := ry)
  unfold openR ropenR
  rw [← he.2]
  split
  · have h1 := dilate_congr he.1 (rx := rx) (ry := ry)
    have h2 := dilate_eq (m := (rerodeR m rx ry).1) (rx := rx) (ry := ry)
    exact ⟨h1.1.tr h2.1, h1.2.trans h2.2⟩
  · exact ⟨Pm.eqv.rf, rfl⟩
end Go.Bs
