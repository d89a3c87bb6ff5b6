/-
  Prints, II: the errors of a print in the document's order; means (plain laws). No program is named here.
-/
import Derived.Test.YtcdhbikginpogaaPp
namespace Go.Bs
open Go.RowKit Go.Eng

theorem printR_e0 {m : Pm Bool} {t bl d s : Int} (h : (turnR m t).2 ≠ 0) : printR m t bl d s = (noI, (turnR m t).2) := by
  obtain ⟨a, b⟩ := turnR_two h
  rw [b]
  unfold printR
  rw [if_neg (by simp [a])]
theorem blurR_err {m : Pm Int} {r : Int} (hv : m.vld = true) (h : (blurR m r).2 ≠ 0) : (r < 0 ∨ 64 < r) ∧ (blurR m r).2 = 3 := by
  unfold blurR at h ⊢
  rw [if_pos hv] at h ⊢
  by_cases hr : r < 0 ∨ 64 < r
  · rw [if_pos hr]; exact ⟨hr, rfl⟩
  · rw [if_neg hr] at h; exact absurd rfl h
theorem blurR_zero {m : Pm Int} {r : Int} (hv : m.vld = true) (h : ¬ (blurR m r).2 ≠ 0) : ¬ (r < 0 ∨ 64 < r) := fun hr => h (by
  unfold blurR
  rw [if_pos hv, if_pos hr]
  decide)
theorem gray_vld {W H t : Int} {n : Nat} {f : Nat → Bool} (h : vldB W H n = true) : (grayR (turnR ⟨W, H, n, f⟩ t).1).1.vld = true := by
  obtain ⟨e1, e2, e3, e4, e5, e6⟩ := print_steps (t := t) (bl := 0) (f := f) h
  rw [e5]
  exact e3
theorem printR_e1 {W H t bl d s : Int} {n : Nat} {f : Nat → Bool} (h : vldB W H n = true) (hb : (blurR (grayR (turnR ⟨W, H, n, f⟩ t).1).1 bl).2 ≠ 0) :
    printR ⟨W, H, n, f⟩ t bl d s = (noI, (blurR (grayR (turnR ⟨W, H, n, f⟩ t).1).1 bl).2) := by
  obtain ⟨a, b⟩ := blurR_err (gray_vld h) hb
  rw [b]
  exact printR_range h (.inl (.inl a))
theorem printR_e2 {W H t bl d s : Int} {n : Nat} {f : Nat → Bool} (h : vldB W H n = true)
    (hp : (placesR (turnR ⟨W, H, n, f⟩ t).1.W (turnR ⟨W, H, n, f⟩ t).1.H d s).2 ≠ 0) :
    printR ⟨W, H, n, f⟩ t bl d s = (noI, (placesR (turnR ⟨W, H, n, f⟩ t).1.W (turnR ⟨W, H, n, f⟩ t).1.H d s).2) := by
  obtain ⟨e1, e2, e3, e4, e5, e6⟩ := print_steps (t := t) (bl := 0) (f := f) h
  by_cases hr : d < 0 ∨ min (W * H) 65536 < d
  · rw [placesR_range (vld_fits e3) (by rw [e4]; exact hr)]
    exact printR_range h (by rcases hr with a | a; exact .inl (.inr a); exact .inr a)
  · exact absurd (by rw [placesR_ok (vld_fits e3) (by rw [e4]; exact hr)]) hp
/-- what a print is when no step fails -/
theorem printR_k {W H t bl d s : Int} {n : Nat} {f : Nat → Bool} (h : vldB W H n = true)
    (hb : ¬ (blurR (grayR (turnR ⟨W, H, n, f⟩ t).1).1 bl).2 ≠ 0) (hp : ¬ (placesR (turnR ⟨W, H, n, f⟩ t).1.W (turnR ⟨W, H, n, f⟩ t).1.H d s).2 ≠ 0) :
    (blurR (grayR (turnR ⟨W, H, n, f⟩ t).1).1 bl).1.n = n ∧ PixOk n (blurR (grayR (turnR ⟨W, H, n, f⟩ t).1).1 bl).1.f ∧
    (placesR (turnR ⟨W, H, n, f⟩ t).1.W (turnR ⟨W, H, n, f⟩ t).1.H d s).1.1 = d.toNat ∧
    (∀ k, (placesR (turnR ⟨W, H, n, f⟩ t).1.W (turnR ⟨W, H, n, f⟩ t).1.H d s).1.2 k = ((plF n s k : Nat) : Int)) ∧ (d.toNat ≤ n) ∧
    printR ⟨W, H, n, f⟩ t bl d s = (⟨(blurR (grayR (turnR ⟨W, H, n, f⟩ t).1).1 bl).1.W, (blurR (grayR (turnR ⟨W, H, n, f⟩ t).1).1 bl).1.H, (blurR (grayR (turnR ⟨W, H, n, f⟩ t).1).1 bl).1.n, invF (plF n s) (blurR (grayR (turnR ⟨W, H, n, f⟩ t).1).1 bl).1.f d.toNat⟩, 0) := by
  obtain ⟨e1, e2, e3, e4, e5, e6⟩ := print_steps (t := t) (bl := bl) (f := f) h
  have hr := blurR_zero (gray_vld h) hb
  have e7 := e6 hr
  obtain ⟨p1, p2⟩ := places_zero (Decidable.not_not.1 hp)
  have p3 := placesR_ok (s := s) p1 p2
  have hn := (vldB_iff.1 e3).2.2.2.2.2
  have hN : ((turnR ⟨W, H, n, f⟩ t).1.W * (turnR ⟨W, H, n, f⟩ t).1.H).toNat = n := by omega
  rw [e4] at p2
  have hR : ¬ (((bl < 0 ∨ 64 < bl) ∨ d < 0) ∨ min (W * H) 65536 < d) := by omega
  refine ⟨by rw [e7], by rw [e7]; exact blur_pix, by rw [p3], fun k => by rw [p3, hN], by omega, ?_⟩
  rw [printR_ok h hR, soilR_ok, e7]
  rw [e7]
  simp only []
  rw [p3]
/-! ### means -/
/-- a mean lies between the bounds of its box -/
theorem mean_in {n : Nat} {f : Nat → Int} {W H r x y lo hi : Int} (hv : vldB W H n = true) (hr : 0 ≤ r) (hx0 : 0 ≤ x) (hx : x < W) (hy0 : 0 ≤ y) (hy : y < H)
    (h0 : 0 ≤ lo) (h1 : lo ≤ 255) (h2 : 0 ≤ hi) (h3 : hi ≤ 255) (hin : (x < r ∨ y < r ∨ W ≤ x + r ∨ H ≤ y + r) → hi = 255)
    (hc : ∀ d c : Int, max 0 (y - r) ≤ d → d ≤ min (H - 1) (y + r) → max 0 (x - r) ≤ c → c ≤ min (W - 1) (x + r) → lo ≤ f (d * W + c).toNat ∧ f (d * W + c).toNat ≤ hi) :
    lo ≤ meanI r (boxAt (sh n f) W H x y r r) ∧ meanI r (boxAt (sh n f) W H x y r r) ≤ hi := by
  obtain ⟨v1, v2, v3, v4, v5, v6⟩ := vldB_iff.1 hv
  have hb := boxS_bd (g := sh n f) (W := W) (lo := 255 - hi) (hi := 255 - lo) (t := (max 0 (y - r)).toNat) (b := (min H (y + r + 1)).toNat) (l := (max 0 (x - r)).toNat) (r := (min W (x + r + 1)).toNat) (by omega) (by omega)
    (fun d c a1 a2 a3 a4 => by
      have k1 := hc d c (by omega) (by omega) (by omega) (by omega)
      have k2 := idx_bd (W := W) (H := H) (x := c) (y := d) (by omega) (by omega) (by omega) (by omega)
      rw [sh_in (by omega)]
      omega)
  have hS : boxS (sh n f) W (max 0 (y - r)).toNat (min H (y + r + 1)).toNat (max 0 (x - r)).toNat (min W (x + r + 1)).toNat = boxAt (sh n f) W H x y r r := rfl
  rw [hS] at hb
  generalize boxAt (sh n f) W H x y r r = S at hb
  obtain ⟨b1, b2⟩ := hb
  have hq : 1 ≤ sq r := Int.mul_pos (by omega) (by omega)
  -- the bounds with the full box
  have c2 : S ≤ sq r * (255 - lo) := by
    refine Int.le_trans b2 ?_
    have e1 : (((min W (x + r + 1)).toNat : Int) - (max 0 (x - r)).toNat) * (255 - lo) ≤ (2 * r + 1) * (255 - lo) := Int.mul_le_mul_of_nonneg_right (by omega) (by omega)
    have e2 := Int.mul_le_mul (show ((min H (y + r + 1)).toNat : Int) - (max 0 (y - r)).toNat ≤ 2 * r + 1 by omega) e1 (Int.mul_nonneg (by omega) (by omega)) (by omega)
    unfold sq
    rw [Int.mul_assoc]
    exact e2
  have c1 : sq r * (255 - hi) ≤ S := by
    by_cases hi9 : hi = 255
    · rw [hi9] at b1 ⊢
      simpa using b1
    · have hni : ¬ (x < r ∨ y < r ∨ W ≤ x + r ∨ H ≤ y + r) := fun h => hi9 (hin h)
      have e1 : ((min H (y + r + 1)).toNat : Int) - (max 0 (y - r)).toNat = 2 * r + 1 := by omega
      have e2 : ((min W (x + r + 1)).toNat : Int) - (max 0 (x - r)).toNat = 2 * r + 1 := by omega
      rw [e1, e2] at b1
      unfold sq
      rw [Int.mul_assoc]
      exact b1
  rw [Int.mul_sub] at c1 c2
  have d1 : lo ≤ (2 * (255 * sq r - S) + sq r) / (2 * sq r) := (Int.le_ediv_iff_mul_le (by omega)).2 (by
    rw [show lo * (2 * sq r) = 2 * (sq r * lo) by rw [Int.mul_left_comm, Int.mul_comm lo]]
    omega)
  have d2 : (2 * (255 * sq r - S) + sq r) / (2 * sq r) < hi + 1 := (Int.ediv_lt_iff_lt_mul (by omega)).2 (by
    rw [show (hi + 1) * (2 * sq r) = 2 * (sq r * hi) + 2 * sq r by rw [Int.add_mul, Int.mul_left_comm, Int.mul_comm hi, Int.one_mul]]
    omega)
  have d3 : meanI r S = (2 * (255 * sq r - S) + sq r) / (2 * sq r) := by
    unfold meanI
    generalize (2 * (255 * sq r - S) + sq r) / (2 * sq r) = z at d1 d2
    have e : IntKind.u8.wrap z = z % 256 := rfl
    rw [e]
    omega
  rw [d3]
  omega
/-- the radius 0 changes nothing -/
theorem blur_none {W H : Int} {n : Nat} {f : Nat → Int} (hv : vldB W H n = true) (hp : PixOk n f) : eqP (blurR ⟨W, H, n, f⟩ 0).1 ⟨W, H, n, f⟩ = true := by
  rw [blurR_ok hv (by omega)]
  refine eqP_of ⟨rfl, rfl, rfl, fun j hj => ?_⟩
  have hj' : j < n := hj
  obtain ⟨a, b, c, d, e⟩ := cell_bd hv hj'
  have hq := hp j hj'
  have h := mean_in (f := f) (r := 0) (lo := f j) (hi := f j) hv (by omega) a b c d hq.1 hq.2 hq.1 hq.2 (fun h => by omega) (fun p q k1 k2 k3 k4 => by
    rw [show p = (j : Int) / W by omega, show q = (j : Int) % W by omega, e]
    exact ⟨Int.le_refl _, Int.le_refl _⟩)
  show blurF ⟨W, H, n, f⟩ 0 j = f j
  unfold blurF
  simp only
  omega
/-- a print without blur and dirt -/
theorem print_none {W H t : Int} {n : Nat} {f : Nat → Bool} (hv : vldB W H n = true) : eqP (printR ⟨W, H, n, f⟩ t 0 0 0).1 (grayR (turnR ⟨W, H, n, f⟩ t).1).1 = true ∧ (printR ⟨W, H, n, f⟩ t 0 0 0).2 = 0 := by
  obtain ⟨v1, v2, v3, v4, v5, v6⟩ := vldB_iff.1 hv
  have v7 := vld_pos hv
  obtain ⟨e1, e2, e3, e4, e5, e6⟩ := print_steps (t := t) (bl := 0) (f := f) hv
  have hb := blur_none (f := grayF (turnR ⟨W, H, n, f⟩ t).1.f) e3 gray_pix
  have hz : (placesR (turnR ⟨W, H, n, f⟩ t).1.W (turnR ⟨W, H, n, f⟩ t).1.H 0 0).2 = 0 := by rw [placesR_ok (vld_fits e3) (by rw [e4]; omega)]
  obtain ⟨k1, k2, k3, k4, k5, k6⟩ := printR_k (s := 0) (d := 0) (bl := 0) (t := t) (f := f) hv (by rw [e6 (by omega)]; simp) (by rw [hz]; simp)
  rw [k6]
  refine ⟨?_, rfl⟩
  show eqP (blurR (grayR (turnR ⟨W, H, n, f⟩ t).1).1 0).1 (grayR (turnR ⟨W, H, n, f⟩ t).1).1 = true
  rw [e5]
  exact hb
/-- the bounds that the rows above d give -/
def mI (f : Nat → Int) (W H X Y r lo hi d : Int) : Prop := (0 ≤ lo ∧ lo ≤ 255 ∧ 0 ≤ hi ∧ hi ≤ 255) ∧ ((X < r ∨ Y < r ∨ W ≤ X + r ∨ H ≤ Y + r) → hi = 255) ∧
  ∀ p q : Int, max 0 (Y - r) ≤ p → p < d → max 0 (X - r) ≤ q → q ≤ min (W - 1) (X + r) → lo ≤ f (p * W + q).toNat ∧ f (p * W + q).toNat ≤ hi
def mJ (f : Nat → Int) (W H X Y r lo hi d c : Int) : Prop := mI f W H X Y r lo hi d ∧ ∀ q : Int, max 0 (X - r) ≤ q → q < c → lo ≤ f (d * W + q).toNat ∧ f (d * W + q).toNat ≤ hi
theorem mI_new {f : Nat → Int} {W H X Y r hi : Int} (h : ((X < r ∨ Y < r) ∨ W ≤ X + r) ∨ H ≤ Y + r → hi = 255) (h0 : 0 ≤ hi) (h1 : hi ≤ 255) : mI f W H X Y r 255 hi (max 0 (Y - r)) :=
  ⟨⟨by omega, by omega, h0, h1⟩, fun k => h (by omega), fun p q a b => by omega⟩
theorem mJ_new {f : Nat → Int} {W H X Y r lo hi d : Int} (h : mI f W H X Y r lo hi d) : mJ f W H X Y r lo hi d (max 0 (X - r)) := ⟨h, fun q a b => by omega⟩
theorem mJ_step {f : Nat → Int} {W H X Y r lo hi d c v : Int} (h : mJ f W H X Y r lo hi d c) (hv : f (d * W + c).toNat = v) (h0 : 0 ≤ v) (h1 : v ≤ 255) : mJ f W H X Y r (min lo v) (max hi v) d (c + 1) := by
  obtain ⟨⟨⟨a1, a2, a3, a4⟩, b, cc⟩, e⟩ := h
  refine ⟨⟨⟨by omega, by omega, by omega, by omega⟩, fun k => by have := b k; omega, fun p q k1 k2 k3 k4 => by have := cc p q k1 k2 k3 k4; omega⟩, fun q k1 k2 => ?_⟩
  by_cases hq : q = c
  · subst hq; rw [hv]; omega
  · have := e q k1 (by omega); omega
theorem mI_step {f : Nat → Int} {W H X Y r lo hi d c : Int} (h : mJ f W H X Y r lo hi d c) (hc : min (W - 1) (X + r) < c) : mI f W H X Y r lo hi (d + 1) := by
  obtain ⟨⟨a, b, cc⟩, e⟩ := h
  refine ⟨a, b, fun p q k1 k2 k3 k4 => ?_⟩
  by_cases hp : p = d
  · subst hp; exact e q k3 (by omega)
  · exact cc p q k1 (by omega) k3 k4
theorem mI_mean {f : Nat → Int} {W H X Y r lo hi d : Int} {n : Nat} (h : mI f W H X Y r lo hi d) (hv : vldB W H n = true) (hr : 0 ≤ r) (hx0 : 0 ≤ X) (hx : X < W) (hy0 : 0 ≤ Y) (hy : Y < H) (hd : min (H - 1) (Y + r) < d) :
    lo ≤ meanI r (boxAt (sh n f) W H X Y r r) ∧ meanI r (boxAt (sh n f) W H X Y r r) ≤ hi := by
  obtain ⟨⟨a1, a2, a3, a4⟩, b, cc⟩ := h
  exact mean_in hv hr hx0 hx hy0 hy a1 a2 a3 a4 b (fun p q k1 k2 k3 k4 => cc p q k1 (by omega) k3 k4)
end Go.Bs
