/-
  Package printing as plain functions: blurring, rendering. No program is named here.
-/
import Derived.Test.YtnmiljloifbjeaaMq
namespace Go.Bs
open Go.RowKit Go.Eng

/-! ### blur -/
/-- what is missing to white -/
def sh (n : Nat) (f : Nat → Int) (i : Nat) : Int := if i < n then 255 - f i else 0
def PixOk (n : Nat) (f : Nat → Int) : Prop := ∀ i, i < n → 0 ≤ f i ∧ f i ≤ 255
theorem sh_bd {n : Nat} {f : Nat → Int} (h : PixOk n f) (i : Nat) : 0 ≤ sh n f i ∧ sh n f i ≤ 255 := by
  unfold sh
  split
  · rename_i hi; have := h i hi; omega
  · omega
theorem sh_in {n : Nat} {f : Nat → Int} {i : Nat} (h : i < n) : sh n f i = 255 - f i := if_pos h
theorem row255 {g : Nat → Int} {W : Int} {y x : Nat} (hg : ∀ i, 0 ≤ g i ∧ g i ≤ 255) (hx : (x : Int) ≤ 4097) : 0 ≤ rowS g W y x ∧ rowS g W y x ≤ 1044735 := by
  have := rowS_z (g := g) (W := W) (hi := 255) (y := y) (x := x) hg
  omega
theorem box_up {g : Nat → Int} {W t b l r A B : Int} (hg : ∀ i, 0 ≤ g i ∧ g i ≤ 255) (h0 : 0 ≤ t) (h1 : t ≤ b) (h2 : b - t ≤ A) (h3 : 0 ≤ l) (h4 : l ≤ r) (h5 : r - l ≤ B) : 0 ≤ boxS g W t.toNat b.toNat l.toNat r.toNat ∧ boxS g W t.toNat b.toNat l.toNat r.toNat ≤ 255 * (A * B) := by
  have h := boxS_bd (g := g) (W := W) (lo := 0) (hi := 255) (t := t.toNat) (b := b.toNat) (l := l.toNat) (r := r.toNat) (by omega) (by omega) (fun _ _ _ _ _ _ => hg _)
  rw [Int.mul_zero, Int.mul_zero] at h
  refine ⟨h.1, Int.le_trans h.2 ?_⟩
  have e1 : ((r.toNat : Int) - l.toNat) * 255 ≤ B * 255 := Int.mul_le_mul_of_nonneg_right (by omega) (by omega)
  have e2 : ((b.toNat : Int) - t.toNat) * (((r.toNat : Int) - l.toNat) * 255) ≤ A * (B * 255) := Int.mul_le_mul (by omega) e1 (Int.mul_nonneg (by omega) (by omega)) (by omega)
  have e3 : A * (B * 255) = 255 * (A * B) := by rw [← Int.mul_assoc, Int.mul_comm]
  rw [e3] at e2
  exact e2
def sq (r : Int) : Int := (2 * r + 1) * (2 * r + 1)
theorem sq_up {r : Int} (h0 : 0 ≤ r) (h1 : r ≤ 64) : 1 ≤ sq r ∧ sq r ≤ 16641 :=
  ⟨Int.mul_pos (by omega) (by omega), Int.le_trans (Int.mul_le_mul (show 2 * r + 1 ≤ 129 by omega) (show 2 * r + 1 ≤ 129 by omega) (by omega) (by omega)) (by omega)⟩
/-- the rounded mean, from what is missing -/
def meanI (r miss : Int) : Int := IntKind.u8.wrap ((2 * (255 * sq r - miss) + sq r) / (2 * sq r))
def blurF (m : Pm Int) (r : Int) (j : Nat) : Int := meanI r (boxAt (sh m.n m.f) m.W m.H ((j : Int) % m.W) ((j : Int) / m.W) r r)
def blurR (m : Pm Int) (r : Int) : Pm Int × Int := if m.vld = true then (if r < 0 ∨ 64 < r then (noI, 3) else (⟨m.W, m.H, m.n, blurF m r⟩, 0)) else (noI, 1)
theorem blurR_no {W H r : Int} {n : Nat} {f : Nat → Int} (h : vldB W H n = false) : blurR ⟨W, H, n, f⟩ r = (noI, 1) := if_neg (by simp [Pm.vld, h])
theorem blurR_range {W H r : Int} {n : Nat} {f : Nat → Int} (h : vldB W H n = true) (hr : r < 0 ∨ 64 < r) : blurR ⟨W, H, n, f⟩ r = (noI, 3) := by simp [blurR, Pm.vld, h, hr]
theorem blurR_ok {W H r : Int} {n : Nat} {f : Nat → Int} (h : vldB W H n = true) (hr : ¬ (r < 0 ∨ 64 < r)) : blurR ⟨W, H, n, f⟩ r = (⟨W, H, n, blurF ⟨W, H, n, f⟩ r⟩, 0) := by simp [blurR, Pm.vld, h, hr]
theorem blurR_le {m : Pm Int} {r : Int} : (blurR m r).1.n ≤ 4194304 := by
  unfold blurR
  split
  · split
    · simp [noI]
    · rename_i h _; exact (vld_pos h).2
  · simp [noI]
theorem blurR_ok' {W H r : Int} {n : Nat} {f : Nat → Int} (h : vldB W H n = true) (hr : ¬ (r < 0 ∨ 64 < r)) : blurR ⟨W, H, n, f⟩ r = (⟨W, H, (W * H).toNat, blurF ⟨W, H, n, f⟩ r⟩, 0) := by
  rw [blurR_ok h hr]
  have := vldB_iff.1 h
  rw [show (W * H).toNat = n by omega]
theorem blur_box {g : Nat → Int} {W H r x y a b c d : Int}
    (e1 : a = sumS g W (min (y + r + 1) H).toNat (min (x + r + 1) W).toNat) (e2 : b = sumS g W (max (y - r) 0).toNat (min (x + r + 1) W).toNat)
    (e3 : c = sumS g W (min (y + r + 1) H).toNat (max (x - r) 0).toNat) (e4 : d = sumS g W (max (y - r) 0).toNat (max (x - r) 0).toNat) : a - b - c + d = boxAt g W H x y r r := by
  rw [e1, e2, e3, e4]
  unfold boxAt boxS
  rw [Int.min_comm H, Int.min_comm W, Int.max_comm 0, Int.max_comm 0]
  omega
theorem blur_at {W H r v : Int} {n x y q : Nat} {f : Nat → Int} (hx : (x : Int) < W) (hq : (q : Int) = (y : Int) * W + x) (hv : v = boxAt (sh n f) W H x y r r) :
    IntKind.u8.wrap ((2 * (255 * ((2 * r + 1) * (2 * r + 1)) - v) + (2 * r + 1) * (2 * r + 1)) / (2 * ((2 * r + 1) * (2 * r + 1)))) = blurF ⟨W, H, n, f⟩ r q := by
  unfold blurF meanI sq
  simp only
  rw [(dm hq (by omega) hx).1, (dm hq (by omega) hx).2, hv]
/-- the document's box -/
def cntW (g : Nat → Int) (W H x y rx ry : Int) : Int := boxS g W (max 0 (y - ry)).toNat (max (max 0 (y - ry)) (min (H - 1) (y + ry) + 1)).toNat (max 0 (x - rx)).toNat (max (max 0 (x - rx)) (min (W - 1) (x + rx) + 1)).toNat
theorem cntW_box {g : Nat → Int} {W H x y r : Int} (h1 : 0 ≤ x) (h2 : x < W) (h3 : 0 ≤ y) (h4 : y < H) (hr : 0 ≤ r) : cntW g W H x y r r = boxAt g W H x y r r := by
  unfold cntW boxAt
  rw [show min H (y + r + 1) = max (max 0 (y - r)) (min (H - 1) (y + r) + 1) by omega, show min W (x + r + 1) = max (max 0 (x - r)) (min (W - 1) (x + r) + 1) by omega]
end Go.Bs
