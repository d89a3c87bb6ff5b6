/-
  Plain laws of package raster: the group of the square, parts pasted and cropped back, bitmaps enlarged twice. No program is named here.
-/
import Derived.Test.YtnmiljloifbjeaaPc
namespace Go.Bs
open Go.RowKit Go.Eng

def Pm.eqv {α : Type} (a b : Pm α) : Prop := a.W = b.W ∧ a.H = b.H ∧ a.n = b.n ∧ ∀ j, j < a.n → a.f j = b.f j
theorem Pm.eqv.rf {α : Type} {a : Pm α} : a.eqv a := ⟨rfl, rfl, rfl, fun _ _ => rfl⟩
theorem Pm.eqv.sm {α : Type} {a b : Pm α} (h : a.eqv b) : b.eqv a := ⟨h.1.symm, h.2.1.symm, h.2.2.1.symm, fun j hj => (h.2.2.2 j (by rw [h.2.2.1]; exact hj)).symm⟩
theorem Pm.eqv.tr {α : Type} {a b c : Pm α} (h : a.eqv b) (k : b.eqv c) : a.eqv c := ⟨h.1.trans k.1, h.2.1.trans k.2.1, h.2.2.1.trans k.2.2.1, fun j hj => (h.2.2.2 j hj).trans (k.2.2.2 j (by rw [← h.2.2.1]; exact hj))⟩
theorem eqP_of {α : Type} [DecidableEq α] {a b : Pm α} (h : a.eqv b) : eqP a b = true := eqP_yes h.1 h.2.1 h.2.2.1 h.2.2.2
theorem Pm.eqv.vld {α : Type} {a b : Pm α} (h : a.eqv b) (hv : a.vld = true) : b.vld = true := by
  unfold Pm.vld at *
  rw [← h.1, ← h.2.1, ← h.2.2.1]; exact hv

def Tm {α : Type} (m : Pm α) : Pm α := ⟨m.H, m.W, m.n, turnF m.W m.H m.f⟩
def Mm {α : Type} (m : Pm α) : Pm α := ⟨m.W, m.H, m.n, mirrorF m.W m.f⟩
def Tk {α : Type} : Nat → Pm α → Pm α
  | 0, m => m
  | k + 1, m => Tm (Tk k m)
theorem tk_eq {α : Type} (W H : Int) (n : Nat) (f : Nat → α) : ∀ k, (⟨tW k W H, tW k H W, n, tF k W H f⟩ : Pm α) = Tk k ⟨W, H, n, f⟩
  | 0 => rfl
  | k + 1 => by
    show _ = Tm (Tk k _)
    rw [← tk_eq W H n f k]
    rfl
theorem turnR_tk {m : Pm Bool} {t : Int} (h : m.vld = true) : turnR m t = (Tk (t % 4).toNat m, 0) := by
  unfold turnR
  rw [if_pos h, tk_eq]
theorem mirrorR_mm {m : Pm Bool} (h : m.vld = true) : mirrorR m = (Mm m, 0) := if_pos h
theorem vld_tm {α : Type} {m : Pm α} (h : m.vld = true) : (Tm m).vld = true := vld_swap h
theorem vld_tk {α : Type} {m : Pm α} (h : m.vld = true) : ∀ k, (Tk k m).vld = true
  | 0 => h
  | k + 1 => vld_tm (vld_tk h k)
theorem vld_mm {α : Type} {m : Pm α} (h : m.vld = true) : (Mm m).vld = true := h
theorem tk_succ {α : Type} {m : Pm α} : ∀ k, Tk (k + 1) m = Tk k (Tm m)
  | 0 => rfl
  | k + 1 => by show Tm (Tk (k + 1) m) = Tm (Tk k (Tm m)); rw [tk_succ k]
theorem tk_add {α : Type} {m : Pm α} (i : Nat) : ∀ j, Tk (i + j) m = Tk i (Tk j m) := by
  induction i with
  | zero => intro j; rw [Nat.zero_add]; rfl
  | succ i ih => intro j; rw [show i + 1 + j = (i + j) + 1 by omega]; show Tm (Tk (i + j) m) = Tm (Tk i (Tk j m)); rw [ih]
/-- a cell of a valid bitmap -/
theorem cell_m {α : Type} {m : Pm α} {j : Nat} (hv : m.vld = true) (hj : j < m.n) : 0 ≤ (j : Int) % m.W ∧ (j : Int) % m.W < m.W ∧ 0 ≤ (j : Int) / m.W ∧ (j : Int) / m.W < m.H ∧ (j : Int) / m.W * m.W + (j : Int) % m.W = j := cell_bd hv hj
theorem n_m {α : Type} {m : Pm α} (hv : m.vld = true) : 1 ≤ m.W ∧ 1 ≤ m.H ∧ (m.n : Int) = m.W * m.H := by
  have := vldB_iff.1 hv
  omega
/-- the index from which a turn takes its pixel -/
theorem turn_src {W H : Int} {n j : Nat} (hv : vldB W H n = true) (hj : j < n) : ((H - 1 - (j : Int) % H) * W + (j : Int) / H).toNat < n ∧ 0 ≤ (H - 1 - (j : Int) % H) * W + (j : Int) / H := by
  obtain ⟨v1, v2, v3, v4, v5, v6⟩ := vldB_iff.1 hv
  obtain ⟨a, b, c, d, e⟩ := cell_bd (vld_swap hv) hj
  have := idx_bd (W := W) (H := H) (x := (j : Int) / H) (y := H - 1 - (j : Int) % H) c d (by omega) (by omega)
  omega
theorem mirror_src {W H : Int} {n j : Nat} (hv : vldB W H n = true) (hj : j < n) : ((j : Int) / W * W + (W - 1 - (j : Int) % W)).toNat < n ∧ 0 ≤ (j : Int) / W * W + (W - 1 - (j : Int) % W) := by
  obtain ⟨v1, v2, v3, v4, v5, v6⟩ := vldB_iff.1 hv
  obtain ⟨a, b, c, d, e⟩ := cell_bd hv hj
  have := idx_bd (W := W) (H := H) (x := W - 1 - (j : Int) % W) (y := (j : Int) / W) (by omega) (by omega) c d
  omega
theorem tm_congr {α : Type} {a b : Pm α} (hv : a.vld = true) (h : a.eqv b) : (Tm a).eqv (Tm b) := by
  obtain ⟨h1, h2, h3, h4⟩ := h
  refine ⟨h2, h1, h3, fun j hj => ?_⟩
  show turnF a.W a.H a.f j = turnF b.W b.H b.f j
  unfold turnF
  rw [← h1, ← h2]
  exact h4 _ (turn_src hv hj).1
theorem tk_congr {α : Type} {a b : Pm α} (hv : a.vld = true) (h : a.eqv b) : ∀ k, (Tk k a).eqv (Tk k b)
  | 0 => h
  | k + 1 => tm_congr (vld_tk hv k) (tk_congr hv h k)
theorem mm_congr {α : Type} {a b : Pm α} (hv : a.vld = true) (h : a.eqv b) : (Mm a).eqv (Mm b) := by
  obtain ⟨h1, h2, h3, h4⟩ := h
  refine ⟨h1, h2, h3, fun j hj => ?_⟩
  show mirrorF a.W a.f j = mirrorF b.W b.f j
  unfold mirrorF
  rw [← h1]
  exact h4 _ (mirror_src hv hj).1
theorem toNat_dm {k : Int} {y x B : Int} (h0 : 0 ≤ k) (h : k = y * B + x) (hx0 : 0 ≤ x) (hx1 : x < B) : ((k.toNat : Nat) : Int) / B = y ∧ ((k.toNat : Nat) : Int) % B = x := by
  rw [Int.toNat_of_nonneg h0]
  exact dm h hx0 hx1
theorem t2 {α : Type} {m : Pm α} (hv : m.vld = true) {j : Nat} (hj : j < m.n) : (Tk 2 m).f j = m.f (m.n - 1 - j) := by
  obtain ⟨w1, w2, w3⟩ := n_m hv
  obtain ⟨a, b, c, d, e⟩ := cell_m hv hj
  show turnF m.H m.W (turnF m.W m.H m.f) j = _
  unfold turnF
  have s := (turn_src (vld_swap (W := m.W) (H := m.H) hv) hj).2
  obtain ⟨p, q⟩ := toNat_dm s rfl c d
  rw [p, q]
  congr 1
  have : (m.H - 1 - (j : Int) / m.W) * m.W = m.W * m.H - m.W - (j : Int) / m.W * m.W := by
    rw [Int.sub_mul, Int.sub_mul, Int.one_mul, Int.mul_comm m.H]
  rw [this]
  omega
theorem t4 {α : Type} {m : Pm α} (hv : m.vld = true) : (Tk 4 m).eqv m := by
  refine ⟨rfl, rfl, rfl, fun j hj => ?_⟩
  have hj' : j < m.n := hj
  have h1 : (Tk 4 m).f j = (Tk 2 (Tk 2 m)).f j := rfl
  rw [h1, t2 (vld_tk hv 2) hj]
  have h2 : (Tk 2 m).n = m.n := rfl
  rw [h2, t2 hv (by omega)]
  congr 1; omega
theorem m2 {α : Type} {m : Pm α} (hv : m.vld = true) : (Mm (Mm m)).eqv m := by
  refine ⟨rfl, rfl, rfl, fun j hj => ?_⟩
  have hj' : j < m.n := hj
  obtain ⟨a, b, c, d, e⟩ := cell_m hv hj'
  show mirrorF m.W (mirrorF m.W m.f) j = m.f j
  unfold mirrorF
  have s := (mirror_src hv hj').2
  obtain ⟨p, q⟩ := toNat_dm s rfl (by omega) (by omega)
  rw [p, q]
  congr 1; omega
theorem tmt {α : Type} {m : Pm α} (hv : m.vld = true) : (Tm (Mm (Tm m))).eqv (Mm m) := by
  refine ⟨rfl, rfl, rfl, fun j hj => ?_⟩
  have hj' : j < m.n := hj
  obtain ⟨a, b, c, d, e⟩ := cell_m hv hj'
  obtain ⟨w1, w2, w3⟩ := n_m hv
  show mirrorF m.H (turnF m.W m.H m.f) ((m.W - 1 - (j : Int) % m.W) * m.H + (j : Int) / m.W).toNat = mirrorF m.W m.f j
  unfold mirrorF
  have s := turn_src (vld_swap (W := m.W) (H := m.H) hv) hj'
  obtain ⟨p, q⟩ := toNat_dm s.2 rfl c d
  rw [p, q]
  have s2 := (mirror_src (W := m.H) (H := m.W) (vld_swap hv) s.1).2
  rw [p, q] at s2
  obtain ⟨p2, q2⟩ := toNat_dm s2 rfl (by omega) (by omega)
  unfold turnF
  rw [p2, q2]
  congr 2
  rw [show m.H - 1 - (m.H - 1 - (j : Int) / m.W) = (j : Int) / m.W by omega]
theorem tkmtk {α : Type} : ∀ (k : Nat) {m : Pm α}, m.vld = true → (Tk k (Mm (Tk k m))).eqv (Mm m)
  | 0, _, _ => Pm.eqv.rf
  | k + 1, m, hv => by
    have h1 := tkmtk k (vld_tm hv)
    have h2 : (Tk (k + 1) (Mm (Tk (k + 1) m))) = Tm (Tk k (Mm (Tk k (Tm m)))) := by rw [tk_succ k (m := m)]; rfl
    rw [h2]
    exact (tm_congr (vld_tk (vld_mm (vld_tk (vld_tm hv) k)) k) h1).tr (tmt hv)
/-- turns by numbers with the same remainder -/
theorem tk_mod {α : Type} {m : Pm α} (hv : m.vld = true) {i : Nat} (hi : i < 8) : (Tk i m).eqv (Tk (i % 4) m) := by
  by_cases h : i < 4
  · rw [Nat.mod_eq_of_lt h]; exact Pm.eqv.rf
  · have e : i = i % 4 + 4 := by omega
    rw [e, tk_add, show (i % 4 + 4) % 4 = i % 4 by omega]
    exact tk_congr (vld_tk hv 4) (t4 hv) _
theorem turn_add {m : Pm Bool} (hv : m.vld = true) (a b : Int) : (turnR (turnR m a).1 b).1.eqv (turnR m (a + b)).1 := by
  rw [turnR_tk hv, turnR_tk (vld_tk hv _), turnR_tk hv]
  show (Tk _ (Tk _ m)).eqv (Tk _ m)
  rw [← tk_add]
  have h := tk_mod hv (i := (b % 4).toNat + (a % 4).toNat) (by omega)
  rw [show ((b % 4).toNat + (a % 4).toNat) % 4 = ((a + b) % 4).toNat by omega] at h
  exact h
theorem turn_err {m : Pm Bool} (hv : m.vld = true) (a : Int) : (turnR m a).2 = 0 ∧ (turnR m a).1.vld = true := by
  rw [turnR_tk hv]; exact ⟨rfl, vld_tk hv _⟩
theorem mirror_err {m : Pm Bool} (hv : m.vld = true) : (mirrorR m).2 = 0 ∧ (mirrorR m).1.vld = true := by
  rw [mirrorR_mm hv]; exact ⟨rfl, vld_mm hv⟩
theorem turn_zero {m : Pm Bool} (hv : m.vld = true) {t : Int} (h : t % 4 = 0) : (turnR m t).1.eqv m := by
  rw [turnR_tk hv, h]; exact Pm.eqv.rf
theorem turn_mirror {m : Pm Bool} (hv : m.vld = true) (a : Int) : (turnR (mirrorR m).1 a).1.eqv (mirrorR (turnR m (-a)).1).1 := by
  rw [mirrorR_mm hv, turnR_tk (vld_mm hv), turnR_tk hv, mirrorR_mm (vld_tk hv _)]
  show (Tk (a % 4).toNat (Mm m)).eqv (Mm (Tk (-a % 4).toNat m))
  have h1 := tkmtk (a % 4).toNat (vld_tk hv (-a % 4).toNat)
  rw [← tk_add] at h1
  have h2 := tk_mod hv (i := (a % 4).toNat + (-a % 4).toNat) (by omega)
  rw [show ((a % 4).toNat + (-a % 4).toNat) % 4 = 0 by omega] at h2
  exact (tk_congr (vld_mm hv) (mm_congr hv h2.sm) _).tr h1
theorem mirror2 {m : Pm Bool} (hv : m.vld = true) : (mirrorR (mirrorR m).1).1.eqv m := by
  rw [mirrorR_mm hv, mirrorR_mm (vld_mm hv)]; exact m2 hv
theorem turnR_two {m : Pm Bool} {t : Int} (h : (turnR m t).2 ≠ 0) : m.vld = false ∧ (turnR m t).2 = 1 := by
  unfold turnR at *
  split at h
  · exact absurd rfl h
  · rename_i hv; exact ⟨by simpa using hv, by rw [if_neg hv]⟩
theorem turnR_zero {m : Pm Bool} {t : Int} (h : ¬ (turnR m t).2 ≠ 0) : m.vld = true := by
  cases hv : m.vld with
  | true => rfl
  | false => exact absurd (show (turnR m t).2 ≠ 0 by simp [turnR, hv]) h

/-! ### pasted and cropped back -/
theorem pasteR_zero {m p : Pm Bool} {x y : Int} (h : ¬ (pasteR m p x y).2 ≠ 0) : m.vld = true ∧ p.vld = true := by
  refine Decidable.byContradiction fun hn => h ?_
  unfold pasteR
  rw [if_neg hn]; decide
theorem pasteR_two {m p : Pm Bool} {x y : Int} (h : (pasteR m p x y).2 ≠ 0) : (pasteR m p x y).2 = 1 ∧ (m.vld && p.vld) = false := by
  unfold pasteR at *
  split at h
  · exact absurd rfl h
  · rename_i hn
    refine ⟨by rw [if_neg hn], ?_⟩
    cases h1 : m.vld <;> cases h2 : p.vld <;> simp_all
theorem near_small {m x : Int} (h0 : -m ≤ x) (h1 : x ≤ m) : nearI m x = x := nearI_idem h0 h1
theorem paste_out {m p : Pm Bool} {x y : Int} {j : Nat} (hv : m.vld = true) (hp : p.vld = true) (hx0 : 0 ≤ x) (hx1 : x ≤ 255) (hy0 : 0 ≤ y) (hy1 : y ≤ 255) (hj : j < m.n)
    (h : (j : Int) % m.W - x < 0 ∨ p.W ≤ (j : Int) % m.W - x ∨ (j : Int) / m.W - y < 0 ∨ p.H ≤ (j : Int) / m.W - y) : (pasteR m p x y).1.f j = m.f j := by
  rw [pasteR_ok hv hp]
  show pasteF _ _ _ _ _ _ _ _ _ _ _ _ = _
  unfold pasteF
  rw [near_small (by omega) (by omega), near_small (by omega) (by omega), if_neg (by omega)]
  exact at_cell hv hj
theorem paste_back {m p : Pm Bool} {x y : Int} (hv : m.vld = true) (hp : p.vld = true) (hx0 : 0 ≤ x) (hx1 : x ≤ 255) (hy0 : 0 ≤ y) (hy1 : y ≤ 255) (hw : x + p.W ≤ m.W) (hh : y + p.H ≤ m.H) :
    (cropR (pasteR m p x y).1 x y p.W p.H).2 = 0 ∧ (cropR (pasteR m p x y).1 x y p.W p.H).1.eqv p := by
  have hp' := hp
  simp only [Pm.vld, vldB, Bool.and_eq_true] at hp'
  obtain ⟨q1, q2, q3⟩ := n_m hp
  obtain ⟨w1, w2, w3⟩ := n_m hv
  rw [pasteR_ok hv hp]
  rw [cropR_ok (show vldB m.W m.H m.n = true from hv) hp'.1]
  refine ⟨rfl, rfl, rfl, by show (p.W * p.H).toNat = p.n; omega, fun j hj => ?_⟩
  have hj' : j < p.n := by have : j < (p.W * p.H).toNat := hj; omega
  obtain ⟨a, b, c, d, e⟩ := cell_m hp hj'
  show cropF _ _ _ _ _ _ _ _ _ = _
  unfold cropF
  rw [near_small (by omega) (by omega), near_small (by omega) (by omega)]
  rw [at_in hv (by omega) (by omega) (by omega) (by omega)]
  unfold pasteF
  have hb := idx_bd (W := m.W) (H := m.H) (x := x + (j : Int) % p.W) (y := y + (j : Int) / p.W) (by omega) (by omega) (by omega) (by omega)
  obtain ⟨p1, p2⟩ := toNat_dm (k := (y + (j : Int) / p.W) * m.W + (x + (j : Int) % p.W)) (by omega) rfl (by omega) (by omega)
  rw [p1, p2, near_small (by omega) (by omega), near_small (by omega) (by omega), if_pos (by omega)]
  rw [show x + (j : Int) % p.W - x = (j : Int) % p.W by omega, show y + (j : Int) / p.W - y = (j : Int) / p.W by omega]
  exact at_cell hp hj'

/-! ### enlarged twice -/
theorem enlR_eq {m : Pm Bool} {k : Int} (hv : m.vld = true) (hk0 : 1 ≤ k) (hk1 : k ≤ 4096) (hf : fitsB (k * m.W) (k * m.H) = true) : enlR m k = (⟨k * m.W, k * m.H, (k * m.W * (k * m.H)).toNat, enlF m.W k m.f⟩, 0) := enlR_ok hv (by omega) hf
theorem vld_enl {W H : Int} (hf : fitsB W H = true) : vldB W H (W * H).toNat = true := by
  unfold vldB
  have := fits_bd hf
  rw [hf, Bool.true_and, decide_eq_true_eq]
  omega
end Go.Bs
