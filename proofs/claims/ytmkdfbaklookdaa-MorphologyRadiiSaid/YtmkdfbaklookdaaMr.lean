/-
  Plain laws of package morphology: idempotence, monotony, radii, outline, duality. No program is named here.
-/
import Derived.Test.YtmkdfbaklookdaaMq
namespace Go.Bs
open Go.RowKit Go.Eng

theorem res_vld {m : Pm Bool} {F : Nat → Bool} (hv : m.vld = true) : (⟨m.W, m.H, (m.W * m.H).toNat, F⟩ : Pm Bool).vld = true := vld_enl (by have := hv; simp only [Pm.vld, vldB, Bool.and_eq_true] at this; exact this.1)
theorem at_res {m : Pm Bool} {F : Nat → Bool} (hv : m.vld = true) {x y : Int} : (⟨m.W, m.H, (m.W * m.H).toNat, F⟩ : Pm Bool).at_ x y = true ↔ (0 ≤ x ∧ x < m.W ∧ 0 ≤ y ∧ y < m.H ∧ F (y * m.W + x).toNat = true) := at_iff (res_vld hv)
theorem erodeR_ok {m : Pm Bool} {rx ry : Int} (h : m.chk rx ry = 0) : erodeR m rx ry = (⟨m.W, m.H, (m.W * m.H).toNat, erodeF m rx ry⟩, 0) := if_pos h
theorem dilateR_ok {m : Pm Bool} {rx ry : Int} (h : m.chk rx ry = 0) : dilateR m rx ry = (⟨m.W, m.H, (m.W * m.H).toNat, dilateF m rx ry⟩, 0) := if_pos h
theorem closeR_ok {m : Pm Bool} {rx ry : Int} (h : m.chk rx ry = 0) : closeR m rx ry = (⟨m.W, m.H, (m.W * m.H).toNat, closeF m rx ry⟩, 0) := if_pos h
theorem majR_ok {m : Pm Bool} {r : Int} (h : m.chk r r = 0) : majR m r = (⟨m.W, m.H, m.n, majF m r⟩, 0) := if_pos h
theorem chk_of {m : Pm Bool} {rx ry : Int} (hv : m.vld = true) (h1 : 0 ≤ rx) (h2 : rx ≤ 4096) (h3 : 0 ≤ ry) (h4 : ry ≤ 4096) : m.chk rx ry = 0 := mchk_ok hv (by omega)
theorem erode_err {m : Pm Bool} {rx ry : Int} : (erodeR m rx ry).2 = m.chk rx ry := by
  unfold erodeR; split
  · rename_i h; exact h.symm
  · rfl
theorem dilate_err {m : Pm Bool} {rx ry : Int} : (dilateR m rx ry).2 = m.chk rx ry := by
  unfold dilateR; split
  · rename_i h; exact h.symm
  · rfl
theorem close_err {m : Pm Bool} {rx ry : Int} : (closeR m rx ry).2 = m.chk rx ry := by
  unfold closeR; split
  · rename_i h; exact h.symm
  · rfl
theorem maj_err {m : Pm Bool} {r : Int} : (majR m r).2 = m.chk r r := by
  unfold majR; split
  · rename_i h; exact h.symm
  · rfl
/-- a result's size -/
theorem erode_sz {m : Pm Bool} {rx ry : Int} (h : m.chk rx ry = 0) : (erodeR m rx ry).1.W = m.W ∧ (erodeR m rx ry).1.H = m.H ∧ (erodeR m rx ry).1.n = m.n ∧ (erodeR m rx ry).1.vld = true := by
  have hv := (chk_m h).1
  rw [erodeR_ok h]
  refine ⟨rfl, rfl, ?_, res_vld hv⟩
  have := (n_m hv).2.2
  show (m.W * m.H).toNat = m.n
  omega
theorem dilate_sz {m : Pm Bool} {rx ry : Int} (h : m.chk rx ry = 0) : (dilateR m rx ry).1.W = m.W ∧ (dilateR m rx ry).1.H = m.H ∧ (dilateR m rx ry).1.n = m.n ∧ (dilateR m rx ry).1.vld = true := by
  have hv := (chk_m h).1
  rw [dilateR_ok h]
  refine ⟨rfl, rfl, ?_, res_vld hv⟩
  have := (n_m hv).2.2
  show (m.W * m.H).toNat = m.n
  omega
theorem close_sz {m : Pm Bool} {rx ry : Int} (h : m.chk rx ry = 0) : (closeR m rx ry).1.W = m.W ∧ (closeR m rx ry).1.H = m.H ∧ (closeR m rx ry).1.n = m.n ∧ (closeR m rx ry).1.vld = true := by
  have hv := (chk_m h).1
  rw [closeR_ok h]
  refine ⟨rfl, rfl, ?_, res_vld hv⟩
  have := (n_m hv).2.2
  show (m.W * m.H).toNat = m.n
  omega
theorem at_er {m : Pm Bool} {rx ry x y : Int} (h : m.chk rx ry = 0) : (erodeR m rx ry).1.at_ x y = true ↔ ∀ x' y' : Int, x - rx ≤ x' → x' ≤ x + rx → y - ry ≤ y' → y' ≤ y + ry → m.at_ x' y' = true := by
  obtain ⟨hv, r1, _, r2, _⟩ := chk_m h
  rw [erodeR_ok h, at_res hv]
  constructor
  · rintro ⟨a, b, c, d, e⟩
    exact (erode_iff hv r1 r2 a b c d).1 e
  · intro e
    obtain ⟨a, b, c, d⟩ := at_in_b (e x y (by omega) (by omega) (by omega) (by omega))
    exact ⟨a, b, c, d, (erode_iff hv r1 r2 a b c d).2 e⟩
theorem at_di {m : Pm Bool} {rx ry x y : Int} (h : m.chk rx ry = 0) : (dilateR m rx ry).1.at_ x y = true ↔ (0 ≤ x ∧ x < m.W ∧ 0 ≤ y ∧ y < m.H ∧ ∃ x' y' : Int, x - rx ≤ x' ∧ x' ≤ x + rx ∧ y - ry ≤ y' ∧ y' ≤ y + ry ∧ m.at_ x' y' = true) := by
  obtain ⟨hv, r1, _, r2, _⟩ := chk_m h
  rw [dilateR_ok h, at_res hv]
  constructor
  · rintro ⟨a, b, c, d, e⟩
    exact ⟨a, b, c, d, (dilate_iff hv r1 r2 a b c d).1 e⟩
  · rintro ⟨a, b, c, d, e⟩
    exact ⟨a, b, c, d, (dilate_iff hv r1 r2 a b c d).2 e⟩
theorem at_cl {m : Pm Bool} {rx ry x y : Int} (h : m.chk rx ry = 0) : (closeR m rx ry).1.at_ x y = true ↔ (0 ≤ x ∧ x < m.W ∧ 0 ≤ y ∧ y < m.H ∧ ∀ x' y' : Int, x - rx ≤ x' → x' ≤ x + rx → y - ry ≤ y' → y' ≤ y + ry → ∃ u v : Int, x' - rx ≤ u ∧ u ≤ x' + rx ∧ y' - ry ≤ v ∧ v ≤ y' + ry ∧ m.at_ u v = true) := by
  obtain ⟨hv, r1, _, r2, _⟩ := chk_m h
  rw [closeR_ok h, at_res hv]
  constructor
  · rintro ⟨a, b, c, d, e⟩
    exact ⟨a, b, c, d, (close_iff hv r1 r2 a b c d).1 e⟩
  · rintro ⟨a, b, c, d, e⟩
    exact ⟨a, b, c, d, (close_iff hv r1 r2 a b c d).2 e⟩
theorem chk_er {m : Pm Bool} {rx ry px py : Int} (h : m.chk rx ry = 0) (hp : m.chk px py = 0) : (erodeR m rx ry).1.chk px py = 0 := by
  obtain ⟨_, p1, p2, p3, p4⟩ := chk_m hp
  exact chk_of (erode_sz h).2.2.2 p1 p2 p3 p4
theorem chk_di {m : Pm Bool} {rx ry px py : Int} (h : m.chk rx ry = 0) (hp : m.chk px py = 0) : (dilateR m rx ry).1.chk px py = 0 := by
  obtain ⟨_, p1, p2, p3, p4⟩ := chk_m hp
  exact chk_of (dilate_sz h).2.2.2 p1 p2 p3 p4
theorem openR_ok {m : Pm Bool} {rx ry : Int} (h : m.chk rx ry = 0) : openR m rx ry = dilateR (erodeR m rx ry).1 rx ry := by
  unfold openR
  rw [if_pos (by rw [erode_err]; exact h)]
theorem open_err {m : Pm Bool} {rx ry : Int} : (openR m rx ry).2 = m.chk rx ry := by
  by_cases h : m.chk rx ry = 0
  · rw [openR_ok h, dilate_err, chk_er h h, h]
  · unfold openR
    rw [if_neg (by rw [erode_err]; exact h), erode_err]
theorem open_sz {m : Pm Bool} {rx ry : Int} (h : m.chk rx ry = 0) : (openR m rx ry).1.W = m.W ∧ (openR m rx ry).1.H = m.H ∧ (openR m rx ry).1.n = m.n ∧ (openR m rx ry).1.vld = true := by
  rw [openR_ok h]
  have a := dilate_sz (chk_er h h)
  have b := erode_sz h
  exact ⟨a.1.trans b.1, a.2.1.trans b.2.1, a.2.2.1.trans b.2.2.1, a.2.2.2⟩
theorem at_op {m : Pm Bool} {rx ry x y : Int} (h : m.chk rx ry = 0) : (openR m rx ry).1.at_ x y = true ↔ ∃ u v : Int, x - rx ≤ u ∧ u ≤ x + rx ∧ y - ry ≤ v ∧ v ≤ y + ry ∧ ∀ x' y' : Int, u - rx ≤ x' → x' ≤ u + rx → v - ry ≤ y' → y' ≤ v + ry → m.at_ x' y' = true := by
  rw [openR_ok h, at_di (chk_er h h)]
  have b := erode_sz h
  constructor
  · rintro ⟨_, _, _, _, u, v, a1, a2, a3, a4, a5⟩
    exact ⟨u, v, a1, a2, a3, a4, (at_er h).1 a5⟩
  · rintro ⟨u, v, a1, a2, a3, a4, a5⟩
    obtain ⟨c1, c2, c3, c4⟩ := at_in_b (a5 x y (by omega) (by omega) (by omega) (by omega))
    rw [b.1, b.2.1]
    exact ⟨c1, c2, c3, c4, u, v, a1, a2, a3, a4, (at_er h).2 a5⟩
/-- from pixels to bitmaps -/
theorem f_at {a : Pm Bool} (hv : a.vld = true) {j : Nat} (hj : j < a.n) : a.at_ ((j : Int) % a.W) ((j : Int) / a.W) = a.f j := at_cell hv hj
theorem wi_of {a b : Pm Bool} (ha : a.vld = true) (hb : b.vld = true) (h1 : a.W = b.W) (h2 : a.H = b.H) (h3 : a.n = b.n) (h : ∀ x y, a.at_ x y = true → b.at_ x y = true) : wiB a b = true := by
  refine wi_yes h1 h2 h3 fun j hj hf => ?_
  rw [← f_at ha hj] at hf
  have := h _ _ hf
  rw [h1, f_at hb (by omega)] at this
  exact this
theorem eqv_of {a b : Pm Bool} (ha : a.vld = true) (hb : b.vld = true) (h1 : a.W = b.W) (h2 : a.H = b.H) (h3 : a.n = b.n) (h : ∀ x y, a.at_ x y = true ↔ b.at_ x y = true) : a.eqv b := by
  refine ⟨h1, h2, h3, fun j hj => ?_⟩
  rw [← f_at ha hj, ← f_at hb (by omega : j < b.n), ← h1]
  exact bool_ext (h _ _)

/-! ### idempotence -/
section
variable {m : Pm Bool} {rx ry : Int} (h : m.chk rx ry = 0)
include h
theorem open_in : wiB (openR m rx ry).1 m = true := by
  obtain ⟨hv, r1, _, r2, _⟩ := chk_m h
  have s := open_sz h
  refine wi_of s.2.2.2 hv s.1 s.2.1 s.2.2.1 fun x y hxy => ?_
  obtain ⟨u, v, a1, a2, a3, a4, a5⟩ := (at_op h).1 hxy
  exact a5 x y (by omega) (by omega) (by omega) (by omega)
theorem close_in : wiB m (closeR m rx ry).1 = true := by
  obtain ⟨hv, r1, _, r2, _⟩ := chk_m h
  have s := close_sz h
  refine wi_of hv s.2.2.2 s.1.symm s.2.1.symm s.2.2.1.symm fun x y hxy => ?_
  obtain ⟨a, b, c, d⟩ := at_in_b hxy
  exact (at_cl h).2 ⟨a, b, c, d, fun x' y' p q s t => ⟨x, y, by omega, by omega, by omega, by omega, hxy⟩⟩
theorem chk_op : (openR m rx ry).1.chk rx ry = 0 := by
  obtain ⟨_, p1, p2, p3, p4⟩ := chk_m h
  exact chk_of (open_sz h).2.2.2 p1 p2 p3 p4
theorem chk_cl : (closeR m rx ry).1.chk rx ry = 0 := by
  obtain ⟨_, p1, p2, p3, p4⟩ := chk_m h
  exact chk_of (close_sz h).2.2.2 p1 p2 p3 p4
theorem open_idem : (openR m rx ry).1.eqv (openR (openR m rx ry).1 rx ry).1 := by
  have s := open_sz h
  have s2 := open_sz (chk_op h)
  refine eqv_of s.2.2.2 s2.2.2.2 s2.1.symm s2.2.1.symm s2.2.2.1.symm fun x y => ?_
  rw [at_op (chk_op h), at_op h]
  constructor
  · rintro ⟨u, v, a1, a2, a3, a4, a5⟩
    exact ⟨u, v, a1, a2, a3, a4, fun x' y' b1 b2 b3 b4 => (at_op h).2 ⟨u, v, by omega, by omega, by omega, by omega, a5⟩⟩
  · rintro ⟨u, v, a1, a2, a3, a4, a5⟩
    exact (at_op h).1 (a5 x y (by omega) (by omega) (by omega) (by omega))
theorem close_idem : (closeR m rx ry).1.eqv (closeR (closeR m rx ry).1 rx ry).1 := by
  have s := close_sz h
  have s2 := close_sz (chk_cl h)
  refine eqv_of s.2.2.2 s2.2.2.2 s2.1.symm s2.2.1.symm s2.2.2.1.symm fun x y => ?_
  rw [at_cl (chk_cl h), at_cl h, s.1, s.2.1]
  refine and_congr_right fun i1 => and_congr_right fun i2 => and_congr_right fun i3 => and_congr_right fun i4 => ?_
  constructor
  · intro hc x' y' b1 b2 b3 b4
    obtain ⟨u, v, c1, c2, c3, c4, c5⟩ := hc x' y' b1 b2 b3 b4
    refine ⟨u, v, c1, c2, c3, c4, ?_⟩
    obtain ⟨d1, d2, d3, d4⟩ := at_in_b c5
    exact (at_cl h).2 ⟨d1, d2, d3, d4, fun p q e1 e2 e3 e4 => ⟨u, v, by omega, by omega, by omega, by omega, c5⟩⟩
  · intro hc x' y' b1 b2 b3 b4
    obtain ⟨u, v, c1, c2, c3, c4, c5⟩ := hc x' y' b1 b2 b3 b4
    obtain ⟨_, _, _, _, hq⟩ := (at_cl h).1 c5
    exact hq x' y' (by omega) (by omega) (by omega) (by omega)
end
theorem chk_cases {m : Pm Bool} {rx ry : Int} (h : m.chk rx ry ≠ 0) : m.chk rx ry = 1 ∨ m.chk rx ry = 3 := by
  unfold Pm.chk mchk at *
  split at h
  · split at h
    · right; rename_i a b; rw [if_pos a, if_pos b]
    · exact absurd rfl h
  · left; rename_i a; rw [if_neg a]

/-! ### monotony -/
def Pm.le (a b : Pm Bool) : Prop := a.W = b.W ∧ a.H = b.H ∧ a.n = b.n ∧ ∀ j, j < a.n → a.f j = true → b.f j = true
theorem le_at {a b : Pm Bool} (hl : a.le b) (hv : a.vld = true) : b.vld = true ∧ ∀ x y, a.at_ x y = true → b.at_ x y = true := by
  obtain ⟨h1, h2, h3, h4⟩ := hl
  have hvb : b.vld = true := by unfold Pm.vld at *; rw [← h1, ← h2, ← h3]; exact hv
  refine ⟨hvb, fun x y h => ?_⟩
  obtain ⟨p1, p2, p3, p4, p5⟩ := (at_iff hv).1 h
  have hb := idx_bd p1 p2 p3 p4
  have hn := (n_m hv).2.2
  rw [at_iff hvb, ← h1, ← h2]
  exact ⟨p1, p2, p3, p4, h4 _ (by omega) p5⟩
theorem wi_no2 {e : Int} : wiB (noB, e).1 (noB, e).1 = true := wi_yes rfl rfl rfl fun _ _ h => h
theorem le_chk {a b : Pm Bool} (hl : a.le b) (rx ry : Int) : b.chk rx ry = a.chk rx ry := by
  unfold Pm.chk
  rw [hl.1, hl.2.1, hl.2.2.1]
section
variable {a b : Pm Bool} {rx ry : Int} (hl : a.le b)
include hl
theorem erode_mono : wiB (erodeR a rx ry).1 (erodeR b rx ry).1 = true := by
  have hc := le_chk hl rx ry
  by_cases h : a.chk rx ry = 0
  · have h' : b.chk rx ry = 0 := hc.trans h
    have s := erode_sz h
    have s' := erode_sz h'
    refine wi_of s.2.2.2 s'.2.2.2 (by rw [s.1, s'.1, hl.1]) (by rw [s.2.1, s'.2.1, hl.2.1]) (by rw [s.2.2.1, s'.2.2.1, hl.2.2.1]) fun x y => ?_
    rw [at_er h, at_er h']
    exact fun q x' y' p1 p2 p3 p4 => (le_at hl (chk_m h).1).2 _ _ (q x' y' p1 p2 p3 p4)
  · unfold erodeR
    rw [if_neg h, hc, if_neg h]
    exact wi_no2
theorem dilate_mono : wiB (dilateR a rx ry).1 (dilateR b rx ry).1 = true := by
  have hc := le_chk hl rx ry
  by_cases h : a.chk rx ry = 0
  · have h' : b.chk rx ry = 0 := hc.trans h
    have s := dilate_sz h
    have s' := dilate_sz h'
    refine wi_of s.2.2.2 s'.2.2.2 (by rw [s.1, s'.1, hl.1]) (by rw [s.2.1, s'.2.1, hl.2.1]) (by rw [s.2.2.1, s'.2.2.1, hl.2.2.1]) fun x y => ?_
    rw [at_di h, at_di h', ← hl.1, ← hl.2.1]
    rintro ⟨i1, i2, i3, i4, u, v, c1, c2, c3, c4, c5⟩
    exact ⟨i1, i2, i3, i4, u, v, c1, c2, c3, c4, (le_at hl (chk_m h).1).2 _ _ c5⟩
  · unfold dilateR
    rw [if_neg h, hc, if_neg h]
    exact wi_no2
theorem close_mono : wiB (closeR a rx ry).1 (closeR b rx ry).1 = true := by
  have hc := le_chk hl rx ry
  by_cases h : a.chk rx ry = 0
  · have h' : b.chk rx ry = 0 := hc.trans h
    have s := close_sz h
    have s' := close_sz h'
    refine wi_of s.2.2.2 s'.2.2.2 (by rw [s.1, s'.1, hl.1]) (by rw [s.2.1, s'.2.1, hl.2.1]) (by rw [s.2.2.1, s'.2.2.1, hl.2.2.1]) fun x y => ?_
    rw [at_cl h, at_cl h', ← hl.1, ← hl.2.1]
    rintro ⟨i1, i2, i3, i4, q⟩
    refine ⟨i1, i2, i3, i4, fun x' y' p1 p2 p3 p4 => ?_⟩
    obtain ⟨u, v, c1, c2, c3, c4, c5⟩ := q x' y' p1 p2 p3 p4
    exact ⟨u, v, c1, c2, c3, c4, (le_at hl (chk_m h).1).2 _ _ c5⟩
  · unfold closeR
    rw [if_neg h, hc, if_neg h]
    exact wi_no2
theorem open_mono : wiB (openR a rx ry).1 (openR b rx ry).1 = true := by
  have hc := le_chk hl rx ry
  by_cases h : a.chk rx ry = 0
  · have h' : b.chk rx ry = 0 := hc.trans h
    have s := open_sz h
    have s' := open_sz h'
    refine wi_of s.2.2.2 s'.2.2.2 (by rw [s.1, s'.1, hl.1]) (by rw [s.2.1, s'.2.1, hl.2.1]) (by rw [s.2.2.1, s'.2.2.1, hl.2.2.1]) fun x y => ?_
    rw [at_op h, at_op h']
    rintro ⟨u, v, c1, c2, c3, c4, c5⟩
    exact ⟨u, v, c1, c2, c3, c4, fun x' y' p1 p2 p3 p4 => (le_at hl (chk_m h).1).2 _ _ (c5 x' y' p1 p2 p3 p4)⟩
  · unfold openR
    rw [erode_err, erode_err, hc, if_neg h, if_neg h]
    exact wi_no2
theorem maj_mono : wiB (majR a rx).1 (majR b rx).1 = true := by
  have hc := le_chk hl rx rx
  by_cases h : a.chk rx rx = 0
  · have h' : b.chk rx rx = 0 := hc.trans h
    obtain ⟨hv, r1, _, r2, _⟩ := chk_m h
    rw [majR_ok h, majR_ok h']
    refine wi_yes hl.1 hl.2.1 hl.2.2.1 fun j hj hf => ?_
    obtain ⟨i1, i2, i3, i4, i5⟩ := cell_m hv hj
    have hn := (n_m hv).2.2
    have hf' : majF a rx j = true := hf
    show majF b rx j = true
    unfold majF boxAt at *
    rw [decide_eq_true_eq] at *
    rw [← hl.1, ← hl.2.1]
    refine Int.lt_of_lt_of_le hf' ?_
    refine Int.mul_le_mul_of_nonneg_left ?_ (by omega)
    rw [boxS_eq, boxS_eq]
    have hmono : ∀ k : Nat, (k : Int) < a.H → ∀ {l r : Nat}, l ≤ r → (r : Int) ≤ a.W → rowS (bw a.f) a.W k r - rowS (bw a.f) a.W k l ≤ rowS (bw b.f) a.W k r - rowS (bw b.f) a.W k l := by
      intro k hk l r hlr hr
      have e : rowS (bw b.f) a.W k r - rowS (bw a.f) a.W k r - (rowS (bw b.f) a.W k l - rowS (bw a.f) a.W k l) = sumN (fun q => bw b.f ((k : Int) * a.W + (q : Int)).toNat - bw a.f ((k : Int) * a.W + (q : Int)).toNat) r - sumN (fun q => bw b.f ((k : Int) * a.W + (q : Int)).toNat - bw a.f ((k : Int) * a.W + (q : Int)).toNat) l := by
        rw [← sumN_sub, ← sumN_sub]; rfl
      have p := (sumN_bd (h := fun q => bw b.f ((k : Int) * a.W + (q : Int)).toNat - bw a.f ((k : Int) * a.W + (q : Int)).toNat) (lo := 0) (hi := 1) hlr (fun q q1 q2 => by
        have hb := idx_bd (W := a.W) (H := a.H) (x := (q : Int)) (y := (k : Int)) (by omega) (by omega) (by omega) hk
        have hq := hl.2.2.2 ((k : Int) * a.W + (q : Int)).toNat (by omega)
        unfold bw
        cases ha : a.f ((k : Int) * a.W + (q : Int)).toNat with
        | false => simp; split <;> omega
        | true => rw [hq ha]; simp)).1
      rw [Int.mul_zero] at p
      omega
    have e : ∀ t : Nat, sumN (fun k => rowS (bw b.f) a.W k (min a.W ((j : Int) % a.W + rx + 1)).toNat - rowS (bw b.f) a.W k (max 0 ((j : Int) % a.W - rx)).toNat) t - sumN (fun k => rowS (bw a.f) a.W k (min a.W ((j : Int) % a.W + rx + 1)).toNat - rowS (bw a.f) a.W k (max 0 ((j : Int) % a.W - rx)).toNat) t = sumN (fun k => (rowS (bw b.f) a.W k (min a.W ((j : Int) % a.W + rx + 1)).toNat - rowS (bw b.f) a.W k (max 0 ((j : Int) % a.W - rx)).toNat) - (rowS (bw a.f) a.W k (min a.W ((j : Int) % a.W + rx + 1)).toNat - rowS (bw a.f) a.W k (max 0 ((j : Int) % a.W - rx)).toNat)) t := fun t => sumN_sub t
    have p := (sumN_bd (h := fun k => (rowS (bw b.f) a.W k (min a.W ((j : Int) % a.W + rx + 1)).toNat - rowS (bw b.f) a.W k (max 0 ((j : Int) % a.W - rx)).toNat) - (rowS (bw a.f) a.W k (min a.W ((j : Int) % a.W + rx + 1)).toNat - rowS (bw a.f) a.W k (max 0 ((j : Int) % a.W - rx)).toNat)) (lo := 0) (hi := 20000) (L := (max 0 ((j : Int) / a.W - rx)).toNat) (R := (min a.H ((j : Int) / a.W + rx + 1)).toNat) (by omega) (fun k k1 k2 => by
      have q := hmono k (by omega) (l := (max 0 ((j : Int) % a.W - rx)).toNat) (r := (min a.W ((j : Int) % a.W + rx + 1)).toNat) (by omega) (by omega)
      have w := vldB_iff.1 (show vldB a.W a.H a.n = true from hv)
      have z1 := row_le (f := b.f) (W := a.W) (y := k) (l := max 0 ((j : Int) % a.W - rx)) (r := min a.W ((j : Int) % a.W + rx + 1)) (by omega) (by omega) (by omega)
      have z2 := row_le (f := a.f) (W := a.W) (y := k) (l := max 0 ((j : Int) % a.W - rx)) (r := min a.W ((j : Int) % a.W + rx + 1)) (by omega) (by omega) (by omega)
      omega)).1
    rw [Int.mul_zero, ← e, ← e] at p
    omega
  · unfold majR
    rw [if_neg h, hc, if_neg h]
    exact wi_no2
end

/-! ### radii -/
theorem clamp {a b r s : Int} (h1 : a - (r + s) ≤ b) (h2 : b ≤ a + (r + s)) (hr : 0 ≤ r) (hs : 0 ≤ s) : ∃ c, a - s ≤ c ∧ c ≤ a + s ∧ c - r ≤ b ∧ b ≤ c + r ∧ min a b ≤ c ∧ c ≤ max a b := by
  by_cases h : a ≤ b
  · exact ⟨min b (a + s), by omega, by omega, by omega, by omega, by omega, by omega⟩
  · exact ⟨max b (a - s), by omega, by omega, by omega, by omega, by omega, by omega⟩
theorem dilate_sum {m : Pm Bool} {p q r s : Int} (h1 : m.chk p q = 0) (h2 : m.chk r s = 0) (h3 : m.chk (p + r) (q + s) = 0) : (dilateR (dilateR m p q).1 r s).1.eqv (dilateR m (p + r) (q + s)).1 := by
  have hd := chk_di h1 h2
  have s1 := dilate_sz h1
  have s2 := dilate_sz hd
  have s3 := dilate_sz h3
  obtain ⟨_, p1, _, p3, _⟩ := chk_m h1
  obtain ⟨_, r1, _, r3, _⟩ := chk_m h2
  refine eqv_of s2.2.2.2 s3.2.2.2 (by rw [s2.1, s1.1, s3.1]) (by rw [s2.2.1, s1.2.1, s3.2.1]) (by rw [s2.2.2.1, s1.2.2.1, s3.2.2.1]) fun x y => ?_
  rw [at_di hd, at_di h3, s1.1, s1.2.1]
  refine and_congr_right fun i1 => and_congr_right fun i2 => and_congr_right fun i3 => and_congr_right fun i4 => ?_
  constructor
  · rintro ⟨u, v, a1, a2, a3, a4, a5⟩
    obtain ⟨_, _, _, _, u', v', b1, b2, b3, b4, b5⟩ := (at_di h1).1 a5
    exact ⟨u', v', by omega, by omega, by omega, by omega, b5⟩
  · rintro ⟨u, v, a1, a2, a3, a4, a5⟩
    obtain ⟨j1, j2, j3, j4⟩ := at_in_b a5
    obtain ⟨c, c1, c2, c3, c4, c5, c6⟩ := clamp (a := x) (b := u) (r := p) (s := r) a1 a2 p1 r1
    obtain ⟨d, d1, d2, d3, d4, d5, d6⟩ := clamp (a := y) (b := v) (r := q) (s := s) a3 a4 p3 r3
    exact ⟨c, d, c1, c2, d1, d2, (at_di h1).2 ⟨by omega, by omega, by omega, by omega, u, v, c3, c4, d3, d4, a5⟩⟩
theorem erode_sum {m : Pm Bool} {p q r s : Int} (h1 : m.chk p q = 0) (h2 : m.chk r s = 0) (h3 : m.chk (p + r) (q + s) = 0) : (erodeR (erodeR m p q).1 r s).1.eqv (erodeR m (p + r) (q + s)).1 := by
  have hd := chk_er h1 h2
  have s1 := erode_sz h1
  have s2 := erode_sz hd
  have s3 := erode_sz h3
  obtain ⟨_, p1, _, p3, _⟩ := chk_m h1
  obtain ⟨_, r1, _, r3, _⟩ := chk_m h2
  refine eqv_of s2.2.2.2 s3.2.2.2 (by rw [s2.1, s1.1, s3.1]) (by rw [s2.2.1, s1.2.1, s3.2.1]) (by rw [s2.2.2.1, s1.2.2.1, s3.2.2.1]) fun x y => ?_
  rw [at_er hd, at_er h3]
  constructor
  · intro h u v a1 a2 a3 a4
    obtain ⟨c, c1, c2, c3, c4, c5, c6⟩ := clamp (a := x) (b := u) (r := p) (s := r) a1 a2 p1 r1
    obtain ⟨d, d1, d2, d3, d4, d5, d6⟩ := clamp (a := y) (b := v) (r := q) (s := s) a3 a4 p3 r3
    exact (at_er h1).1 (h c d c1 c2 d1 d2) u v c3 c4 d3 d4
  · intro h u v a1 a2 a3 a4
    exact (at_er h1).2 fun u' v' b1 b2 b3 b4 => h u' v' (by omega) (by omega) (by omega) (by omega)
theorem erode_zero {m : Pm Bool} (hv : m.vld = true) : (erodeR m 0 0).1.eqv m := by
  have h := chk_of (rx := 0) (ry := 0) hv (by omega) (by omega) (by omega) (by omega)
  have s := erode_sz h
  refine eqv_of s.2.2.2 hv s.1 s.2.1 s.2.2.1 fun x y => ?_
  rw [at_er h]
  exact ⟨fun q => q x y (by omega) (by omega) (by omega) (by omega), fun q x' y' a b c d => by rw [show x' = x by omega, show y' = y by omega]; exact q⟩
theorem dilate_zero {m : Pm Bool} (hv : m.vld = true) : (dilateR m 0 0).1.eqv m := by
  have h := chk_of (rx := 0) (ry := 0) hv (by omega) (by omega) (by omega) (by omega)
  have s := dilate_sz h
  refine eqv_of s.2.2.2 hv s.1 s.2.1 s.2.2.1 fun x y => ?_
  rw [at_di h]
  constructor
  · rintro ⟨_, _, _, _, u, v, a, b, c, d, e⟩
    rw [show x = u by omega, show y = v by omega]; exact e
  · intro q
    obtain ⟨a, b, c, d⟩ := at_in_b q
    exact ⟨a, b, c, d, x, y, by omega, by omega, by omega, by omega, q⟩
theorem close_zero {m : Pm Bool} (hv : m.vld = true) : (closeR m 0 0).1.eqv m := by
  have h := chk_of (rx := 0) (ry := 0) hv (by omega) (by omega) (by omega) (by omega)
  have s := close_sz h
  refine eqv_of s.2.2.2 hv s.1 s.2.1 s.2.2.1 fun x y => ?_
  rw [at_cl h]
  constructor
  · rintro ⟨_, _, _, _, q⟩
    obtain ⟨u, v, a, b, c, d, e⟩ := q x y (by omega) (by omega) (by omega) (by omega)
    rw [show x = u by omega, show y = v by omega]; exact e
  · intro q
    obtain ⟨a, b, c, d⟩ := at_in_b q
    exact ⟨a, b, c, d, fun x' y' a b c d => ⟨x, y, by omega, by omega, by omega, by omega, q⟩⟩
theorem open_zero {m : Pm Bool} (hv : m.vld = true) : (openR m 0 0).1.eqv m := by
  have h := chk_of (rx := 0) (ry := 0) hv (by omega) (by omega) (by omega) (by omega)
  have s := open_sz h
  refine eqv_of s.2.2.2 hv s.1 s.2.1 s.2.2.1 fun x y => ?_
  rw [at_op h]
  constructor
  · rintro ⟨u, v, a, b, c, d, e⟩
    exact e x y (by omega) (by omega) (by omega) (by omega)
  · intro q
    exact ⟨x, y, by omega, by omega, by omega, by omega, fun x' y' a b c d => by rw [show x' = x by omega, show y' = y by omega]; exact q⟩
theorem maj_zero {m : Pm Bool} (hv : m.vld = true) : (majR m 0).1.eqv m := by
  have h := chk_of (rx := 0) (ry := 0) hv (by omega) (by omega) (by omega) (by omega)
  rw [majR_ok h]
  refine ⟨rfl, rfl, rfl, fun j hj => ?_⟩
  have hj' : j < m.n := hj
  obtain ⟨i1, i2, i3, i4, i5⟩ := cell_m hv hj'
  have hc := cnt_at hv (x := (j : Int) % m.W) (y := (j : Int) / m.W) (rx := 0) (ry := 0)
  have hl := box_nonneg (f := m.f) (W := m.W) (t := (max 0 ((j : Int) / m.W - 0)).toNat) (b := (min m.H ((j : Int) / m.W + 0 + 1)).toNat) (l := (max 0 ((j : Int) % m.W - 0)).toNat) (r := (min m.W ((j : Int) % m.W + 0 + 1)).toNat) (by omega) (by omega)
  have e : cntAt m.f m.W m.H ((j : Int) % m.W) ((j : Int) / m.W) 0 0 = boxAt (bw m.f) m.W m.H ((j : Int) % m.W) ((j : Int) / m.W) 0 0 := by
    unfold cntAt boxAt
    rw [show min m.H ((j : Int) / m.W + 0 + 1) = max (max 0 ((j : Int) / m.W - 0)) (min (m.H - 1) ((j : Int) / m.W + 0) + 1) by omega, show min m.W ((j : Int) % m.W + 0 + 1) = max (max 0 ((j : Int) % m.W - 0)) (min (m.W - 1) ((j : Int) % m.W + 0) + 1) by omega]
  rw [e] at hc
  have hl' : 0 ≤ boxAt (bw m.f) m.W m.H ((j : Int) % m.W) ((j : Int) / m.W) 0 0 := hl.1
  show majF m 0 j = m.f j
  unfold majF
  refine bool_ext ?_
  rw [decide_eq_true_eq]
  have h2 : ((2 * 0 + 1) * (2 * 0 + 1) < 2 * boxAt (bw m.f) m.W m.H ((j : Int) % m.W) ((j : Int) / m.W) 0 0) ↔ boxAt (bw m.f) m.W m.H ((j : Int) % m.W) ((j : Int) / m.W) 0 0 ≠ 0 := by omega
  rw [h2, hc]
  constructor
  · rintro ⟨u, v, a, b, c, d, e⟩
    rw [show u = (j : Int) % m.W by omega, show v = (j : Int) / m.W by omega, f_at hv hj'] at e
    exact e
  · intro q
    exact ⟨(j : Int) % m.W, (j : Int) / m.W, by omega, by omega, by omega, by omega, by rw [f_at hv hj']; exact q⟩

/-! ### outline -/
theorem outl_in {m : Pm Bool} (hv : m.vld = true) : wiB (outlR m).1 m = true := by
  unfold outlR
  rw [if_pos hv]
  refine wi_yes rfl rfl rfl fun j hj hf => ?_
  have : outlF m j = true := hf
  unfold outlF at this
  rw [Bool.and_eq_true] at this
  exact this.1
theorem erode_in {m : Pm Bool} {rx ry : Int} (h : m.chk rx ry = 0) : wiB (erodeR m rx ry).1 m = true := by
  obtain ⟨hv, r1, _, r2, _⟩ := chk_m h
  have s := erode_sz h
  refine wi_of s.2.2.2 hv s.1 s.2.1 s.2.2.1 fun x y => ?_
  rw [at_er h]
  exact fun q => q x y (by omega) (by omega) (by omega) (by omega)
theorem outl_er {m : Pm Bool} (hv : m.vld = true) {j : Nat} (hj : j < m.n) : (m.f j && !(outlR m).1.f j) = ((erodeR m 1 0).1.f j && (erodeR m 0 1).1.f j) := by
  have h1 := chk_of (rx := 1) (ry := 0) hv (by omega) (by omega) (by omega) (by omega)
  have h2 := chk_of (rx := 0) (ry := 1) hv (by omega) (by omega) (by omega) (by omega)
  have s1 := erode_sz h1
  have s2 := erode_sz h2
  have e1 := f_at s1.2.2.2 (j := j) (by omega)
  have e2 := f_at s2.2.2.2 (j := j) (by omega)
  rw [s1.1] at e1
  rw [s2.1] at e2
  rw [← e1, ← e2]
  have e3 : (outlR m).1.f j = outlF m j := by unfold outlR; rw [if_pos hv]
  rw [e3]
  unfold outlF innerB
  rw [← f_at hv hj]
  refine bool_ext ?_
  rw [Bool.and_eq_true, Bool.and_eq_true, at_er h1, at_er h2]
  generalize (j : Int) % m.W = x
  generalize (j : Int) / m.W = y
  constructor
  · rintro ⟨a, b⟩
    rw [a, Bool.true_and, Bool.not_not] at b
    simp only [Bool.and_eq_true] at b
    obtain ⟨⟨⟨b1, b2⟩, b3⟩, b4⟩ := b
    constructor
    · intro x' y' c1 c2 c3 c4
      rw [show y' = y by omega]
      rcases (show x' = x - 1 ∨ x' = x ∨ x' = x + 1 by omega) with e | e | e <;> rw [e] <;> assumption
    · intro x' y' c1 c2 c3 c4
      rw [show x' = x by omega]
      rcases (show y' = y - 1 ∨ y' = y ∨ y' = y + 1 by omega) with e | e | e <;> rw [e] <;> assumption
  · rintro ⟨a, b⟩
    have c0 := a x y (by omega) (by omega) (by omega) (by omega)
    rw [c0, a (x - 1) y (by omega) (by omega) (by omega) (by omega), a (x + 1) y (by omega) (by omega) (by omega) (by omega), b x (y - 1) (by omega) (by omega) (by omega) (by omega), b x (y + 1) (by omega) (by omega) (by omega) (by omega)]
    simp

/-! ### duality -/
theorem dual {m d : Pm Bool} {rx ry x y : Int} (hv : m.vld = true) (h : m.chk rx ry = 0) (hd : d.chk rx ry = 0) (hW : d.W = m.W + 2 * rx) (hH : d.H = m.H + 2 * ry)
    (hf : ∀ x y : Int, 0 ≤ x → x < d.W → 0 ≤ y → y < d.H → d.at_ x y = !m.at_ (x - rx) (y - ry)) (h1 : 0 ≤ x) (h2 : x < m.W) (h3 : 0 ≤ y) (h4 : y < m.H) : (dilateR d rx ry).1.at_ (x + rx) (y + ry) = !(erodeR m rx ry).1.at_ x y := by
  obtain ⟨_, r1, _, r2, _⟩ := chk_m h
  refine bool_ext ?_
  rw [at_di hd, Bool.not_eq_true', ← Bool.not_eq_true, at_er h, hW, hH]
  constructor
  · rintro ⟨_, _, _, _, u, v, a1, a2, a3, a4, a5⟩ hq
    obtain ⟨j1, j2, j3, j4⟩ := at_in_b a5
    rw [hf u v j1 j2 j3 j4, hq (u - rx) (v - ry) (by omega) (by omega) (by omega) (by omega)] at a5
    cases a5
  · intro hq
    refine ⟨by omega, by omega, by omega, by omega, Classical.byContradiction fun hn => hq fun x' y' b1 b2 b3 b4 => ?_⟩
    cases hm : m.at_ x' y' with
    | true => rfl
    | false =>
      refine absurd ⟨x' + rx, y' + ry, by omega, by omega, by omega, by omega, ?_⟩ hn
      rw [hf _ _ (by omega) (by omega) (by omega) (by omega), show x' + rx - rx = x' by omega, show y' + ry - ry = y' by omega, hm]
      rfl
def val37 (W H : Int) (n : Nat) : Bool := decide (1 ≤ W) && decide (W ≤ 1000) && decide (1 ≤ H) && decide (H ≤ 1000) && decide (W * H ≤ 1000) && decide ((n : Int) = W * H)
theorem val_vld {W H : Int} {n : Nat} (h : val37 W H n = true) : vldB W H n = true ∧ W ≤ 1000 ∧ H ≤ 1000 ∧ n ≤ 1000 := by
  simp only [val37, Bool.and_eq_true, decide_eq_true_eq] at h
  obtain ⟨⟨⟨⟨⟨h1, h2⟩, h3⟩, h4⟩, h5⟩, h6⟩ := h
  exact ⟨vldB_iff.2 ⟨h1, by omega, h3, by omega, by omega, h6⟩, h2, h4, by omega⟩
theorem outlR_sz {m : Pm Bool} (hv : m.vld = true) : (outlR m).2 = 0 ∧ (outlR m).1.n = m.n := by
  unfold outlR; rw [if_pos hv]; exact ⟨rfl, rfl⟩
/-- the inverted bitmap with a margin -/
def dualF (m : Pm Bool) (rx ry : Int) (j : Nat) : Bool := !atB m.W m.H m.n m.f ((j : Int) % (m.W + 2 * rx) - rx) ((j : Int) / (m.W + 2 * rx) - ry)
theorem dual_vld {W H rx ry : Int} (h1 : 1 ≤ W) (h2 : W ≤ 1000) (h3 : 1 ≤ H) (h4 : H ≤ 1000) (r1 : 0 ≤ rx) (r2 : rx ≤ 20) (r3 : 0 ≤ ry) (r4 : ry ≤ 20) : fitsB (W + 2 * rx) (H + 2 * ry) = true ∧ 1 ≤ (W + 2 * rx) * (H + 2 * ry) ∧ (W + 2 * rx) * (H + 2 * ry) ≤ 1081600 := by
  have a : (W + 2 * rx) * (H + 2 * ry) ≤ 1040 * 1040 := Int.mul_le_mul (by omega) (by omega) (by omega) (by omega)
  have b : 1 ≤ (W + 2 * rx) * (H + 2 * ry) := Int.mul_pos (by omega) (by omega)
  exact ⟨fitsB_iff.2 ⟨by omega, by omega, by omega, by omega, by omega⟩, b, by omega⟩
theorem dual_at {m : Pm Bool} {rx ry : Int} (hf : fitsB (m.W + 2 * rx) (m.H + 2 * ry) = true) {u v : Int} (h1 : 0 ≤ u) (h2 : u < m.W + 2 * rx) (h3 : 0 ≤ v) (h4 : v < m.H + 2 * ry) :
    (⟨m.W + 2 * rx, m.H + 2 * ry, ((m.W + 2 * rx) * (m.H + 2 * ry)).toNat, dualF m rx ry⟩ : Pm Bool).at_ u v = !m.at_ (u - rx) (v - ry) := by
  have h0 : 0 ≤ v * (m.W + 2 * rx) := Int.mul_nonneg h3 (by omega)
  unfold Pm.at_
  rw [at_in (vld_enl hf) h1 h2 h3 h4]
  obtain ⟨p, q⟩ := toNat_dm (k := v * (m.W + 2 * rx) + u) (by omega) rfl h1 h2
  show dualF m rx ry _ = _
  unfold dualF
  rw [p, q]
theorem dual_law {m : Pm Bool} {rx ry : Int} {i : Nat} (hv : m.vld = true) (h : m.chk rx ry = 0) (hf : fitsB (m.W + 2 * rx) (m.H + 2 * ry) = true) (hi : i < m.n) :
    (dilateR ⟨m.W + 2 * rx, m.H + 2 * ry, ((m.W + 2 * rx) * (m.H + 2 * ry)).toNat, dualF m rx ry⟩ rx ry).1.at_ ((i : Int) % m.W + rx) ((i : Int) / m.W + ry) = !(erodeR m rx ry).1.f i := by
  obtain ⟨_, r1, r2, r3, r4⟩ := chk_m h
  have z := erode_sz h
  obtain ⟨a, b, c, d, e⟩ := cell_m hv hi
  have he := f_at z.2.2.2 (j := i) (by omega)
  rw [z.1] at he
  rw [← he]
  exact dual hv h (chk_of (m := ⟨m.W + 2 * rx, m.H + 2 * ry, ((m.W + 2 * rx) * (m.H + 2 * ry)).toNat, dualF m rx ry⟩) (vld_enl hf) r1 r2 r3 r4) rfl rfl (fun u v p1 p2 p3 p4 => dual_at hf p1 p2 p3 p4) a b c d
theorem beq_not {a b : Bool} (h : a = !b) : (a == b) = false := by subst h; cases b <;> rfl
end Go.Bs
