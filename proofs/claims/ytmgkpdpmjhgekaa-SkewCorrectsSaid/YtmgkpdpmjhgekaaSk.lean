/-
  Package skew as plain functions: profiles, shears, energies. No program is named here.
-/
import Derived.Test.YtmgkpdpmjhgekaaRgm
namespace Go.Bs
open Go.RowKit Go.Eng

/-! ### floor -/
theorem tdiv_bd {a b A : Int} (hb : 1 ≤ b) (h1 : -A ≤ a) (h2 : a ≤ A) : -A ≤ a.tdiv b ∧ a.tdiv b ≤ A := by
  rcases Int.le_total 0 a with h | h
  · rw [Int.tdiv_eq_ediv_of_nonneg h]
    have := Int.ediv_nonneg h (show 0 ≤ b by omega)
    have := Int.ediv_le_self b h
    omega
  · have e : a.tdiv b = -((-a).tdiv b) := by rw [Int.neg_tdiv, Int.neg_neg]
    rw [e, Int.tdiv_eq_ediv_of_nonneg (by omega)]
    have := Int.ediv_nonneg (show 0 ≤ -a by omega) (show 0 ≤ b by omega)
    have := Int.ediv_le_self b (show 0 ≤ -a by omega)
    omega
theorem tmod_b {a b : Int} (hb : 1 ≤ b) : -b < a.tmod b ∧ a.tmod b < b := ⟨Int.lt_tmod_of_pos a (by omega), Int.tmod_lt_of_pos a (by omega)⟩
theorem floor_neg {a b : Int} (hb : 1 ≤ b) (h : a.tmod b < 0) : a.tdiv b - 1 = a / b := by
  have h1 := Int.mul_tdiv_add_tmod a b
  have h2 := tmod_b (a := a) hb
  have h3 : a = (a.tdiv b - 1) * b + (a.tmod b + b) := by rw [sub1_mul, Int.mul_comm]; omega
  exact (dm h3 (by omega) (by omega)).1.symm
theorem floor_pos {a b : Int} (hb : 1 ≤ b) (h : ¬ a.tmod b < 0) : a.tdiv b = a / b := by
  have h1 := Int.mul_tdiv_add_tmod a b
  have h2 := tmod_b (a := a) hb
  have h3 : a = a.tdiv b * b + a.tmod b := by rw [Int.mul_comm]; omega
  exact (dm h3 (by omega) (by omega)).1.symm
theorem ediv_bd {a b A : Int} (hb : 1 ≤ b) (hA : 0 ≤ A) (h1 : -A ≤ a) (h2 : a ≤ A) : -A ≤ a / b ∧ a / b ≤ A := by
  constructor
  · exact Int.le_ediv_of_mul_le (by omega) (by have : A * 1 ≤ A * b := Int.mul_le_mul_of_nonneg_left hb hA; rw [Int.neg_mul]; omega)
  · rcases Int.le_total 0 a with h | h
    · have := Int.ediv_le_self b h; omega
    · have := Int.ediv_le_ediv (show 0 < b by omega) h
      rw [Int.zero_ediv] at this; omega

/-! ### least and greatest -/
def minF (f : Nat → Int) : Nat → Int
  | 0 => f 0
  | k + 1 => min (minF f k) (f (k + 1))
def maxF (f : Nat → Int) : Nat → Int
  | 0 => f 0
  | k + 1 => max (maxF f k) (f (k + 1))
theorem minF_le {f : Nat → Int} : ∀ {k j : Nat}, j ≤ k → minF f k ≤ f j
  | 0, j, h => by have : j = 0 := by omega
                  subst this; exact Int.le_refl _
  | k + 1, j, h => by
    unfold minF
    by_cases e : j = k + 1
    · subst e; omega
    · have := minF_le (f := f) (k := k) (j := j) (by omega); omega
theorem minF_at {f : Nat → Int} : ∀ {k : Nat}, ∃ j, j ≤ k ∧ minF f k = f j
  | 0 => ⟨0, by omega, rfl⟩
  | k + 1 => by
    obtain ⟨j, h1, h2⟩ := minF_at (f := f) (k := k)
    unfold minF
    by_cases e : minF f k ≤ f (k + 1)
    · exact ⟨j, by omega, by omega⟩
    · exact ⟨k + 1, by omega, by omega⟩
theorem le_maxF {f : Nat → Int} : ∀ {k j : Nat}, j ≤ k → f j ≤ maxF f k
  | 0, j, h => by have : j = 0 := by omega
                  subst this; exact Int.le_refl _
  | k + 1, j, h => by
    unfold maxF
    by_cases e : j = k + 1
    · subst e; omega
    · have := le_maxF (f := f) (k := k) (j := j) (by omega); omega
theorem maxF_at {f : Nat → Int} : ∀ {k : Nat}, ∃ j, j ≤ k ∧ maxF f k = f j
  | 0 => ⟨0, by omega, rfl⟩
  | k + 1 => by
    obtain ⟨j, h1, h2⟩ := maxF_at (f := f) (k := k)
    unfold maxF
    by_cases e : f (k + 1) ≤ maxF f k
    · exact ⟨j, by omega, by omega⟩
    · exact ⟨k + 1, by omega, by omega⟩
theorem minF_up {f : Nat → Int} {i : Nat} (hi : 1 ≤ i) : min (minF f (i - 1)) (f i) = minF f i := by
  obtain ⟨k, rfl⟩ : ∃ k, i = k + 1 := ⟨i - 1, by omega⟩
  rfl
theorem maxF_up {f : Nat → Int} {i : Nat} (hi : 1 ≤ i) : max (maxF f (i - 1)) (f i) = maxF f i := by
  obtain ⟨k, rfl⟩ : ∃ k, i = k + 1 := ⟨i - 1, by omega⟩
  rfl
theorem minF_eq {f : Nat → Int} {k : Nat} {v : Int} (h1 : ∀ j, j ≤ k → v ≤ f j) (h2 : ∃ j, j ≤ k ∧ f j = v) : minF f k = v := by
  obtain ⟨j, a, b⟩ := h2
  obtain ⟨i, c, d⟩ := minF_at (f := f) (k := k)
  have := minF_le (f := f) a
  have := h1 i c
  omega
theorem maxF_eq {f : Nat → Int} {k : Nat} {v : Int} (h1 : ∀ j, j ≤ k → f j ≤ v) (h2 : ∃ j, j ≤ k ∧ f j = v) : maxF f k = v := by
  obtain ⟨j, a, b⟩ := h2
  obtain ⟨i, c, d⟩ := maxF_at (f := f) (k := k)
  have := le_maxF (f := f) a
  have := h1 i c
  omega
theorem minF_congr {f g : Nat → Int} : ∀ {k : Nat}, (∀ j, j ≤ k → f j = g j) → minF f k = minF g k
  | 0, h => h 0 (by omega)
  | k + 1, h => by
    show min (minF f k) (f (k + 1)) = min (minF g k) (g (k + 1))
    rw [minF_congr (k := k) (fun j hj => h j (by omega)), h (k + 1) (by omega)]
theorem maxF_congr {f g : Nat → Int} : ∀ {k : Nat}, (∀ j, j ≤ k → f j = g j) → maxF f k = maxF g k
  | 0, h => h 0 (by omega)
  | k + 1, h => by
    show max (maxF f k) (f (k + 1)) = max (maxF g k) (g (k + 1))
    rw [maxF_congr (k := k) (fun j hj => h j (by omega)), h (k + 1) (by omega)]

/-! ### shifts -/
/-- the slope's rows at column x -/
def slF (num den : Int) (x : Nat) : Int := (x : Int) * num / den
/-- the shift of column x of W -/
def shI (W num den : Int) (x : Int) : Int := x * num / den - min 0 ((W - 1) * num / den)
theorem sl_mono {num den : Int} {x y : Int} (hd : 1 ≤ den) (hn : 0 ≤ num) (h : x ≤ y) : x * num / den ≤ y * num / den := Int.ediv_le_ediv (by omega) (Int.mul_le_mul_of_nonneg_right h hn)
theorem sl_anti {num den : Int} {x y : Int} (hd : 1 ≤ den) (hn : num ≤ 0) (h : x ≤ y) : y * num / den ≤ x * num / den := Int.ediv_le_ediv (by omega) (Int.mul_le_mul_of_nonpos_right h hn)
theorem sl_min {W num den : Int} (hd : 1 ≤ den) (hW : 1 ≤ W) : minF (slF num den) (W.toNat - 1) = min 0 ((W - 1) * num / den) := by
  have z : (0 : Int) * num / den = 0 := by rw [Int.zero_mul, Int.zero_ediv]
  have e : ((W.toNat - 1 : Nat) : Int) = W - 1 := by omega
  refine minF_eq (fun j hj => ?_) ?_
  · unfold slF
    rcases Int.le_total 0 num with h | h
    · have := sl_mono (x := 0) (y := (j : Int)) hd h (by omega)
      omega
    · have := sl_anti (x := (j : Int)) (y := W - 1) hd h (by omega)
      omega
  · rcases Int.le_total 0 num with h | h
    · have := sl_mono (x := 0) (y := W - 1) hd h (by omega)
      exact ⟨0, by omega, by show (0 : Int) * num / den = _; omega⟩
    · have := sl_anti (x := 0) (y := W - 1) hd h (by omega)
      exact ⟨W.toNat - 1, by omega, by unfold slF; rw [e]; omega⟩
theorem shI_nonneg {W num den x : Int} (hd : 1 ≤ den) (hx : 0 ≤ x) (hx1 : x < W) : 0 ≤ shI W num den x := by
  unfold shI
  have z : (0 : Int) * num / den = 0 := by rw [Int.zero_mul, Int.zero_ediv]
  rcases Int.le_total 0 num with h | h
  · have := sl_mono (x := 0) (y := x) hd h (by omega); omega
  · have := sl_anti (x := x) (y := W - 1) hd h (by omega); omega
def shMax (W num den : Int) : Int := max (shI W num den 0) (shI W num den (W - 1))
theorem shI_le {W num den x : Int} (hd : 1 ≤ den) (hx : 0 ≤ x) (hx1 : x < W) : shI W num den x ≤ shMax W num den := by
  unfold shMax shI
  rcases Int.le_total 0 num with h | h
  · have := sl_mono (x := x) (y := W - 1) hd h (by omega); omega
  · have := sl_anti (x := 0) (y := x) hd h (by omega); omega
theorem sh_max {W num den : Int} (hd : 1 ≤ den) (hW : 1 ≤ W) : maxF (fun x => shI W num den x) (W.toNat - 1) = shMax W num den := by
  refine maxF_eq (fun j hj => shI_le hd (by omega) (by omega)) ?_
  unfold shMax
  by_cases h : shI W num den 0 ≤ shI W num den (W - 1)
  · exact ⟨W.toNat - 1, by omega, by rw [show ((W.toNat - 1 : Nat) : Int) = W - 1 by omega]; omega⟩
  · exact ⟨0, by omega, by show shI W num den 0 = _; omega⟩
theorem prod_bd {x num : Int} (h0 : 0 ≤ x) (h1 : x ≤ 4096) (h2 : -4096 ≤ num) (h3 : num ≤ 4096) : -16777216 ≤ x * num ∧ x * num ≤ 16777216 := by
  have a : x * num ≤ x * 4096 := Int.mul_le_mul_of_nonneg_left h3 h0
  have b : x * (-4096) ≤ x * num := Int.mul_le_mul_of_nonneg_left h2 h0
  omega
theorem sl_bd {x num den : Int} (hd : 1 ≤ den) (h0 : 0 ≤ x) (h1 : x ≤ 4096) (h2 : -4096 ≤ num) (h3 : num ≤ 4096) : -16777216 ≤ x * num / den ∧ x * num / den ≤ 16777216 := by
  have := prod_bd h0 h1 h2 h3
  exact ediv_bd hd (by omega) this.1 this.2
theorem shI_bd {W num den x : Int} (hd : 1 ≤ den) (h0 : 0 ≤ x) (h1 : x < W) (hW : W ≤ 4096) (h2 : -4096 ≤ num) (h3 : num ≤ 4096) : 0 ≤ shI W num den x ∧ shI W num den x ≤ 33554432 := by
  refine ⟨shI_nonneg hd h0 h1, ?_⟩
  unfold shI
  have a := sl_bd hd h0 (by omega) h2 h3
  have b := sl_bd (x := W - 1) hd (by omega) (by omega) h2 h3
  omega
def slopeB (num den : Int) : Bool := decide (1 ≤ den) && decide (den ≤ 4096) && decide (-4096 ≤ num) && decide (num ≤ 4096)
theorem slopeB_iff {num den : Int} : slopeB num den = true ↔ (1 ≤ den ∧ den ≤ 4096 ∧ -4096 ≤ num ∧ num ≤ 4096) := by simp [slopeB, and_assoc]

/-! ### counting by keys -/
/-- how many of the first n have the key y -/
def histN (p : Nat → Bool) (key : Nat → Int) (n : Nat) (y : Int) : Int := sumN (fun j => if p j = true ∧ key j = y then 1 else 0) n
theorem hist_bd {p : Nat → Bool} {key : Nat → Int} {n : Nat} {y : Int} : 0 ≤ histN p key n y ∧ histN p key n y ≤ n := by
  have h := sumN_bd (h := fun j => if p j = true ∧ key j = y then (1 : Int) else 0) (lo := 0) (hi := 1) (L := 0) (R := n) (by omega) (fun k _ _ => by split <;> omega)
  simp [sumN] at h
  unfold histN
  omega
theorem hist_no {p : Nat → Bool} {key : Nat → Int} {i : Nat} {y : Int} (h : p i = false) : histN p key (i + 1) y = histN p key i y := by
  show histN p key i y + (if p i = true ∧ key i = y then 1 else 0) = _
  rw [if_neg (by simp [h])]; omega
theorem hist_yes {p : Nat → Bool} {key : Nat → Int} {i : Nat} {y : Int} (h : p i = true) : histN p key (i + 1) y = histN p key i y + (if key i = y then 1 else 0) := by
  show histN p key i y + (if p i = true ∧ key i = y then 1 else 0) = _
  by_cases e : key i = y
  · rw [if_pos ⟨h, e⟩, if_pos e]
  · rw [if_neg (by simp [e]), if_neg e]
theorem hist_keep {p : Nat → Bool} {key : Nat → Int} {i N : Nat} {f1 : Nat → Int} (h : p i = false) (hI : ∀ y, y < N → f1 y = histN p key i y) : ∀ y, y < N → f1 y = histN p key (i + 1) y := fun y hy => by rw [hI y hy, hist_no h]
theorem hist_step {p : Nat → Bool} {key : Nat → Int} {i N q : Nat} {f1 : Nat → Int} (h : p i = true) (hq : (q : Int) = key i) (hI : ∀ y, y < N → f1 y = histN p key i y) : ∀ y, y < N → upd f1 q (f1 q + 1) y = histN p key (i + 1) y := by
  intro y hy
  rw [hist_yes h]
  by_cases e : y = q
  · subst e
    rw [upd_eq, hI y hy, if_pos hq.symm]
  · rw [upd_ne e, hI y hy, if_neg (by omega)]; omega
theorem sumN_add {h h' : Nat → Int} : ∀ n, sumN h n + sumN h' n = sumN (fun k => h k + h' k) n
  | 0 => rfl
  | n + 1 => by
    have := sumN_add (h := h) (h' := h') n
    show sumN h n + h n + (sumN h' n + h' n) = sumN (fun k => h k + h' k) n + (h n + h' n)
    omega
theorem sum_one {c : Int} : ∀ {N : Nat}, sumN (fun y : Nat => if c = (y : Int) then (1 : Int) else 0) N ≤ 1 ∧ (N ≤ c → sumN (fun y : Nat => if c = (y : Int) then (1 : Int) else 0) N = 0) ∧ 0 ≤ sumN (fun y : Nat => if c = (y : Int) then (1 : Int) else 0) N
  | 0 => ⟨by simp [sumN], fun _ => rfl, by simp [sumN]⟩
  | N + 1 => by
    obtain ⟨h1, h2, h3⟩ := sum_one (c := c) (N := N)
    show sumN _ N + (if c = (N : Int) then (1 : Int) else 0) ≤ 1 ∧ (((N + 1 : Nat) : Int) ≤ c → sumN _ N + (if c = (N : Int) then (1 : Int) else 0) = 0) ∧ 0 ≤ sumN _ N + (if c = (N : Int) then (1 : Int) else 0)
    by_cases e : c = (N : Int)
    · rw [if_pos e, h2 (by omega)]
      exact ⟨by omega, fun h => by push_cast at h; omega, by omega⟩
    · rw [if_neg e]
      exact ⟨by omega, fun h => by push_cast at h; rw [h2 (by omega)]; rfl, by omega⟩
/-- all keys together -/
theorem hist_sum {p : Nat → Bool} {key : Nat → Int} {N : Nat} : ∀ {n : Nat}, sumN (fun y => histN p key n y) N ≤ n
  | 0 => by
    have : sumN (fun y => histN p key 0 y) N = sumN (fun _ => 0) N := sumN_congr fun _ _ => rfl
    rw [this]
    have h := sumN_bd (h := fun _ => (0 : Int)) (lo := 0) (hi := 0) (L := 0) (R := N) (by omega) (fun _ _ _ => by omega)
    simp [sumN] at h
    simp; omega
  | n + 1 => by
    have ih := hist_sum (p := p) (key := key) (N := N) (n := n)
    cases h : p n with
    | false =>
      have : sumN (fun y => histN p key (n + 1) y) N = sumN (fun y => histN p key n y) N := sumN_congr fun y _ => hist_no h
      rw [this]; push_cast; omega
    | true =>
      have e : sumN (fun y => histN p key (n + 1) y) N = sumN (fun y => histN p key n y + (if key n = (y : Int) then 1 else 0)) N := sumN_congr fun y _ => hist_yes h
      rw [e, ← sumN_add]
      have := (sum_one (c := key n) (N := N)).1
      push_cast; omega
theorem sq_sum {h : Nat → Int} {B : Int} (hB : 0 ≤ B) : ∀ {N : Nat}, (∀ y, y < N → 0 ≤ h y ∧ h y ≤ B) → 0 ≤ sumN (fun y => h y * h y) N ∧ sumN (fun y => h y * h y) N ≤ B * sumN h N ∧ 0 ≤ sumN h N
  | 0, _ => by simp [sumN]
  | N + 1, hb => by
    obtain ⟨h1, h2, h3⟩ := sq_sum hB (N := N) (fun y hy => hb y (by omega))
    obtain ⟨a, b⟩ := hb N (by omega)
    have c : h N * h N ≤ B * h N := Int.mul_le_mul_of_nonneg_right b a
    have d : 0 ≤ h N * h N := Int.mul_nonneg a a
    show 0 ≤ sumN _ N + h N * h N ∧ sumN _ N + h N * h N ≤ B * (sumN h N + h N) ∧ 0 ≤ sumN h N + h N
    rw [Int.mul_add]
    omega
/-- the sum of the squares is not great -/
theorem en_bd {p : Nat → Bool} {key : Nat → Int} {n N : Nat} (hn : n ≤ 4194304) : 0 ≤ sumN (fun y => histN p key n y * histN p key n y) N ∧ sumN (fun y => histN p key n y * histN p key n y) N ≤ 17592186044416 := by
  have h := sq_sum (h := fun y => histN p key n y) (B := (n : Int)) (by omega) (N := N) (fun y _ => hist_bd)
  have h2 := hist_sum (p := p) (key := key) (N := N) (n := n)
  refine ⟨h.1, Int.le_trans h.2.1 ?_⟩
  have a : (n : Int) * sumN (fun y => histN p key n y) N ≤ (n : Int) * n := Int.mul_le_mul_of_nonneg_left h2 (by omega)
  have b : (n : Int) * n ≤ 4194304 * 4194304 := Int.mul_le_mul (by omega) (by omega) (by omega) (by omega)
  omega
/-- rows behind the last key are empty -/
theorem hist_zero {p : Nat → Bool} {key : Nat → Int} {y : Int} : ∀ {n : Nat}, (∀ j, j < n → p j = true → key j ≠ y) → histN p key n y = 0
  | 0, _ => rfl
  | n + 1, h => by
    have ih := hist_zero (p := p) (key := key) (y := y) (n := n) (fun j hj => h j (by omega))
    cases hp : p n with
    | false => rw [hist_no hp, ih]
    | true => rw [hist_yes hp, ih, if_neg (h n (by omega) hp)]; rfl
theorem sum_more {h : Nat → Int} {a : Nat} : ∀ {b : Nat}, a ≤ b → (∀ y, a ≤ y → y < b → h y = 0) → sumN h b = sumN h a
  | 0, hab, _ => by have : a = 0 := by omega
                    subst this; rfl
  | b + 1, hab, hz => by
    by_cases e : a = b + 1
    · subst e; rfl
    · show sumN h b + h b = _
      rw [sum_more (b := b) (by omega) (fun y h1 h2 => hz y h1 (by omega)), hz b (by omega) (by omega)]; omega

/-! ### the functions -/
def profR (m : Pm Bool) : (Nat × (Nat → Int)) × Int := if m.vld = true then ((m.H.toNat, fun y : Nat => histN m.f (fun j => (j : Int) / m.W) m.n (y : Int)), 0) else (noL, 1)
theorem profR_ok {W H : Int} {n : Nat} {f : Nat → Bool} (h : vldB W H n = true) : profR ⟨W, H, n, f⟩ = ((H.toNat, fun y : Nat => histN f (fun j => (j : Int) / W) n (y : Int)), 0) := if_pos h
theorem profR_no {W H : Int} {n : Nat} {f : Nat → Bool} (h : vldB W H n = false) : profR ⟨W, H, n, f⟩ = (noL, 1) := if_neg (by simp [Pm.vld, h])
/-- the row to which pixel j is moved -/
def keyI (W num den : Int) (j : Nat) : Int := (j : Int) / W + shI W num den ((j : Int) % W)
def enI (m : Pm Bool) (num den : Int) : Int := sumN (fun y => histN m.f (keyI m.W num den) m.n y * histN m.f (keyI m.W num den) m.n y) (m.H + shMax m.W num den).toNat
def energyR (m : Pm Bool) (num den : Int) : Int × Int := if m.vld = true then (if slopeB num den = true then (enI m num den, 0) else (0, 3)) else (0, 1)
/-- the pixel that comes to j -/
def srcI (W num den : Int) (j : Nat) : Int := ((j : Int) / W - shI W num den ((j : Int) % W)) * W + (j : Int) % W
def shP (W num den : Int) (f : Nat → Bool) (i : Int) (j : Nat) : Bool := decide (0 ≤ srcI W num den j ∧ srcI W num den j < i) && f (srcI W num den j).toNat
def shearR (m : Pm Bool) (num den : Int) : Pm Bool × Int :=
  if m.vld = true then (if slopeB num den = true then (if fitsB m.W (m.H + shMax m.W num den) = true then (⟨m.W, m.H + shMax m.W num den, (m.W * (m.H + shMax m.W num den)).toNat, shP m.W num den m.f m.n⟩, 0) else (noB, 4)) else (noB, 3)) else (noB, 1)
theorem shearR_le {m : Pm Bool} {num den : Int} : (shearR m num den).1.n ≤ 4194304 := by
  unfold shearR
  split
  · split
    · split
      · rename_i h; have := fits_bd h; simp only; omega
      · simp [noB]
    · simp [noB]
  · simp [noB]
theorem shearR_no {W H num den : Int} {n : Nat} {f : Nat → Bool} (h : vldB W H n = false) : shearR ⟨W, H, n, f⟩ num den = (noB, 1) := by simp [shearR, Pm.vld, h]
theorem shearR_range {W H num den : Int} {n : Nat} {f : Nat → Bool} (h : vldB W H n = true) (hs : slopeB num den = false) : shearR ⟨W, H, n, f⟩ num den = (noB, 3) := by simp [shearR, Pm.vld, h, hs]
theorem shearR_long {W H num den : Int} {n : Nat} {f : Nat → Bool} (h : vldB W H n = true) (hs : slopeB num den = true) (hf : fitsB W (H + shMax W num den) = false) : shearR ⟨W, H, n, f⟩ num den = (noB, 4) := by simp [shearR, Pm.vld, h, hs, hf]
theorem shearR_ok {W H num den : Int} {n : Nat} {f : Nat → Bool} (h : vldB W H n = true) (hs : slopeB num den = true) (hf : fitsB W (H + shMax W num den) = true) : shearR ⟨W, H, n, f⟩ num den = (⟨W, H + shMax W num den, (W * (H + shMax W num den)).toNat, shP W num den f n⟩, 0) := by simp [shearR, Pm.vld, h, hs, hf]
theorem energyR_no {W H num den : Int} {n : Nat} {f : Nat → Bool} (h : vldB W H n = false) : energyR ⟨W, H, n, f⟩ num den = (0, 1) := by simp [energyR, Pm.vld, h]
theorem energyR_range {W H num den : Int} {n : Nat} {f : Nat → Bool} (h : vldB W H n = true) (hs : slopeB num den = false) : energyR ⟨W, H, n, f⟩ num den = (0, 3) := by simp [energyR, Pm.vld, h, hs]
theorem energyR_ok {W H num den : Int} {n : Nat} {f : Nat → Bool} (h : vldB W H n = true) (hs : slopeB num den = true) : energyR ⟨W, H, n, f⟩ num den = (enI ⟨W, H, n, f⟩ num den, 0) := by simp [energyR, Pm.vld, h, hs]
theorem shp_new {W num den : Int} {f : Nat → Bool} (j : Nat) : false = shP W num den f ((0 : Nat) : Int) j := by unfold shP; rw [decide_eq_false (by omega)]; rfl
theorem shp_skip {W num den : Int} {f f1 : Nat → Bool} {i N : Nat} (h : f i = false) (hI : ∀ j, j < N → f1 j = shP W num den f i j) : ∀ j, j < N → f1 j = shP W num den f ((i + 1 : Nat) : Int) j := by
  intro j hj
  rw [hI j hj]
  unfold shP
  by_cases e : srcI W num den j = i
  · rw [e]; simp [h]
  · congr 1
    rw [decide_eq_decide]; push_cast; omega
theorem shp_step {W H num den : Int} {n i N q : Nat} {f f1 : Nat → Bool} (hv : vldB W H n = true) (hi : i < n) (h : f i = true) (hq : (q : Int) = keyI W num den i * W + (i : Int) % W) (hI : ∀ j, j < N → f1 j = shP W num den f i j) : ∀ j, j < N → upd f1 q true j = shP W num den f ((i + 1 : Nat) : Int) j := by
  obtain ⟨a, b, c, d, e⟩ := cell_bd hv hi
  have e1 := (dm hq a b).1
  have e2 := (dm hq a b).2
  have es : srcI W num den q = i := by
    unfold srcI
    rw [e1, e2]
    unfold keyI
    rw [show (i : Int) / W + shI W num den ((i : Int) % W) - shI W num den ((i : Int) % W) = (i : Int) / W by omega]
    exact e
  intro j hj
  by_cases hjq : j = q
  · subst hjq
    rw [upd_eq]
    unfold shP
    rw [es, decide_eq_true (by push_cast; omega)]
    simp [h]
  · rw [upd_ne hjq, hI j hj]
    unfold shP
    congr 1
    rw [decide_eq_decide]
    have key : srcI W num den j ≠ i := by
      intro hs
      refine hjq ?_
      have hW : 1 ≤ W := (vldB_iff.1 hv).1
      have m0 := Int.emod_nonneg (j : Int) (show W ≠ 0 by omega)
      have m1 := Int.emod_lt_of_pos (j : Int) (show 0 < W by omega)
      unfold srcI at hs
      have r := dm hs.symm m0 m1
      have hJ := Int.mul_ediv_add_emod (j : Int) W
      rw [Int.mul_comm] at hJ
      have : (j : Int) = q := by
        rw [hq, ← hJ]
        unfold keyI
        rw [r.1, r.2]
        rw [show (j : Int) / W - shI W num den ((j : Int) % W) + shI W num den ((j : Int) % W) = (j : Int) / W by omega]
      omega
    push_cast
    omega
theorem shift_step {W num den : Int} {N x : Nat} {f1 : Nat → Int} {m : Int} (hx : x < N) (hm : m = min 0 ((W - 1) * num / den)) (hI : ∀ j, j < N → f1 j = if (j : Int) < x then shI W num den j else slF num den j) : ∀ j, j < N → upd f1 x (f1 x - m) j = if (j : Int) < ((x + 1 : Nat) : Int) then shI W num den j else slF num den j := by
  intro j hj
  by_cases e : j = x
  · subst e
    rw [upd_eq, hI j hj, if_neg (by omega), if_pos (by push_cast; omega), hm]
    rfl
  · rw [upd_ne e, hI j hj]
    by_cases c : (j : Int) < x
    · rw [if_pos c, if_pos (by push_cast; omega)]
    · rw [if_neg c, if_neg (by push_cast; omega)]
theorem rxs_own {w W : World} {H : List Blk} {er : Int} {g n c : Nat} {e : TypeId} {sp : List Value} {f F : Nat → Int} {p : (Nat × (Nat → Int)) × Int} (i : Nat) (hO : Ow [] w W H) (hi : H[i]? = some ⟨g, e, tab n (iv .i64 f) ++ sp⟩) (hp : p = ((n, F), er)) (hf : ∀ j, j < n → f j = F j) (hc : n ≤ c) :
    ∃ v Hn, Ending.returned (.tuple #[.slice (some ⟨g, 0, none⟩) n c, .int .i64 er]) = .returned v ∧ RXs p v Hn ∧ Ow [] w W Hn := by
  subst hp
  refine ⟨_, _, rfl, ⟨_, c, rfl, hc, ?_⟩, hO.pick i hi⟩
  rw [tabi_ext hf]
  exact rds_own
/-- the count of a row, by keys -/
theorem prof_part {W H : Int} {n : Nat} {f : Nat → Bool} {y : Nat} (hv : vldB W H n = true) : ∀ {k : Nat}, k ≤ n → histN f (fun j => (j : Int) / W) k (y : Int) = rowS (bw f) W y (max 0 (min W ((k : Int) - y * W))).toNat
  | 0, _ => by
    have : 0 ≤ (y : Int) * W := Int.mul_nonneg (by omega) (by have := vldB_iff.1 hv; omega)
    rw [show (max 0 (min W (((0 : Nat) : Int) - y * W))).toNat = 0 by omega]; rfl
  | k + 1, hk => by
    have ih := prof_part (f := f) (y := y) hv (k := k) (by omega)
    obtain ⟨a, b, c, d, e⟩ := cell_bd hv (show k < n by omega)
    have hy0 : 0 ≤ (y : Int) * W := Int.mul_nonneg (by omega) (by omega)
    have hin : (k : Int) / W = y ↔ (0 ≤ (k : Int) - y * W ∧ (k : Int) - y * W < W) := by
      constructor
      · intro h; rw [h] at e; omega
      · rintro ⟨h1, h2⟩
        exact (dm (show (k : Int) = y * W + ((k : Int) - y * W) by omega) h1 h2).1
    by_cases h : (k : Int) / W = y
    · obtain ⟨h1, h2⟩ := hin.1 h
      rw [show (max 0 (min W (((k + 1 : Nat) : Int) - y * W))).toNat = (max 0 (min W ((k : Int) - y * W))).toNat + 1 by push_cast; omega, rowS_succ, ← ih]
      rw [show ((y : Int) * W + (((max 0 (min W ((k : Int) - y * W))).toNat : Nat) : Int)).toNat = k by omega]
      cases hf : f k with
      | false => rw [hist_no hf]; simp [bw, hf]
      | true => rw [hist_yes hf, if_pos h]; simp [bw, hf]
    · have hn := mt hin.2 h
      rw [show (max 0 (min W (((k + 1 : Nat) : Int) - y * W))).toNat = (max 0 (min W ((k : Int) - y * W))).toNat by push_cast; omega, ← ih]
      cases hf : f k with
      | false => rw [hist_no hf]
      | true => rw [hist_yes hf, if_neg h]; omega
theorem prof_row {W H : Int} {n : Nat} {f : Nat → Bool} {y : Nat} (hv : vldB W H n = true) (hy : (y : Int) < H) : histN f (fun j => (j : Int) / W) n (y : Int) = rowS (bw f) W y W.toNat := by
  rw [prof_part hv (Nat.le_refl _)]
  have v := vldB_iff.1 hv
  have := idx_bd (W := W) (H := H) (x := 0) (y := (y : Int)) (by omega) (by omega) (by omega) hy
  rw [show (max 0 (min W ((n : Int) - y * W))).toNat = W.toNat by omega]
theorem mul_rng {W h : Int} (h1 : 1 ≤ W) (h2 : W ≤ 4096) (h3 : 0 ≤ h) (h4 : h ≤ 67108864) : 0 ≤ W * h ∧ W * h ≤ 274877906944 :=
  ⟨Int.mul_nonneg (by omega) h3, Int.le_trans (Int.mul_le_mul h2 h4 h3 (by omega)) (by omega)⟩
/-- a slice that grew, with other contents -/
theorem as_upd {g c n : Nat} {sp : List Value} {f f' : Nat → Int} (h : (AS.at_ g sp c).Ok 1 n (tab n (iv .i64 f))) : (AS.at_ g sp c).Ok 1 n (tab n (iv .i64 f')) := by
  obtain ⟨h1, h2, h3, h4⟩ := h
  exact ⟨h1, h2, by simp, by simpa using h4⟩
theorem hist_all {p : Nat → Bool} {key : Nat → Int} {i q : Nat} {f1 : Nat → Int} (h : p i = true) (hq : (q : Int) = key i) (hI : ∀ y : Nat, f1 y = histN p key i y) : ∀ y : Nat, upd f1 q (f1 q + 1) y = histN p key (i + 1) y :=
  fun y => hist_step (N := y + 1) h hq (fun z _ => hI z) y (by omega)
theorem hist_all0 {p : Nat → Bool} {key : Nat → Int} {i : Nat} {f1 : Nat → Int} (h : p i = false) (hI : ∀ y : Nat, f1 y = histN p key i y) : ∀ y : Nat, f1 y = histN p key (i + 1) y := fun y => by rw [hI y, hist_no h]
theorem upd_zero {f1 : Nat → Int} {q k : Nat} {v : Int} (hq : q < k) (hz : ∀ y, k ≤ y → f1 y = 0) : ∀ y, k ≤ y → upd f1 q v y = 0 := fun y hy => by rw [upd_ne (by omega), hz y hy]
theorem ret_ints {a b a' b' : Int} (h : (a, b) = (a', b')) : Ending.returned (.tuple #[.int .i64 a, .int .i64 b]) = .returned (.tuple #[.int .i64 a', .int .i64 b']) := by
  obtain ⟨rfl, rfl⟩ := Prod.mk.inj h
  rfl

/-! ### estimates -/
def numJ (j : Nat) : Int := if 0 < j ∧ j % 2 = 0 then -(((j + 1) / 2 : Nat) : Int) else (((j + 1) / 2 : Nat) : Int)
theorem numJ_neg {j : Nat} (h : 0 < (j : Int) ∧ (j : Int) % 2 = 0) : numJ j = -(((j : Int) + 1) / 2) := by
  unfold numJ
  rw [if_pos (by omega)]
  omega
theorem numJ_pos {j : Nat} (h : ¬ 0 < (j : Int) ∨ ¬ (j : Int) % 2 = 0) : numJ j = ((j : Int) + 1) / 2 := by
  unfold numJ
  rw [if_neg (by omega)]
  omega
def bst (e : Int → Int) : Nat → Int × Int
  | 0 => (0, -1)
  | j + 1 => if (bst e j).2 < e (numJ j) then (numJ j, e (numJ j)) else bst e j
theorem bst_yes {e : Int → Int} {j : Nat} {q : Int} (hq : q = (bst e j).2) (h : q < e (numJ j)) : numJ j = (bst e (j + 1)).1 ∧ e (numJ j) = (bst e (j + 1)).2 := by
  have : bst e (j + 1) = (numJ j, e (numJ j)) := if_pos (by rw [← hq]; exact h)
  rw [this]; exact ⟨rfl, rfl⟩
theorem bst_no {e : Int → Int} {j : Nat} {q b : Int} (hb : b = (bst e j).1) (hq : q = (bst e j).2) (h : ¬ q < e (numJ j)) : b = (bst e (j + 1)).1 ∧ q = (bst e (j + 1)).2 := by
  have : bst e (j + 1) = bst e j := if_neg (by rw [← hq]; exact h)
  rw [this]; exact ⟨hb, hq⟩
def oddJ (k : Nat) : Nat := 2 * k - 1
theorem est_step {e : Int → Int} {k : Nat} {b q : Int} (hb : b = (bst e (oddJ k)).1) (hq : q = (bst e (oddJ k)).2) :
    bst e (oddJ (k + 1)) = if (if q < e k then e k else q) < e (0 - k) then (0 - (k : Int), e (0 - k)) else if q < e k then ((k : Int), e k) else (b, q) := by
  have pr : bst e (oddJ k) = (b, q) := by rw [hb, hq]
  cases k with
  | zero =>
    have p0 : (b, q) = (0, -1) := pr.symm.trans rfl
    obtain ⟨rfl, rfl⟩ := Prod.mk.inj p0
    show (if (-1 : Int) < e (numJ 0) then (numJ 0, e (numJ 0)) else (0, -1)) = _
    have n0 : numJ 0 = 0 := rfl
    rw [n0]
    show _ = if (if (-1 : Int) < e 0 then e 0 else -1) < e 0 then ((0 : Int), e 0) else if (-1 : Int) < e 0 then ((0 : Int), e 0) else (0, -1)
    by_cases h : (-1 : Int) < e 0
    · rw [if_pos h, if_pos h, if_neg (by omega)]
    · rw [if_neg h, if_neg h, if_neg h]
  | succ k =>
    have o1 : oddJ (k + 1) = 2 * k + 1 := by unfold oddJ; omega
    have o2 : oddJ (k + 1 + 1) = 2 * k + 1 + 1 + 1 := by unfold oddJ; omega
    have m1 : numJ (2 * k + 1) = ((k + 1 : Nat) : Int) := by unfold numJ; rw [if_neg (by omega)]; omega
    have m2 : numJ (2 * k + 1 + 1) = 0 - ((k + 1 : Nat) : Int) := by unfold numJ; rw [if_pos (by omega)]; omega
    rw [o1] at pr
    rw [o2]
    have s1 : bst e (2 * k + 1 + 1) = if q < e ((k + 1 : Nat) : Int) then (((k + 1 : Nat) : Int), e ((k + 1 : Nat) : Int)) else (b, q) := by
      show (if (bst e (2 * k + 1)).2 < e (numJ (2 * k + 1)) then (numJ (2 * k + 1), e (numJ (2 * k + 1))) else bst e (2 * k + 1)) = _
      rw [pr, m1]
    show (if (bst e (2 * k + 1 + 1)).2 < e (numJ (2 * k + 1 + 1)) then (numJ (2 * k + 1 + 1), e (numJ (2 * k + 1 + 1))) else bst e (2 * k + 1 + 1)) = _
    rw [s1, m2]
    by_cases h : q < e ((k + 1 : Nat) : Int)
    · simp only [if_pos h]
    · simp only [if_neg h]
def estR (m : Pm Bool) (most den : Int) : Int × Int :=
  if m.vld = true then (if 0 ≤ most ∧ most ≤ 256 ∧ 1 ≤ den ∧ den ≤ 4096 then ((bst (fun k => enI m k den) (2 * most.toNat + 1)).1, 0) else (0, 3)) else (0, 1)
theorem estR_no {W H most den : Int} {n : Nat} {f : Nat → Bool} (h : vldB W H n = false) : estR ⟨W, H, n, f⟩ most den = (0, 1) := by simp [estR, Pm.vld, h]
theorem estR_range {W H most den : Int} {n : Nat} {f : Nat → Bool} (h : vldB W H n = true) (hs : ¬ (0 ≤ most ∧ most ≤ 256 ∧ 1 ≤ den ∧ den ≤ 4096)) : estR ⟨W, H, n, f⟩ most den = (0, 3) := by unfold estR; rw [if_pos (by exact h), if_neg hs]
theorem estR_ok {W H most den : Int} {n : Nat} {f : Nat → Bool} (h : vldB W H n = true) (hs : 0 ≤ most ∧ most ≤ 256 ∧ 1 ≤ den ∧ den ≤ 4096) : estR ⟨W, H, n, f⟩ most den = ((bst (fun k => enI ⟨W, H, n, f⟩ k den) (2 * most.toNat + 1)).1, 0) := by unfold estR; rw [if_pos (by exact h), if_pos hs]
def deskR (m : Pm Bool) (most den : Int) : Pm Bool × (Int × Int) :=
  if (estR m most den).2 ≠ 0 then (noB, 0, (estR m most den).2) else if (shearR m (estR m most den).1 den).2 ≠ 0 then (noB, 0, (shearR m (estR m most den).1 den).2) else ((shearR m (estR m most den).1 den).1, (estR m most den).1, 0)
theorem deskR_le {m : Pm Bool} {most den : Int} : (deskR m most den).1.n ≤ 4194304 := by
  unfold deskR
  split
  · simp [noB]
  · split
    · simp [noB]
    · exact shearR_le
theorem deskR_e {m : Pm Bool} {most den : Int} (h : (estR m most den).2 ≠ 0) : deskR m most den = (noB, 0, (estR m most den).2) := if_pos h
theorem deskR_s {m : Pm Bool} {most den : Int} (h : ¬ (estR m most den).2 ≠ 0) (h2 : (shearR m (estR m most den).1 den).2 ≠ 0) : deskR m most den = (noB, 0, (shearR m (estR m most den).1 den).2) := by unfold deskR; rw [if_neg h, if_pos h2]
theorem deskR_ok {m : Pm Bool} {most den : Int} (h : ¬ (estR m most den).2 ≠ 0) (h2 : ¬ (shearR m (estR m most den).1 den).2 ≠ 0) : deskR m most den = ((shearR m (estR m most den).1 den).1, (estR m most den).1, 0) := by unfold deskR; rw [if_neg h, if_neg h2]
def RX3 (p : Pm Bool × (Int × Int)) (v : Value) (S : List Blk) : Prop :=
  ∃ A c, v = .tuple #[.agg #[.int .i64 p.1.W, .int .i64 p.1.H, .slice A p.1.n c], .int .i64 p.2.1, .int .i64 p.2.2] ∧ p.1.n ≤ c ∧ Rds S A (tab p.1.n (bv p.1.f))
theorem rx3_nil {w W : World} {H : List Blk} {er x : Int} {p : Pm Bool × (Int × Int)} (hO : Ow [] w W H) (hp : p = (noB, x, er)) :
    ∃ v Hn, Ending.returned (.tuple #[.agg #[.int .i64 0, .int .i64 0, .slice none 0 0], .int .i64 x, .int .i64 er]) = .returned v ∧ RX3 p v Hn ∧ Ow [] w W Hn := by
  subst hp
  exact ⟨_, [], rfl, ⟨none, 0, rfl, Nat.le_refl _, rds_nil⟩, hO.sub (List.nil_sublist _)⟩
theorem rx3_give {w W : World} {c : Nat} {S : List Blk} {er x : Int} {A : Option Addr} {m : Pm Bool} {p : Pm Bool × (Int × Int)} (hO : Ow [] w W S) (hk : m.n ≤ c) (hS : Rds S A (tab m.n (bv m.f))) (hp : p = (m, x, er)) :
    ∃ v Hn, Ending.returned (.tuple #[.agg #[.int .i64 m.W, .int .i64 m.H, .slice A m.n c], .int .i64 x, .int .i64 er]) = .returned v ∧ RX3 p v Hn ∧ Ow [] w W Hn := by
  subst hp
  exact ⟨_, S, rfl, ⟨A, c, rfl, hk, hS⟩, hO⟩

/-! ### bitmaps of strings -/
def RMb (p : Pm Bool) (v : Value) (S : List Blk) : Prop :=
  ∃ A c, v = .agg #[.int .i64 p.W, .int .i64 p.H, .slice A p.n c] ∧ p.n ≤ c ∧ Rds S A (tab p.n (bv p.f))
def strB (W H : Int) (s : ByteArray) : Pm Bool := ⟨W, H, s.size, fun i => decide (byI s i = 49)⟩
theorem rmb_as {w W : World} {H : List Blk} {a h : Int} {e : TypeId} {s : AS} {k : Nat} {F : Nat → Bool} {p : Pm Bool} (i : Nat) (hO : Ow [] w W H) (hH : H.drop i = s.blks e (tab k (bv F))) (hs : s.Ok 1 k (tab k (bv F))) (hp : p = ⟨a, h, k, F⟩) :
    ∃ v Hn, Ending.returned (.agg #[.int .i64 a, .int .i64 h, s.val k]) = .returned v ∧ RMb p v Hn ∧ Ow [] w W Hn := by
  subst hp
  exact ⟨_, s.blks e (tab k (bv F)), rfl, ⟨s.adr, s.cap, by rw [AS.val_eq hs], as_le hs, rds_as hs⟩, hO.tl i hH (List.Sublist.refl _)⟩
theorem est_yy {e : Int → Int} {k : Nat} {b q x y : Int} (hb : b = (bst e (oddJ k)).1) (hq : q = (bst e (oddJ k)).2) (h1 : x = e (k : Int)) (h2 : y = e (0 - (k : Int))) (h3 : q < x) (h4 : x < y) : 0 - (k : Int) = (bst e (oddJ (k + 1))).1 ∧ y = (bst e (oddJ (k + 1))).2 := by
  subst h1; subst h2
  have st := est_step (e := e) hb hq
  rw [if_pos h3, if_pos h4] at st
  rw [st]; exact ⟨rfl, rfl⟩
theorem est_yn {e : Int → Int} {k : Nat} {b q x y : Int} (hb : b = (bst e (oddJ k)).1) (hq : q = (bst e (oddJ k)).2) (h1 : x = e (k : Int)) (h2 : y = e (0 - (k : Int))) (h3 : q < x) (h4 : ¬ x < y) : (k : Int) = (bst e (oddJ (k + 1))).1 ∧ x = (bst e (oddJ (k + 1))).2 := by
  subst h1; subst h2
  have st := est_step (e := e) hb hq
  rw [if_pos h3, if_neg h4, if_pos h3] at st
  rw [st]; exact ⟨rfl, rfl⟩
theorem est_ny {e : Int → Int} {k : Nat} {b q x y : Int} (hb : b = (bst e (oddJ k)).1) (hq : q = (bst e (oddJ k)).2) (h1 : x = e (k : Int)) (h2 : y = e (0 - (k : Int))) (h3 : ¬ q < x) (h4 : q < y) : 0 - (k : Int) = (bst e (oddJ (k + 1))).1 ∧ y = (bst e (oddJ (k + 1))).2 := by
  subst h1; subst h2
  have st := est_step (e := e) hb hq
  rw [if_neg h3, if_pos h4] at st
  rw [st]; exact ⟨rfl, rfl⟩
theorem est_nn {e : Int → Int} {k : Nat} {b q x y : Int} (hb : b = (bst e (oddJ k)).1) (hq : q = (bst e (oddJ k)).2) (h1 : x = e (k : Int)) (h2 : y = e (0 - (k : Int))) (h3 : ¬ q < x) (h4 : ¬ q < y) : b = (bst e (oddJ (k + 1))).1 ∧ q = (bst e (oddJ (k + 1))).2 := by
  subst h1; subst h2
  have st := est_step (e := e) hb hq
  rw [if_neg h3, if_neg h4, if_neg h3] at st
  rw [st]; exact ⟨rfl, rfl⟩
theorem profR_le {m : Pm Bool} : (profR m).1.1 ≤ 4096 := by
  unfold profR
  split
  · rename_i h
    have := vldB_iff.1 h
    simp only; omega
  · simp [noL]
def wideB (W num den : Int) : Bool := ((((((decide (0 < den) && decide (den ≤ 4096)) && decide ((-4096) ≤ num)) && decide (num ≤ 4096)) && decide (0 < W)) && decide (W ≤ 1500)) && ((decide (0 < num) && decide (60 < ((num * W) / den))) || (decide (num < 0) && decide (60 < (((0 - num) * W) / den)))))
end Go.Bs
