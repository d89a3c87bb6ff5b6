/-
  Laws of package skew, in plain Lean. No program is named here.
-/
import Derived.Test.YtmgkpdpmjhgekaaSk
namespace Go.Bs
open Go.RowKit Go.Eng

/-! ### the greatest energy -/
theorem bst_spec {e : Int → Int} (he : ∀ k, 0 ≤ e k) : ∀ {J : Nat}, 1 ≤ J → ∃ i, i < J ∧ bst e J = (numJ i, e (numJ i)) ∧ (∀ j, j < J → e (numJ j) ≤ e (numJ i)) ∧ (∀ j, j < i → e (numJ j) < e (numJ i))
  | 0, h => by omega
  | 1, _ => by
    refine ⟨0, by omega, ?_, fun j hj => ?_, fun j hj => by omega⟩
    · show (if (-1 : Int) < e (numJ 0) then (numJ 0, e (numJ 0)) else (0, -1)) = _
      rw [if_pos (by have := he (numJ 0); omega)]
    · have : j = 0 := by omega
      subst this; exact Int.le_refl _
  | J + 2, _ => by
    obtain ⟨i, h1, h2, h3, h4⟩ := bst_spec he (J := J + 1) (by omega)
    have st : bst e (J + 2) = if (bst e (J + 1)).2 < e (numJ (J + 1)) then (numJ (J + 1), e (numJ (J + 1))) else bst e (J + 1) := rfl
    rw [h2] at st
    by_cases c : e (numJ i) < e (numJ (J + 1))
    · rw [if_pos c] at st
      refine ⟨J + 1, by omega, st, fun j hj => ?_, fun j hj => ?_⟩
      · by_cases ej : j = J + 1
        · subst ej; exact Int.le_refl _
        · have := h3 j (by omega); omega
      · have := h3 j (by omega); omega
    · rw [if_neg c] at st
      refine ⟨i, by omega, st, fun j hj => ?_, h4⟩
      by_cases ej : j = J + 1
      · subst ej; omega
      · exact h3 j (by omega)
theorem numJ_all {j : Nat} : (j % 2 = 1 → numJ j = (((j + 1) / 2 : Nat) : Int)) ∧ (j % 2 = 0 → numJ j = -(((j / 2 : Nat)) : Int)) := by
  unfold numJ
  constructor
  · intro h; rw [if_neg (by omega)]
  · intro h
    by_cases c : 0 < j
    · rw [if_pos ⟨c, h⟩]; omega
    · rw [if_neg (by omega)]; omega
theorem est_max {e : Int → Int} (he : ∀ k, 0 ≤ e k) {K : Nat} {n b : Int} (hb : b = (bst e (2 * K + 1)).1) (h1 : -(K : Int) ≤ n) (h2 : n ≤ K) :
    -(K : Int) ≤ b ∧ b ≤ K ∧ e n ≤ e b ∧ (e n < e b ∨ max b (0 - b) < max n (0 - n) ∨ n = b ∨ (n = 0 - b ∧ 0 < b)) := by
  obtain ⟨i, i1, i2, i3, i4⟩ := bst_spec he (J := 2 * K + 1) (by omega)
  rw [i2] at hb
  simp only at hb
  subst hb
  have ni := numJ_all (j := i)
  obtain ⟨j, hj, ej⟩ : ∃ j, j < 2 * K + 1 ∧ numJ j = n := by
    by_cases c : 0 < n
    · refine ⟨2 * n.toNat - 1, by omega, ?_⟩
      rw [numJ_all.1 (by omega)]; omega
    · refine ⟨2 * (-n).toNat, by omega, ?_⟩
      rw [numJ_all.2 (by omega)]; omega
  have nj := numJ_all (j := j)
  have g := i3 j hj
  rw [ej] at g
  refine ⟨?_, ?_, g, ?_⟩
  · rcases Nat.mod_two_eq_zero_or_one i with h | h
    · rw [ni.2 h]; omega
    · rw [ni.1 h]; omega
  · rcases Nat.mod_two_eq_zero_or_one i with h | h
    · rw [ni.2 h]; omega
    · rw [ni.1 h]; omega
  · by_cases lt : j < i
    · left; have := i4 j lt; rwa [ej] at this
    · right
      rw [← ej]
      rcases Nat.mod_two_eq_zero_or_one i with h | h <;> rcases Nat.mod_two_eq_zero_or_one j with h' | h'
      · rw [ni.2 h, nj.2 h']; omega
      · rw [ni.2 h, nj.1 h']; omega
      · rw [ni.1 h, nj.2 h']; omega
      · rw [ni.1 h, nj.1 h']; omega
theorem enI_nn {m : Pm Bool} {num den : Int} (hn : m.n ≤ 4194304) : 0 ≤ enI m num den := (en_bd hn).1

/-! ### what a shear keeps -/
theorem hist_upd {p : Nat → Bool} {key : Nat → Int} {q : Nat} {y : Int} (hp : p q = false) : ∀ {N : Nat}, histN (upd p q true) key N y = histN p key N y + (if q < N ∧ key q = y then 1 else 0)
  | 0 => by simp [histN, sumN]
  | N + 1 => by
    have ih := hist_upd (p := p) (key := key) (q := q) (y := y) hp (N := N)
    by_cases e : N = q
    · subst e
      rw [if_neg (by omega)] at ih
      rw [hist_yes upd_eq, ih, hist_no hp]
      by_cases c : key N = y
      · rw [if_pos c, if_pos ⟨by omega, c⟩]
        omega
      · rw [if_neg c, if_neg (by simp [c])]
        omega
    · have hu : upd p q true N = p N := upd_ne e
      have hc : (q < N + 1 ∧ key q = y) ↔ (q < N ∧ key q = y) := by omega
      cases hN : p N with
      | false => rw [hist_no (by rw [hu, hN]), hist_no hN, ih]; simp only [hc]
      | true => rw [hist_yes (by rw [hu, hN]), hist_yes hN, ih]; simp only [hc]; omega
theorem hist_congr {p p' : Nat → Bool} {key : Nat → Int} {y : Int} {N : Nat} (h : ∀ j, j < N → p j = p' j) : histN p key N y = histN p' key N y := sumN_congr fun j hj => by rw [h j hj]
theorem hist_key {p : Nat → Bool} {key key' : Nat → Int} {y : Int} {N : Nat} (h : ∀ j, j < N → key j = key' j) : histN p key N y = histN p key' N y := sumN_congr fun j hj => by rw [h j hj]
theorem maximal {W H d n K b : Int} {N : Nat} {f : Nat → Bool} (hv : vldB W H N = true) (k0 : 0 ≤ K) (k1 : K ≤ 20) (d0 : 1 ≤ d) (d1 : d ≤ 4096) (h1 : -K ≤ n) (h2 : n ≤ K) (hb : b = (estR ⟨W, H, N, f⟩ K d).1) :
    (estR ⟨W, H, N, f⟩ K d).2 = 0 ∧ (energyR ⟨W, H, N, f⟩ b d).2 = 0 ∧ (energyR ⟨W, H, N, f⟩ n d).2 = 0 ∧ -K ≤ b ∧ b ≤ K ∧ (energyR ⟨W, H, N, f⟩ n d).1 ≤ (energyR ⟨W, H, N, f⟩ b d).1 ∧
      ((energyR ⟨W, H, N, f⟩ n d).1 < (energyR ⟨W, H, N, f⟩ b d).1 ∨ max b (0 - b) < max n (0 - n) ∨ n = b ∨ (n = 0 - b ∧ 0 < b)) := by
  have v := vldB_iff.1 hv
  have e := estR_ok (W := W) (H := H) (f := f) (most := K) (den := d) hv ⟨k0, by omega, d0, d1⟩
  rw [e] at hb
  simp only at hb
  have m := est_max (e := fun k => enI ⟨W, H, N, f⟩ k d) (fun k => enI_nn (by simp only; omega)) (K := K.toNat) (n := n) hb (by omega) (by omega)
  rw [e, energyR_ok hv (slopeB_iff.2 ⟨d0, d1, by omega, by omega⟩), energyR_ok hv (slopeB_iff.2 ⟨d0, d1, by omega, by omega⟩)]
  exact ⟨rfl, rfl, rfl, by omega, by omega, m.2.2.1, m.2.2.2⟩

/-! ### the pixels of a shear -/
def phiN (W num den : Int) (i : Nat) : Nat := (keyI W num den i * W + (i : Int) % W).toNat
theorem phi_spec {W H num den : Int} {n i : Nat} (hv : vldB W H n = true) (hd : 1 ≤ den) (hi : i < n) :
    (phiN W num den i : Int) = keyI W num den i * W + (i : Int) % W ∧ phiN W num den i < (W * (H + shMax W num den)).toNat ∧ ((phiN W num den i : Nat) : Int) / W = keyI W num den i ∧ ((phiN W num den i : Nat) : Int) % W = (i : Int) % W ∧ 0 ≤ keyI W num den i := by
  obtain ⟨a, b, c, d, e⟩ := cell_bd hv hi
  have s0 := shI_nonneg (num := num) hd a b
  have s1 := shI_le (num := num) hd a b
  have k0 : 0 ≤ keyI W num den i := by unfold keyI; omega
  have k1 : keyI W num den i < H + shMax W num den := by unfold keyI; omega
  have ix := idx_bd a b k0 k1
  have q : (phiN W num den i : Int) = keyI W num den i * W + (i : Int) % W := by unfold phiN; omega
  have r := dm q a b
  exact ⟨q, by omega, r.1, r.2, k0⟩
theorem shP_new {W num den : Int} {f : Nat → Bool} {q i : Nat} (h : srcI W num den q = i) : shP W num den f i q = false := by
  unfold shP
  rw [h, decide_eq_false (by omega)]; rfl
theorem src_phi {W H num den : Int} {n i : Nat} (hv : vldB W H n = true) (hd : 1 ≤ den) (hi : i < n) : srcI W num den (phiN W num den i) = i := by
  obtain ⟨_, _, h1, h2, _⟩ := phi_spec (num := num) hv hd hi
  unfold srcI
  rw [h1, h2]
  unfold keyI
  rw [show (i : Int) / W + shI W num den ((i : Int) % W) - shI W num den ((i : Int) % W) = (i : Int) / W by omega]
  exact (cell_bd hv hi).2.2.2.2
/-- counting the pixels of a shear by keys -/
theorem shear_hist {W H num den : Int} {n : Nat} {f : Nat → Bool} {key : Nat → Int} {y : Int} (hv : vldB W H n = true) (hd : 1 ≤ den) : ∀ {i : Nat}, i ≤ n →
    histN (shP W num den f i) key (W * (H + shMax W num den)).toNat y = histN f (fun j => key (phiN W num den j)) i y
  | 0, _ => by
    refine hist_zero fun j _ hj => ?_
    rw [← shp_new j] at hj
    cases hj
  | i + 1, hi => by
    have ih := shear_hist (num := num) (f := f) (key := key) (y := y) hv hd (i := i) (by omega)
    cases hf : f i with
    | false =>
      rw [hist_no hf, ← ih]
      exact hist_congr fun j hj => (shp_skip (N := j + 1) hf (fun k _ => rfl) j (by omega)).symm
    | true =>
      obtain ⟨p1, p2, _, _, _⟩ := phi_spec (num := num) hv hd (show i < n by omega)
      have st : ∀ j, upd (shP W num den f i) (phiN W num den i) true j = shP W num den f ((i + 1 : Nat) : Int) j := fun j => shp_step (N := j + 1) hv (by omega) hf p1 (fun k _ => rfl) j (by omega)
      rw [hist_yes hf, ← ih]
      rw [← hist_congr (fun j _ => st j), hist_upd (shP_new (src_phi hv hd (by omega)))]
      by_cases c : key (phiN W num den i) = y
      · rw [if_pos ⟨p2, c⟩, if_pos c]
      · rw [if_neg (by simp [c]), if_neg c]
/-- the profile of a shear -/
theorem shear_prof {W H num den : Int} {n : Nat} {f : Nat → Bool} {y : Int} (hv : vldB W H n = true) (hd : 1 ≤ den) :
    histN (shP W num den f n) (fun j => (j : Int) / W) (W * (H + shMax W num den)).toNat y = histN f (keyI W num den) n y := by
  rw [shear_hist hv hd (Nat.le_refl n)]
  exact hist_key fun j hj => (phi_spec hv hd hj).2.2.1
theorem shear_col {W H num den : Int} {n : Nat} {f : Nat → Bool} {x : Int} (hv : vldB W H n = true) (hd : 1 ≤ den) :
    histN (shP W num den f n) (fun j => (j : Int) % W) (W * (H + shMax W num den)).toNat x = histN f (fun j => (j : Int) % W) n x := by
  rw [shear_hist hv hd (Nat.le_refl n)]
  exact hist_key fun j hj => (phi_spec hv hd hj).2.2.2.1
/-- the dark pixels of column x in the first k rows -/
def colS (W H : Int) (n : Nat) (f : Nat → Bool) (x : Int) (k : Nat) : Int := sumN (fun y => if atB W H n f x (y : Int) = true then 1 else 0) k
theorem colS_succ {W H : Int} {n : Nat} {f : Nat → Bool} {x : Int} {k : Nat} : colS W H n f x (k + 1) = colS W H n f x k + (if atB W H n f x (k : Int) = true then 1 else 0) := rfl
theorem colS_bd {W H : Int} {n : Nat} {f : Nat → Bool} {x : Int} : ∀ {k : Nat}, 0 ≤ colS W H n f x k ∧ colS W H n f x k ≤ k
  | 0 => by simp [colS, sumN]
  | k + 1 => by
    have := colS_bd (W := W) (H := H) (n := n) (f := f) (x := x) (k := k)
    rw [colS_succ]
    split <;> omega
theorem col_row {W : Int} {f : Nat → Bool} {x y : Nat} (hx : (x : Int) < W) : ∀ {t : Nat}, (t : Int) ≤ W →
    histN f (fun j => (j : Int) % W) (((y : Int) * W).toNat + t) x = histN f (fun j => (j : Int) % W) ((y : Int) * W).toNat x + (if x < t ∧ f ((y : Int) * W + x).toNat = true then 1 else 0)
  | 0, _ => by rw [if_neg (by omega)]; simp
  | t + 1, ht => by
    have ih := col_row (f := f) (y := y) hx (t := t) (by omega)
    have y0 : 0 ≤ (y : Int) * W := Int.mul_nonneg (by omega) (by omega)
    have r := dm (show ((((y : Int) * W).toNat + t : Nat) : Int) = (y : Int) * W + t by omega) (by omega) (show (t : Int) < W by omega)
    rw [show ((y : Int) * W).toNat + (t + 1) = ((y : Int) * W).toNat + t + 1 by omega]
    by_cases e : x = t
    · subst e
      rw [if_neg (by omega)] at ih
      have fe : ((y : Int) * W + x).toNat = ((y : Int) * W).toNat + x := by omega
      rw [fe]
      cases hf : f (((y : Int) * W).toNat + x) with
      | false => rw [hist_no hf, ih, if_neg (by simp)]
      | true => rw [hist_yes hf, ih, if_pos r.2, if_pos ⟨by omega, rfl⟩]; omega
    · have hc : (x < t + 1 ∧ f ((y : Int) * W + x).toNat = true) ↔ (x < t ∧ f ((y : Int) * W + x).toNat = true) := and_congr_left' (by omega)
      cases hf : f (((y : Int) * W).toNat + t) with
      | false => rw [hist_no hf, ih]; simp only [hc]
      | true =>
        have hk : ¬ ((((y : Int) * W).toNat + t : Nat) : Int) % W = (x : Int) := by rw [r.2]; omega
        rw [hist_yes hf, ih, if_neg hk]; simp only [hc]; omega
theorem col_part {W H : Int} {n : Nat} {f : Nat → Bool} {x : Nat} (hv : vldB W H n = true) (hx : (x : Int) < W) : ∀ {k : Nat}, (k : Int) ≤ H → colS W H n f x k = histN f (fun j => (j : Int) % W) ((k : Int) * W).toNat x
  | 0, _ => by simp [colS, sumN, histN]
  | k + 1, hk => by
    have ih := col_part (f := f) hv hx (k := k) (by omega)
    have y0 : 0 ≤ (k : Int) * W := Int.mul_nonneg (by omega) (by omega)
    have e : (((k + 1 : Nat) : Int) * W).toNat = ((k : Int) * W).toNat + W.toNat := by push_cast; rw [add1_mul]; omega
    rw [colS_succ, ih, e, col_row hx (by omega), at_in hv (by omega) hx (by omega) (by omega)]
    by_cases c : f ((k : Int) * W + (x : Int)).toNat = true
    · rw [if_pos c, if_pos ⟨by omega, c⟩]
    · rw [if_neg c, if_neg (by simp [c])]
theorem col_hist {W H : Int} {n : Nat} {f : Nat → Bool} {x : Nat} (hv : vldB W H n = true) (hx : (x : Int) < W) : colS W H n f x H.toNat = histN f (fun j => (j : Int) % W) n x := by
  have v := vldB_iff.1 hv
  rw [col_part hv hx (by omega)]
  congr 1
  have : ((H.toNat : Nat) : Int) = H := by omega
  rw [this, Int.mul_comm]; omega

/-! ### flat slopes, and short ones -/
theorem shI_zero {W d x : Int} : shI W 0 d x = 0 := by unfold shI; simp
theorem shMax_zero {W d : Int} : shMax W 0 d = 0 := by unfold shMax; rw [shI_zero, shI_zero]; rfl
theorem shear_flat {W H d : Int} {n : Nat} {f : Nat → Bool} (hv : vldB W H n = true) (h0 : 1 ≤ d) (h1 : d ≤ 4096) : (shearR ⟨W, H, n, f⟩ 0 d).2 = 0 ∧ eqP (shearR ⟨W, H, n, f⟩ 0 d).1 ⟨W, H, n, f⟩ = true := by
  have v := vldB_iff.1 hv
  have hf : fitsB W (H + shMax W 0 d) = true := by rw [shMax_zero]; exact fitsB_iff.2 (by simp only [Int.add_zero]; omega)
  rw [shearR_ok hv (slopeB_iff.2 ⟨h0, h1, by omega, by omega⟩) hf]
  refine ⟨rfl, eqP_yes rfl (by simp only [shMax_zero]; omega) (by simp only [shMax_zero, Int.add_zero]; omega) fun i hi => ?_⟩
  simp only [shMax_zero, Int.add_zero] at hi ⊢
  have c := cell_bd hv (show i < n by omega)
  unfold shP srcI
  rw [shI_zero, Int.sub_zero, c.2.2.2.2, decide_eq_true (by omega)]
  simp
theorem shMax_le {W num den : Int} (hd : 1 ≤ den) (hW : 1 ≤ W) (h : ¬ 300 < W * max num (0 - num) / den) : shMax W num den ≤ 301 := by
  have z : (0 : Int) * num / den = 0 := by rw [Int.zero_mul, Int.zero_ediv]
  have lt : W * max num (0 - num) < 301 * den := by
    have := Int.lt_mul_of_ediv_lt (a := W * max num (0 - num)) (b := 301) (c := den) (by omega) (by omega)
    exact this
  unfold shMax shI
  rw [z]
  rcases Int.le_total 0 num with c | c
  · rw [show max num (0 - num) = num by omega] at lt
    have m1 := sl_mono (x := 0) (y := W - 1) (num := num) hd c (by omega)
    have a : (W - 1) * num ≤ W * num := Int.mul_le_mul_of_nonneg_right (by omega) c
    have b : (W - 1) * num / den < 301 := Int.ediv_lt_of_lt_mul (by omega) (by omega)
    omega
  · rw [show max num (0 - num) = 0 - num by omega] at lt
    have m1 := sl_anti (x := 0) (y := W - 1) (num := num) hd c (by omega)
    have a : (W - 1) * (0 - num) ≤ W * (0 - num) := Int.mul_le_mul_of_nonneg_right (by omega) (by omega)
    have e : (W - 1) * (0 - num) = -((W - 1) * num) := by rw [Int.zero_sub, Int.mul_neg]
    have b : -301 ≤ (W - 1) * num / den := Int.le_ediv_of_mul_le (by omega) (by omega)
    omega
theorem shMax_nn {W num den : Int} (hd : 1 ≤ den) (hW : 1 ≤ W) : 0 ≤ shMax W num den :=
  Int.le_trans (shI_nonneg (x := 0) hd (by omega) (by omega)) (shI_le (x := 0) hd (by omega) (by omega))
theorem keeps_fit {W H num den : Int} {n : Nat} (hv : vldB W H n = true) (hn : (n : Int) ≤ 1500) (h0 : 0 ≤ shMax W num den) (h1 : shMax W num den ≤ 301) :
    fitsB W (H + shMax W num den) = true ∧ vldB W (H + shMax W num den) (W * (H + shMax W num den)).toNat = true := by
  have v := vldB_iff.1 hv
  have a : W * 1 ≤ W * H := Int.mul_le_mul_of_nonneg_left (by omega) (by omega)
  have a2 : 1 * H ≤ W * H := Int.mul_le_mul_of_nonneg_right (by omega) (by omega)
  have b : W * shMax W num den ≤ 1500 * 301 := Int.mul_le_mul (by omega) h1 h0 (by omega)
  have b0 : 0 ≤ W * shMax W num den := Int.mul_nonneg (by omega) h0
  have e : W * (H + shMax W num den) = W * H + W * shMax W num den := Int.mul_add _ _ _
  exact ⟨fitsB_iff.2 (by omega), vldB_iff.2 (by omega)⟩
end Go.Bs
