/-
  Rendered modules: how many pixels are dark (plain laws). No program is named here.
-/
import Derived.Test.YtibooikbbcilcaaRe
namespace Go.Bs
open Go.RowKit Go.Eng

theorem sumN_cat {g : Nat → Int} {a : Nat} : ∀ b : Nat, sumN g (a + b) = sumN g a + sumN (fun k => g (a + k)) b
  | 0 => by simp [sumN]
  | b + 1 => by
    show sumN g (a + b) + g (a + b) = _
    rw [sumN_cat b]
    show _ = sumN g a + (sumN (fun k => g (a + k)) b + g (a + b))
    omega
theorem sumN_mulc {h : Nat → Int} {c : Int} : ∀ n : Nat, sumN (fun k => c * h k) n = c * sumN h n
  | 0 => by simp [sumN]
  | n + 1 => by
    show sumN (fun k => c * h k) n + c * h n = c * (sumN h n + h n)
    rw [sumN_mulc n, Int.mul_add]
theorem sumN_zero : ∀ n : Nat, sumN (fun _ => (0 : Int)) n = 0
  | 0 => rfl
  | n + 1 => by show sumN (fun _ => (0 : Int)) n + 0 = 0; rw [sumN_zero n]; rfl
theorem sumN_plus {h h' : Nat → Int} : ∀ n : Nat, sumN (fun k => h k + h' k) n = sumN h n + sumN h' n
  | 0 => rfl
  | n + 1 => by
    show sumN (fun k => h k + h' k) n + (h n + h' n) = sumN h n + h n + (sumN h' n + h' n)
    rw [sumN_plus n]; omega
theorem range_cnt {a s : Int} (ha : 0 ≤ a) (hs : 0 ≤ s) : ∀ n : Nat, sumN (fun x : Nat => if a ≤ (x : Int) ∧ (x : Int) < a + s then (1 : Int) else 0) n = max 0 (min (n : Int) (a + s) - a)
  | 0 => by show (0 : Int) = _; omega
  | n + 1 => by
    show sumN (fun x : Nat => if a ≤ (x : Int) ∧ (x : Int) < a + s then (1 : Int) else 0) n + (if a ≤ (n : Int) ∧ (n : Int) < a + s then (1 : Int) else 0) = _
    rw [range_cnt ha hs n]
    split <;> (push_cast; omega)
/-- the number of places in a rectangle -/
theorem rect_cnt {W a b s t : Int} {w : Nat} (hw : (w : Int) = W) (hW : 1 ≤ W) (ha : 0 ≤ a) (hs : 0 ≤ s) (hat : a + s ≤ W) : ∀ y : Nat,
    sumN (fun j : Nat => if a ≤ (j : Int) % W ∧ (j : Int) % W < a + s ∧ b ≤ (j : Int) / W ∧ (j : Int) / W < b + t then (1 : Int) else 0) (y * w) = s * sumN (fun x : Nat => if b ≤ (x : Int) ∧ (x : Int) < b + t then (1 : Int) else 0) y
  | 0 => by simp [sumN]
  | y + 1 => by
    rw [Nat.succ_mul, sumN_cat, rect_cnt hw hW ha hs hat y]
    show _ = s * (sumN _ y + (if b ≤ (y : Int) ∧ (y : Int) < b + t then (1 : Int) else 0))
    rw [Int.mul_add]
    congr 1
    have key : ∀ k, k < w → (((y * w + k : Nat) : Int) / W = y ∧ ((y * w + k : Nat) : Int) % W = k) := fun k hk => by
      have h := dm (k := ((y * w + k : Nat) : Int)) (B := W) (y := (y : Int)) (x := (k : Int)) (by push_cast; rw [hw]) (by omega) (by omega)
      exact h
    by_cases hb : b ≤ (y : Int) ∧ (y : Int) < b + t
    · rw [if_pos hb, Int.mul_one]
      have e : sumN (fun k : Nat => if a ≤ ((y * w + k : Nat) : Int) % W ∧ ((y * w + k : Nat) : Int) % W < a + s ∧ b ≤ ((y * w + k : Nat) : Int) / W ∧ ((y * w + k : Nat) : Int) / W < b + t then (1 : Int) else 0) w = sumN (fun x : Nat => if a ≤ (x : Int) ∧ (x : Int) < a + s then (1 : Int) else 0) w := sumN_congr fun k hk => by
        rw [(key k hk).1, (key k hk).2]
        by_cases h : a ≤ (k : Int) ∧ (k : Int) < a + s
        · rw [if_pos h, if_pos ⟨h.1, h.2, hb.1, hb.2⟩]
        · rw [if_neg h, if_neg (fun q => h ⟨q.1, q.2.1⟩)]
      rw [e, range_cnt ha hs w]; omega
    · rw [if_neg hb, Int.mul_zero]
      have e : sumN (fun k : Nat => if a ≤ ((y * w + k : Nat) : Int) % W ∧ ((y * w + k : Nat) : Int) % W < a + s ∧ b ≤ ((y * w + k : Nat) : Int) / W ∧ ((y * w + k : Nat) : Int) / W < b + t then (1 : Int) else 0) w = sumN (fun _ => (0 : Int)) w := sumN_congr fun k hk => by
        rw [(key k hk).1, if_neg (fun q => hb ⟨q.2.2.1, q.2.2.2⟩)]
      rw [e, sumN_zero]
/-- a module more: s * s pixels more -/
theorem ren_cnt {W H s q : Int} {n i : Nat} {f : Nat → Bool} (hv : vldB W H n = true) (hs : 1 ≤ s) (hq : 0 ≤ q) (hi : i < n) :
    sumN (bw (renP W H f s q ((i + 1 : Nat) : Int))) ((W + 2 * q) * s * ((H + 2 * q) * s)).toNat = sumN (bw (renP W H f s q (i : Int))) ((W + 2 * q) * s * ((H + 2 * q) * s)).toNat + s * s * bw f i := by
  obtain ⟨v1, v2, v3, v4, v5, v6⟩ := vldB_iff.1 hv
  obtain ⟨c1, c2, c3, c4, c5⟩ := cell_bd hv hi
  have rx := ren_bd (W := W) (x := (i : Int) % W) (s := s) (q := q) (by omega) (by omega) hs hq
  have ry := ren_bd (W := H) (x := (i : Int) / W) (s := s) (q := q) (by omega) (by omega) hs hq
  have hW : 1 ≤ (W + 2 * q) * s := by omega
  have hH : 1 ≤ (H + 2 * q) * s := by omega
  cases hf : f i
  · have h0 : bw f i = 0 := by simp [bw, hf]
    rw [h0, Int.mul_zero, Int.add_zero]
    exact sumN_congr fun j hj => by unfold bw; rw [← ren_skip (N := j + 1) hf (fun _ _ => rfl) j (by omega)]
  · have h1 : bw f i = 1 := by simp [bw, hf]
    rw [h1, Int.mul_one]
    generalize hA : (W + 2 * q) * s = A at *
    generalize hB : (H + 2 * q) * s = B at *
    have hN : (A * B).toNat = B.toNat * A.toNat := by
      have : ((B.toNat * A.toNat : Nat) : Int) = A * B := by push_cast; rw [Int.toNat_of_nonneg (by omega), Int.toNat_of_nonneg (by omega), Int.mul_comm]
      omega
    have hr := rect_cnt (W := A) (a := ((i : Int) % W + q) * s) (b := ((i : Int) / W + q) * s) (s := s) (t := s) (w := A.toNat) (by omega) hW (by omega) (by omega) (by omega) B.toNat
    rw [range_cnt (by omega) (by omega), ← hN] at hr
    rw [show max 0 (min ((B.toNat : Nat) : Int) (((i : Int) / W + q) * s + s) - ((i : Int) / W + q) * s) = s by omega] at hr
    rw [← hr, ← sumN_plus]
    refine sumN_congr fun j hj => ?_
    have hd := ren_step (N := j + 1) (q := q) hv hs hi hf (fun _ _ => rfl) j (by omega)
    show bw (renP W H f s q ((i + 1 : Nat) : Int)) j = bw (renP W H f s q (i : Int)) j + _
    unfold bw
    rw [← hd]
    unfold darkF
    rw [hA]
    by_cases h : ((i : Int) % W + q) * s ≤ (j : Int) % A ∧ (j : Int) % A < ((i : Int) % W + q) * s + s ∧ ((i : Int) / W + q) * s ≤ (j : Int) / A ∧ (j : Int) / A < ((i : Int) / W + q) * s + s
    · rw [if_pos h, if_pos h]
      have hz : renP W H f s q (i : Int) j = false := by
        unfold renP
        rw [hA, (div_iff hs).2 ⟨h.1, h.2.1⟩, (div_iff hs).2 ⟨h.2.2.1, h.2.2.2⟩, decide_eq_false (fun z => by
          have := z.2.2.2.2
          rw [show (i : Int) % W + q - q = (i : Int) % W by omega, show (i : Int) / W + q - q = (i : Int) / W by omega] at this
          omega), Bool.false_and]
      rw [hz]; rfl
    · rw [if_neg h, if_neg h]; simp
theorem ren_cnts {W H s q : Int} {n : Nat} {f : Nat → Bool} (hv : vldB W H n = true) (hs : 1 ≤ s) (hq : 0 ≤ q) : ∀ i : Nat, i ≤ n →
    sumN (bw (renP W H f s q (i : Int))) ((W + 2 * q) * s * ((H + 2 * q) * s)).toNat = s * s * sumN (bw f) i
  | 0, _ => by
    show _ = s * s * 0
    rw [Int.mul_zero, ← sumN_zero ((W + 2 * q) * s * ((H + 2 * q) * s)).toNat]
    exact sumN_congr fun j _ => by unfold bw; rw [← ren_new j]; rfl
  | i + 1, h => by
    rw [ren_cnt hv hs hq (by omega), ren_cnts hv hs hq i (by omega), ← Int.mul_add]; rfl
/-- the pixels of a dark module are dark -/
theorem ren_mod {W H s q : Int} {n i : Nat} {f : Nat → Bool} {k : Int} (hv : vldB W H n = true) (hs : 1 ≤ s) (hq : 0 ≤ q) (hi : i < n) (hf : f i = true) (hk : 0 ≤ k) (hk1 : k < s * s) :
    0 ≤ (((i : Int) / W + q) * s + k / s) * ((W + 2 * q) * s) + ((i : Int) % W + q) * s + k % s ∧ (((i : Int) / W + q) * s + k / s) * ((W + 2 * q) * s) + ((i : Int) % W + q) * s + k % s < (W + 2 * q) * s * ((H + 2 * q) * s) ∧
    0 ≤ (((i : Int) / W + q) * s + k / s) * ((W + 2 * q) * s) ∧ 0 ≤ k / s ∧ k / s < s ∧ 0 ≤ k % s ∧ k % s < s ∧ (((i : Int) / W + q) * s + s ≤ (H + 2 * q) * s) ∧ 0 ≤ ((i : Int) / W + q) * s ∧ (((i : Int) % W + q) * s + s ≤ (W + 2 * q) * s) ∧ 0 ≤ ((i : Int) % W + q) * s ∧
    renP W H f s q n ((((i : Int) / W + q) * s + k / s) * ((W + 2 * q) * s) + ((i : Int) % W + q) * s + k % s).toNat = true := by
  obtain ⟨v1, v2, v3, v4, v5, v6⟩ := vldB_iff.1 hv
  obtain ⟨c1, c2, c3, c4, c5⟩ := cell_bd hv hi
  have rx := ren_bd (W := W) (x := (i : Int) % W) (s := s) (q := q) (by omega) (by omega) hs hq
  have ry := ren_bd (W := H) (x := (i : Int) / W) (s := s) (q := q) (by omega) (by omega) hs hq
  have k1 := Int.emod_nonneg k (show s ≠ 0 by omega)
  have k2 := Int.emod_lt_of_pos k (show 0 < s by omega)
  have k3 := Int.ediv_nonneg hk (show 0 ≤ s by omega)
  have k4 := Int.ediv_lt_of_lt_mul (show 0 < s by omega) hk1
  have hb := idx_bd (W := (W + 2 * q) * s) (H := (H + 2 * q) * s) (x := ((i : Int) % W + q) * s + k % s) (y := ((i : Int) / W + q) * s + k / s) (by omega) (by omega) (by omega) (by omega)
  have hp : 0 ≤ (((i : Int) / W + q) * s + k / s) * ((W + 2 * q) * s) := Int.mul_nonneg (by omega) (by omega)
  refine ⟨by omega, by omega, hp, k3, k4, k1, k2, ry.2, ry.1, rx.2, rx.1, ?_⟩
  rw [Int.add_assoc]
  rw [← ren_at (x := ((i : Int) % W + q) * s + k % s) (y := ((i : Int) / W + q) * s + k / s) hv (by omega) (by omega) (by omega)]
  rw [(div_iff hs).2 (show ((i : Int) % W + q) * s ≤ ((i : Int) % W + q) * s + k % s ∧ _ by omega), (div_iff hs).2 (show ((i : Int) / W + q) * s ≤ ((i : Int) / W + q) * s + k / s ∧ _ by omega)]
  rw [show (i : Int) % W + q - q = (i : Int) % W by omega, show (i : Int) / W + q - q = (i : Int) / W by omega]
  unfold atB
  rw [hv, Bool.true_and, inB_iff.2 ⟨by omega, by omega, by omega, by omega⟩, Bool.true_and, c5]
  exact hf
theorem ren_small {W H s q : Int} {n : Nat} (hv : vldB W H n = true) (hn : (n : Int) ≤ 400) (hw : W ≤ 400) (hh : H ≤ 400) (hs : 1 ≤ s) (hs8 : s ≤ 8) (hq : 0 ≤ q) (hq8 : q ≤ 8) : fitsB ((W + 2 * q) * s) ((H + 2 * q) * s) = true := by
  obtain ⟨v1, v2, v3, v4, v5, v6⟩ := vldB_iff.1 hv
  have a := opt_mul (a := W) (s := s) (q := q) v1 (by omega) hs (by omega) hq (by omega)
  have b := opt_mul (a := H) (s := s) (q := q) v3 (by omega) hs (by omega) hq (by omega)
  have e1 : (W + 2 * q) * s ≤ (W + 16) * 8 := Int.mul_le_mul (by omega) hs8 (by omega) (by omega)
  have e2 : (H + 2 * q) * s ≤ (H + 16) * 8 := Int.mul_le_mul (by omega) hs8 (by omega) (by omega)
  have e3 : (W + 2 * q) * s * ((H + 2 * q) * s) ≤ (W + 16) * 8 * ((H + 16) * 8) := Int.mul_le_mul e1 e2 (by omega) (by omega)
  have e4 : (W + 16) * 8 * ((H + 16) * 8) = W * H * 64 + W * 1024 + H * 1024 + 16384 := by
    rw [show (W + 16) * 8 = W * 8 + 128 by omega, show (H + 16) * 8 = H * 8 + 128 by omega, Int.add_mul, Int.mul_add, Int.mul_add, show W * 8 * (H * 8) = W * H * 64 by rw [Int.mul_assoc, Int.mul_left_comm 8 H 8, ← Int.mul_assoc]; rfl]; omega
  exact fitsB_iff.2 (by omega)
theorem val43_side {W H most : Int} {n : Nat} (h : val43 W H n most = true) : W ≤ most ∧ H ≤ most := by
  simp only [val43, Bool.and_eq_true, decide_eq_true_eq] at h
  omega
theorem ss_bd {s : Int} (h : 1 ≤ s) (h8 : s ≤ 8) : 1 ≤ s * s ∧ s * s ≤ 64 :=
  ⟨by have := Int.mul_le_mul h h (by omega) (by omega); omega, by have := Int.mul_le_mul h8 h8 (by omega) (by omega); omega⟩
theorem cnt_bd {f : Nat → Bool} : ∀ n : Nat, 0 ≤ sumN (bw f) n ∧ sumN (bw f) n ≤ n
  | 0 => by simp [sumN]
  | n + 1 => by
    have h := cnt_bd (f := f) n
    have b := bw_bd (f := f) (i := n)
    show 0 ≤ sumN (bw f) n + bw f n ∧ sumN (bw f) n + bw f n ≤ ((n + 1 : Nat) : Int)
    push_cast; omega
theorem sumN_step {g : Nat → Int} {n : Nat} : sumN g (n + 1) = sumN g n + g n := rfl
end Go.Bs
