/-
  The best threshold of an image with at most two values. No program is named here.
-/
import Derived.Test.YtcdhbikginpogaaTo
namespace Go.Bs
open Go.RowKit Go.Eng

def twoF (f : Nat → Bool) (lo hi : Int) (j : Nat) : Int := if f j = true then lo else hi
/-- how many are dark -/
def dkN (f : Nat → Bool) : Nat → Int
  | 0 => 0
  | n + 1 => dkN f n + if f n = true then 1 else 0
section
variable {f : Nat → Bool} {lo hi : Int}
theorem dkN_bd {n : Nat} : 0 ≤ dkN f n ∧ dkN f n ≤ n := by
  induction n with
  | zero => exact ⟨Int.le_refl _, Int.le_refl _⟩
  | succ n ih => unfold dkN; split <;> omega
theorem two_pix {n : Nat} (h0 : 0 ≤ lo) (h1 : lo ≤ hi) (h2 : hi ≤ 255) : PixOk n (twoF f lo hi) := fun i _ => by unfold twoF; split <;> omega
theorem two_in {n t : Nat} (h1 : lo < t) (h2 : (t : Int) ≤ hi) : nT (twoF f lo hi) n t = dkN f n ∧ sT (twoF f lo hi) n t = lo * dkN f n := by
  induction n with
  | zero => exact ⟨rfl, (Int.mul_zero _).symm⟩
  | succ n ih =>
    unfold nT sT dkN twoF
    rw [show (fun j => if f j = true then lo else hi) = twoF f lo hi from rfl, ih.1, ih.2]
    cases e : f n with
    | true => simp only [if_true]; rw [if_pos h1, if_pos h1, Int.mul_add]; omega
    | false => simp only [Bool.false_eq_true, if_false]; rw [if_neg (by omega), if_neg (by omega), Int.mul_add]; omega
theorem two_lo {n t : Nat} (h : lo ≤ hi) (h1 : (t : Int) ≤ lo) : nT (twoF f lo hi) n t = 0 := by
  induction n with
  | zero => rfl
  | succ n ih =>
    unfold nT
    rw [ih, if_neg (by unfold twoF; split <;> omega)]
    rfl
theorem two_hi {n t : Nat} (h : lo ≤ hi) (h1 : hi < (t : Int)) : nT (twoF f lo hi) n t = n := by
  induction n with
  | zero => rfl
  | succ n ih =>
    unfold nT
    rw [ih, if_pos (by unfold twoF; split <;> omega)]
    omega
theorem two_all {n : Nat} (h : lo ≤ hi) (h2 : hi ≤ 255) : sT (twoF f lo hi) n 256 = lo * dkN f n + hi * ((n : Int) - dkN f n) := by
  induction n with
  | zero => show (0 : Int) = lo * 0 + hi * (((0 : Nat) : Int) - 0); simp
  | succ n ih =>
    unfold sT dkN
    rw [ih, if_pos (by unfold twoF; split <;> omega)]
    unfold twoF
    cases e : f n with
    | true =>
      simp only [if_true]
      rw [show (((n + 1 : Nat) : Int) - (dkN f n + 1)) = (n : Int) - dkN f n by omega, Int.mul_add]
      omega
    | false =>
      simp only [Bool.false_eq_true, if_false]
      rw [show (((n + 1 : Nat) : Int) - (dkN f n + 0)) = ((n : Int) - dkN f n) + 1 by omega, Int.mul_add hi, Int.add_zero]
      omega
theorem two_thr {n : Nat} (hn : n ≤ 2000) (h0 : 0 ≤ lo) (h1 : lo < hi) (h2 : hi ≤ 255) (hd : 0 < dkN f n) (hl : dkN f n < n) :
    lo < (bst (twoF f lo hi) n 255 : Int) ∧ (bst (twoF f lo hi) n 255 : Int) ≤ hi := by
  have hp := two_pix (f := f) (n := n) h0 (by omega) h2
  have o := (bst_opt hp hn 255 (lo + 1).toNat (by omega)).1
  obtain ⟨i1, i2⟩ := two_in (f := f) (n := n) (t := (lo + 1).toNat) (lo := lo) (hi := hi) (by omega) (by omega)
  have q : 0 < qT (twoF f lo hi) n (lo + 1).toNat := by
    unfold qT
    rw [i1]
    exact Int.mul_pos hd (by omega)
  have e : dT (twoF f lo hi) n (lo + 1).toNat = dkN f n * ((n : Int) - dkN f n) * (lo - hi) := by
    unfold dT
    rw [i1, i2, two_all (by omega) h2, show lo * dkN f n + hi * ((n : Int) - dkN f n) - lo * dkN f n = hi * ((n : Int) - dkN f n) by omega]
    generalize (n : Int) - dkN f n = v
    generalize dkN f n = d
    rw [Int.mul_sub, Int.mul_left_comm v lo d, Int.mul_comm v d, Int.mul_left_comm d hi v, Int.mul_comm lo, Int.mul_comm hi]
  have vp : 0 < vN (twoF f lo hi) n (lo + 1).toNat := by
    rw [(vN_pos q).1, e]
    have p := Int.mul_pos hd (show 0 < (n : Int) - dkN f n by omega)
    have m : dkN f n * ((n : Int) - dkN f n) * (lo - hi) < 0 := Int.mul_neg_of_pos_of_neg p (by omega)
    exact Int.mul_pos_of_neg_of_neg m m
  have db : ∀ t, 0 < vD (twoF f lo hi) n t := fun t => by have := (vNB (t := t) hp hn).2.1; omega
  have l : 0 < vN (twoF f lo hi) n (lo + 1).toNat * vD (twoF f lo hi) n (bst (twoF f lo hi) n 255) := Int.mul_pos vp (db _)
  have nz : vN (twoF f lo hi) n (bst (twoF f lo hi) n 255) ≠ 0 := fun c => by rw [c, Int.zero_mul] at o; omega
  refine ⟨Int.not_le.1 fun c => nz (vN_not hp hn ?_).1, Int.not_lt.1 fun c => nz (vN_not hp hn ?_).1⟩
  · unfold qT
    rw [two_lo (by omega) c]
    simp
  · unfold qT
    rw [two_hi (by omega) c]
    simp
theorem one_thr {n : Nat} (hn : n ≤ 2000) (h0 : 0 ≤ lo) (h1 : lo ≤ hi) (h2 : hi ≤ 255) (h : ¬ (0 < dkN f n ∧ dkN f n < n ∧ lo < hi)) : bst (twoF f lo hi) n 255 = 0 := by
  have hp := two_pix (f := f) (n := n) h0 h1 h2
  have hb := dkN_bd (f := f) (n := n)
  have z : ∀ t, ¬ 0 < qT (twoF f lo hi) n t := fun t => by
    unfold qT
    by_cases c1 : (t : Int) ≤ lo
    · rw [two_lo h1 c1]; simp
    · by_cases c2 : hi < (t : Int)
      · rw [two_hi h1 c2]; simp
      · rw [(two_in (by omega) (by omega)).1]
        by_cases c3 : dkN f n = 0
        · rw [c3]; simp
        · rw [show dkN f n = n by omega]; simp
  by_cases c : bst (twoF f lo hi) n 255 = 0
  · exact c
  · have o := (bst_opt hp hn 255 0 (by omega)).2 (by omega)
    rw [(vN_not hp hn (z _)).1, (vN_not hp hn (z _)).1] at o
    simp at o
theorem two_aut {W H : Int} {n : Nat} (hv : vldB W H n = true) (hn : n ≤ 2000) (h0 : 0 ≤ lo) (h1 : lo < hi) (h2 : hi ≤ 255) (hd : 0 < dkN f n) (hl : dkN f n < n) :
    (autR ⟨W, H, n, twoF f lo hi⟩).2 = 0 ∧ eqP (autR ⟨W, H, n, twoF f lo hi⟩).1 ⟨W, H, n, f⟩ = true := by
  obtain ⟨b1, b2⟩ := two_thr hn h0 h1 h2 hd hl
  unfold autR
  rw [otsR_ok hv, gloR_ok hv (by omega)]
  refine ⟨rfl, eqP_of ⟨rfl, rfl, rfl, fun j _ => ?_⟩⟩
  show decide (twoF f lo hi j < _) = f j
  unfold twoF
  cases e : f j with
  | true => simp only [if_true]; exact decide_eq_true b1
  | false => simp only [Bool.false_eq_true, if_false]; exact decide_eq_false (Int.not_lt.2 b2)
theorem one_aut {W H : Int} {n : Nat} (hv : vldB W H n = true) (hn : n ≤ 2000) (h0 : 0 ≤ lo) (h1 : lo ≤ hi) (h2 : hi ≤ 255) (h : ¬ (0 < dkN f n ∧ dkN f n < n ∧ lo < hi)) :
    (autR ⟨W, H, n, twoF f lo hi⟩).2 = 0 ∧ eqP (autR ⟨W, H, n, twoF f lo hi⟩).1 ⟨W, H, n, fun _ => false⟩ = true := by
  have b := one_thr (f := f) hn h0 h1 h2 h
  have hp := two_pix (f := f) (n := n) h0 h1 h2
  unfold autR
  rw [otsR_ok hv, b, gloR_ok hv (by omega)]
  refine ⟨rfl, eqP_of ⟨rfl, rfl, rfl, fun j hj => ?_⟩⟩
  exact decide_eq_false (by have := hp j hj; show ¬ twoF f lo hi j < ((0 : Nat) : Int); omega)
end
end Go.Bs
