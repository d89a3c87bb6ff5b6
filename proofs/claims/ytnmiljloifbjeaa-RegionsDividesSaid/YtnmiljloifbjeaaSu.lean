/-
  Sums over rows and columns of a table. No program is named here.
-/
import Derived.Test.YtnmiljloifbjeaaPd
namespace Go.Bs
open Go.RowKit Go.Eng

/-- h 0 + .. + h (n - 1) -/
def sumN (h : Nat → Int) : Nat → Int
  | 0 => 0
  | n + 1 => sumN h n + h n
theorem sumN_congr {h h' : Nat → Int} : ∀ {n : Nat}, (∀ k, k < n → h k = h' k) → sumN h n = sumN h' n
  | 0, _ => rfl
  | n + 1, e => by
    show sumN h n + h n = sumN h' n + h' n
    rw [sumN_congr (n := n) fun k hk => e k (by omega), e n (by omega)]
theorem sumN_sub {h h' : Nat → Int} : ∀ n, sumN h n - sumN h' n = sumN (fun k => h k - h' k) n
  | 0 => rfl
  | n + 1 => by
    have := sumN_sub (h := h) (h' := h') n
    show sumN h n + h n - (sumN h' n + h' n) = sumN (fun k => h k - h' k) n + (h n - h' n)
    omega
/-- bounds of a part of a sum -/
theorem sumN_bd {h : Nat → Int} {lo hi : Int} {L : Nat} : ∀ {R : Nat}, L ≤ R → (∀ k, L ≤ k → k < R → lo ≤ h k ∧ h k ≤ hi) → ((R : Int) - L) * lo ≤ sumN h R - sumN h L ∧ sumN h R - sumN h L ≤ ((R : Int) - L) * hi
  | R, hLR, hb => by
    induction R with
    | zero => have : L = 0 := by omega
              subst this; simp
    | succ R ih =>
      by_cases e : L = R + 1
      · subst e; simp
      · have := ih (by omega) (fun k h1 h2 => hb k h1 (by omega))
        have h2 := hb R (by omega) (by omega)
        have e1 : (((R + 1 : Nat) : Int) - L) = ((R : Int) - L) + 1 := by push_cast; omega
        rw [e1, Int.add_mul, Int.add_mul, Int.one_mul, Int.one_mul]
        show _ ≤ sumN h R + h R - sumN h L ∧ sumN h R + h R - sumN h L ≤ _
        omega
theorem sumN_pos {h : Nat → Int} {L : Nat} : ∀ {R : Nat}, L ≤ R → (∀ k, L ≤ k → k < R → 0 ≤ h k) → (0 < sumN h R - sumN h L ↔ ∃ k, L ≤ k ∧ k < R ∧ 0 < h k)
  | R, hLR, hb => by
    induction R with
    | zero => have : L = 0 := by omega
              subst this; simp
    | succ R ih =>
      by_cases e : L = R + 1
      · subst e
        simp only [Int.sub_self, Int.lt_irrefl, false_iff, not_exists]
        rintro k ⟨h1, h2, _⟩
        omega
      · have := ih (by omega) (fun k h1 h2 => hb k h1 (by omega))
        have hR := hb R (by omega) (by omega)
        have hbd := (sumN_bd (h := h) (lo := 0) (hi := sumN h R - sumN h L + 1 + h R) (L := L) (R := R) (by omega) (fun k h1 h2 => ⟨hb k h1 (by omega), by
          have a := sumN_ge (h := h) (L := L) (R := R) (k := k) h1 h2 (fun j a b => hb j a (by omega))
          omega⟩)).1
        rw [Int.mul_zero] at hbd
        constructor
        · intro hp
          have hp' : 0 < sumN h R + h R - sumN h L := hp
          by_cases c : 0 < h R
          · exact ⟨R, by omega, by omega, c⟩
          · obtain ⟨k, h1, h2, h3⟩ := this.1 (by omega)
            exact ⟨k, h1, by omega, h3⟩
        · rintro ⟨k, h1, h2, h3⟩
          show 0 < sumN h R + h R - sumN h L
          by_cases c : k = R
          · subst c; omega
          · have := this.2 ⟨k, h1, by omega, h3⟩
            omega
where
  sumN_ge {h : Nat → Int} {L : Nat} : ∀ {R k : Nat}, L ≤ k → k < R → (∀ j, L ≤ j → j < R → 0 ≤ h j) → h k ≤ sumN h R - sumN h L := by
    intro R
    induction R with
    | zero => intro k _ h2; omega
    | succ R ih =>
      intro k h1 h2 hb
      show h k ≤ sumN h R + h R - sumN h L
      have hR := hb R (by omega) (by omega)
      by_cases c : k = R
      · subst c
        have hbd : 0 ≤ sumN h k - sumN h L := by
          clear ih
          have : ∀ m, L ≤ m → m ≤ k → 0 ≤ sumN h m - sumN h L := by
            intro m
            induction m with
            | zero => intro a _; have : L = 0 := by omega
                      subst this; simp
            | succ m ihm =>
              intro a b
              by_cases d : L = m + 1
              · subst d; simp
              · have h1 := ihm (by omega) (by omega)
                have h2 := hb m (by omega) (by omega)
                show 0 ≤ sumN h m + h m - sumN h L
                omega
          exact this k h1 (by omega)
        omega
      · have := ih h1 (by omega) (fun j a b => hb j a (by omega))
        omega
theorem sumN_full {h : Nat → Int} {c : Int} {L : Nat} : ∀ {R : Nat}, L ≤ R → (∀ k, L ≤ k → k < R → h k ≤ c) → (sumN h R - sumN h L = ((R : Int) - L) * c ↔ ∀ k, L ≤ k → k < R → h k = c)
  | R, hLR, hb => by
    induction R with
    | zero => have : L = 0 := by omega
              subst this; simp
    | succ R ih =>
      by_cases e : L = R + 1
      · subst e
        simp only [Int.sub_self, Int.zero_mul, true_iff]
        intro k h1 h2; omega
      · have h1 := ih (by omega) (fun k h1 h2 => hb k h1 (by omega))
        have hR := hb R (by omega) (by omega)
        have e1 : (((R + 1 : Nat) : Int) - L) = ((R : Int) - L) + 1 := by push_cast; omega
        have hup : sumN h R - sumN h L ≤ ((R : Int) - L) * c := by
          clear ih h1 e1
          have : ∀ m, L ≤ m → m ≤ R → sumN h m - sumN h L ≤ ((m : Int) - L) * c := by
            intro m
            induction m with
            | zero => intro a _; have : L = 0 := by omega
                      subst this; simp
            | succ m ihm =>
              intro a b
              by_cases d : L = m + 1
              · subst d; simp
              · have h1 := ihm (by omega) (by omega)
                have h2 := hb m (by omega) (by omega)
                have e1 : (((m + 1 : Nat) : Int) - L) = ((m : Int) - L) + 1 := by push_cast; omega
                rw [e1, Int.add_mul, Int.one_mul]
                show sumN h m + h m - sumN h L ≤ _
                omega
          exact this R (by omega) (by omega)
        rw [e1, Int.add_mul, Int.one_mul]
        show sumN h R + h R - sumN h L = _ ↔ _
        constructor
        · intro hp k a b
          by_cases d : k = R
          · subst d; omega
          · exact h1.1 (by omega) k a (by omega)
        · intro ha
          have := h1.2 (fun k a b => ha k a (by omega))
          have := ha R (by omega) (by omega)
          omega

/-! ### sums of a table with W columns -/
def rowS (g : Nat → Int) (W : Int) (y : Nat) (x : Nat) : Int := sumN (fun k => g ((y : Int) * W + (k : Int)).toNat) x
/-- the sum over rows before y and columns before x -/
def sumS (g : Nat → Int) (W : Int) (y : Nat) (x : Nat) : Int := sumN (fun k => rowS g W k x) y
theorem rowS_succ {g : Nat → Int} {W : Int} {y x : Nat} : rowS g W y (x + 1) = rowS g W y x + g ((y : Int) * W + (x : Int)).toNat := rfl
theorem rowS_zero {g : Nat → Int} {W : Int} {y : Nat} : rowS g W y 0 = 0 := rfl
theorem sumS_succ {g : Nat → Int} {W : Int} {y x : Nat} : sumS g W (y + 1) x = sumS g W y x + rowS g W y x := rfl
theorem sumS_zero {g : Nat → Int} {W : Int} {x : Nat} : sumS g W 0 x = 0 := rfl
theorem sumS_col {g : Nat → Int} {W : Int} : ∀ {y : Nat}, sumS g W y 0 = 0
  | 0 => rfl
  | y + 1 => by rw [sumS_succ, sumS_col]; rfl
/-- the sum over a box -/
def boxS (g : Nat → Int) (W : Int) (t b l r : Nat) : Int := sumS g W b r - sumS g W b l - sumS g W t r + sumS g W t l
theorem boxS_eq {g : Nat → Int} {W : Int} {t b l r : Nat} : boxS g W t b l r = sumN (fun k => rowS g W k r - rowS g W k l) b - sumN (fun k => rowS g W k r - rowS g W k l) t := by
  rw [← sumN_sub, ← sumN_sub]
  unfold boxS sumS
  omega
/-- bounds of the sums of a table whose values are from lo to hi -/
theorem rowS_bd {g : Nat → Int} {W lo hi : Int} {y l r : Nat} (hlr : l ≤ r) (hg : ∀ k, l ≤ k → k < r → lo ≤ g ((y : Int) * W + (k : Int)).toNat ∧ g ((y : Int) * W + (k : Int)).toNat ≤ hi) :
    ((r : Int) - l) * lo ≤ rowS g W y r - rowS g W y l ∧ rowS g W y r - rowS g W y l ≤ ((r : Int) - l) * hi := sumN_bd hlr hg
theorem boxS_bd {g : Nat → Int} {W lo hi : Int} {t b l r : Nat} (htb : t ≤ b) (hlr : l ≤ r) (hg : ∀ y k, t ≤ y → y < b → l ≤ k → k < r → lo ≤ g ((y : Int) * W + (k : Int)).toNat ∧ g ((y : Int) * W + (k : Int)).toNat ≤ hi) :
    ((b : Int) - t) * (((r : Int) - l) * lo) ≤ boxS g W t b l r ∧ boxS g W t b l r ≤ ((b : Int) - t) * (((r : Int) - l) * hi) := by
  rw [boxS_eq]
  exact sumN_bd htb fun y h1 h2 => rowS_bd hlr fun k h3 h4 => hg y k h1 h2 h3 h4
/-- counting -/
def bw (f : Nat → Bool) (i : Nat) : Int := if f i = true then 1 else 0
theorem bw_bd {f : Nat → Bool} {i : Nat} : 0 ≤ bw f i ∧ bw f i ≤ 1 := by unfold bw; split <;> omega
theorem bw_pos {f : Nat → Bool} {i : Nat} : 0 < bw f i ↔ f i = true := by unfold bw; split <;> simp_all
theorem bw_one {f : Nat → Bool} {i : Nat} : bw f i = 1 ↔ f i = true := by unfold bw; split <;> simp_all
theorem box_pos {f : Nat → Bool} {W : Int} {t b l r : Nat} (htb : t ≤ b) (hlr : l ≤ r) :
    0 < boxS (bw f) W t b l r ↔ ∃ y x : Nat, t ≤ y ∧ y < b ∧ l ≤ x ∧ x < r ∧ f ((y : Int) * W + (x : Int)).toNat = true := by
  rw [boxS_eq, sumN_pos htb (fun k _ _ => by have := (rowS_bd (g := bw f) (W := W) (lo := 0) (hi := 1) (y := k) hlr (fun _ _ _ => bw_bd)).1; rw [Int.mul_zero] at this; exact this)]
  constructor
  · rintro ⟨y, h1, h2, h3⟩
    obtain ⟨x, h4, h5, h6⟩ := (sumN_pos hlr (fun k _ _ => bw_bd.1)).1 h3
    exact ⟨y, x, h1, h2, h4, h5, bw_pos.1 h6⟩
  · rintro ⟨y, x, h1, h2, h3, h4, h5⟩
    exact ⟨y, h1, h2, (sumN_pos hlr (fun k _ _ => bw_bd.1)).2 ⟨x, h3, h4, bw_pos.2 h5⟩⟩
theorem box_nonneg {f : Nat → Bool} {W : Int} {t b l r : Nat} (htb : t ≤ b) (hlr : l ≤ r) : 0 ≤ boxS (bw f) W t b l r ∧ boxS (bw f) W t b l r ≤ ((b : Int) - t) * ((r : Int) - l) := by
  have h := boxS_bd (g := bw f) (W := W) (lo := 0) (hi := 1) htb hlr (fun _ _ _ _ _ _ => bw_bd)
  rw [Int.mul_zero, Int.mul_zero, Int.mul_one] at h
  exact h
theorem box_full {f : Nat → Bool} {W : Int} {t b l r : Nat} (htb : t ≤ b) (hlr : l ≤ r) :
    boxS (bw f) W t b l r = ((b : Int) - t) * ((r : Int) - l) ↔ ∀ y x : Nat, t ≤ y → y < b → l ≤ x → x < r → f ((y : Int) * W + (x : Int)).toNat = true := by
  rw [boxS_eq, sumN_full htb (fun k _ _ => by have := (rowS_bd (g := bw f) (W := W) (lo := 0) (hi := 1) (y := k) hlr (fun _ _ _ => bw_bd)).2; rw [Int.mul_one] at this; exact this)]
  constructor
  · intro h y x h1 h2 h3 h4
    have h5 := (sumN_full (c := 1) (h := fun k => bw f ((y : Int) * W + (k : Int)).toNat) hlr (fun k _ _ => bw_bd.2)).1 (by rw [Int.mul_one]; exact h y h1 h2) x h3 h4
    exact bw_one.1 h5
  · intro h y h1 h2
    have h5 := (sumN_full (c := 1) (h := fun k => bw f ((y : Int) * W + (k : Int)).toNat) hlr (fun k _ _ => bw_bd.2)).2 (fun x h3 h4 => bw_one.2 (h y x h1 h2 h3 h4))
    rw [Int.mul_one] at h5
    exact h5

/-! ### tables of sums -/
/-- the table of sums, with one row and one column more -/
def sumG (g : Nat → Int) (W : Int) (q : Nat) : Int := sumS g W ((q : Int) / (W + 1)).toNat ((q : Int) % (W + 1)).toNat
theorem sumG_at {g : Nat → Int} {W : Int} {q y x : Nat} (hq : (q : Int) = (y : Int) * (W + 1) + x) (hx : (x : Int) ≤ W) : sumG g W q = sumS g W y x := by
  unfold sumG
  rw [(dm hq (by omega) (by omega)).1, (dm hq (by omega) (by omega)).2]
  rfl
theorem sumG_new {g : Nat → Int} {W : Int} {n : Nat} (hW : 1 ≤ W) {p : Int} (hp : p ≤ W + 1) : ∀ j, j < n → (fun _ : Nat => (0 : Int)) j = if (j : Int) < p then sumG g W j else 0 := by
  intro j _
  split
  · rw [sumG_at (y := 0) (x := j) (by simp) (by omega)]; rfl
  · rfl
/-- the first column of the next row -/
theorem sumG_row {g f1 : Nat → Int} {W : Int} {n : Nat} {y : Nat} {p : Int} (hW : 1 ≤ W) (hp : p = ((y : Int) + 1) * (W + 1)) (hI : ∀ j, j < n → f1 j = if (j : Int) < p then sumG g W j else 0) : ∀ j, j < n → f1 j = if (j : Int) < p + 1 then sumG g W j else 0 := by
  intro j hj
  rw [hI j hj]
  by_cases e : (j : Int) = p
  · rw [if_neg (by omega), if_pos (by omega), sumG_at (y := y + 1) (x := 0) (by push_cast; omega) (by simp; omega), sumS_col]
  · by_cases h : (j : Int) < p
    · rw [if_pos h, if_pos (by omega)]
    · rw [if_neg h, if_neg (by omega)]
theorem sumG_z {g : Nat → Int} {W y x : Int} (hW : 1 ≤ W) (hy : 0 ≤ y) (hx : 0 ≤ x) (hx1 : x ≤ W) : sumG g W (y * (W + 1) + x).toNat = sumS g W y.toNat x.toNat := by
  have h0 : 0 ≤ y * (W + 1) := Int.mul_nonneg hy (by omega)
  refine sumG_at ?_ (by omega)
  rw [Int.toNat_of_nonneg (by omega), Int.toNat_of_nonneg hy, Int.toNat_of_nonneg hx]
theorem sumS_bd {g : Nat → Int} {W lo hi : Int} {y x : Nat} (hg : ∀ i, lo ≤ g i ∧ g i ≤ hi) : (y : Int) * ((x : Int) * lo) ≤ sumS g W y x ∧ sumS g W y x ≤ (y : Int) * ((x : Int) * hi) := by
  have h := sumN_bd (h := fun k => rowS g W k x) (lo := (x : Int) * lo) (hi := (x : Int) * hi) (L := 0) (R := y) (by omega) (fun k _ _ => by
    have h := sumN_bd (h := fun j => g ((k : Int) * W + (j : Int)).toNat) (lo := lo) (hi := hi) (L := 0) (R := x) (by omega) (fun j _ _ => hg _)
    simpa [sumN, rowS] using h)
  simpa [sumN, sumS] using h
theorem sumS_z {g : Nat → Int} {W hi y x : Int} (h0 : 0 ≤ hi) (hg : ∀ i, 0 ≤ g i ∧ g i ≤ hi) (hy : 0 ≤ y) (hy1 : y ≤ 4096) (hx : 0 ≤ x) (hx1 : x ≤ 4096) : 0 ≤ sumS g W y.toNat x.toNat ∧ sumS g W y.toNat x.toNat ≤ 4096 * (4096 * hi) := by
  have h := sumS_bd (g := g) (W := W) (lo := 0) (hi := hi) (y := y.toNat) (x := x.toNat) hg
  rw [Int.mul_zero, Int.mul_zero] at h
  refine ⟨h.1, Int.le_trans h.2 ?_⟩
  exact Int.mul_le_mul (by omega) (Int.mul_le_mul_of_nonneg_right (by omega) h0) (Int.mul_nonneg (by omega) h0) (by omega)
theorem rowS_z {g : Nat → Int} {W hi : Int} {y x : Nat} (hg : ∀ i, 0 ≤ g i ∧ g i ≤ hi) : 0 ≤ rowS g W y x ∧ rowS g W y x ≤ (x : Int) * hi := by
  have h := sumN_bd (h := fun j => g ((y : Int) * W + (j : Int)).toNat) (lo := 0) (hi := hi) (L := 0) (R := x) (by omega) (fun j _ _ => hg _)
  simpa [sumN, rowS] using h
theorem sq_bd {r : Int} (h0 : 0 ≤ r) (h1 : r ≤ 4096) : 1 ≤ (2 * r + 1) * (2 * r + 1) ∧ (2 * r + 1) * (2 * r + 1) ≤ 67125249 :=
  ⟨Int.mul_pos (by omega) (by omega), Int.le_trans (Int.mul_le_mul (show 2 * r + 1 ≤ 8193 by omega) (show 2 * r + 1 ≤ 8193 by omega) (by omega) (by omega)) (by omega)⟩
/-- the box of a radius around a place, within the table -/
def boxAt (g : Nat → Int) (W H x y rx ry : Int) : Int := boxS g W (max 0 (y - ry)).toNat (min H (y + ry + 1)).toNat (max 0 (x - rx)).toNat (min W (x + rx + 1)).toNat
end Go.Bs
