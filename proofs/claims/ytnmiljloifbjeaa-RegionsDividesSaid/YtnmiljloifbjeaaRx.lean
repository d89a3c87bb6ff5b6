/-
  Plain laws of the segmentation of pages: lines without dark pixels, gaps, least boxes, divisions. No program is named here.
-/
import Derived.Test.YtnmiljloifbjeaaEt
import Derived.Test.YtnmiljloifbjeaaSu
namespace Go.Bs
open Go.RowKit Go.Eng

theorem getD_app {α : Type} {l r : List α} {i : Nat} {d : α} (h : i < l.length) : (l ++ r).getD i d = l.getD i d := by rw [List.getD_eq_getElem?_getD, List.getD_eq_getElem?_getD, List.getElem?_append_left h]
theorem getD_app2 {α : Type} {l r : List α} {i : Nat} {d : α} (h : l.length ≤ i) : (l ++ r).getD i d = r.getD (i - l.length) d := by rw [List.getD_eq_getElem?_getD, List.getD_eq_getElem?_getD, List.getElem?_append_right h]
/-- a box: column, row, columns, rows -/
structure Bx where
  X : Int
  Y : Int
  W : Int
  H : Int
theorem Bx.ext_ {a b : Bx} (h1 : a.X = b.X) (h2 : a.Y = b.Y) (h3 : a.W = b.W) (h4 : a.H = b.H) : a = b := by
  cases a; cases b; simp only at h1 h2 h3 h4; subst h1; subst h2; subst h3; subst h4; rfl
/-- the number of dark pixels of a box -/
def bxS (f : Nat → Bool) (W : Int) (b : Bx) : Int := boxS (bw f) W b.Y.toNat (b.Y + b.H).toNat b.X.toNat (b.X + b.W).toNat
/-- inside of a bitmap; it may be empty -/
structure BIn (W H : Int) (b : Bx) : Prop where
  x0 : 0 ≤ b.X
  y0 : 0 ≤ b.Y
  w0 : 0 ≤ b.W
  h0 : 0 ≤ b.H
  xw : b.X + b.W ≤ W
  yh : b.Y + b.H ≤ H
def BHas (b : Bx) (x y : Int) : Prop := b.X ≤ x ∧ x < b.X + b.W ∧ b.Y ≤ y ∧ y < b.Y + b.H

section
variable {f : Nat → Bool} {W H : Int} {b t : Bx}
theorem bxS_pos (h : BIn W H b) : 0 < bxS f W b ↔ ∃ x y, BHas b x y ∧ pxD W f x y = true := by
  obtain ⟨h1, h2, h3, h4, h5, h6⟩ := h
  unfold bxS
  rw [box_pos (by omega) (by omega)]
  constructor
  · rintro ⟨y, x, a1, a2, a3, a4, a5⟩
    exact ⟨x, y, ⟨by omega, by omega, by omega, by omega⟩, a5⟩
  · rintro ⟨x, y, ⟨a1, a2, a3, a4⟩, a5⟩
    refine ⟨y.toNat, x.toNat, by omega, by omega, by omega, by omega, ?_⟩
    rw [Int.toNat_of_nonneg (by omega), Int.toNat_of_nonneg (by omega)]
    exact a5
theorem bxS_bd (h : BIn W H b) : 0 ≤ bxS f W b ∧ bxS f W b ≤ b.W * b.H := by
  obtain ⟨h1, h2, h3, h4, h5, h6⟩ := h
  have k := box_nonneg (f := f) (W := W) (t := b.Y.toNat) (b := (b.Y + b.H).toNat) (l := b.X.toNat) (r := (b.X + b.W).toNat) (by omega) (by omega)
  rw [show ((b.Y + b.H).toNat : Int) - (b.Y.toNat : Int) = b.H by omega, show ((b.X + b.W).toNat : Int) - (b.X.toNat : Int) = b.W by omega, Int.mul_comm b.H] at k
  exact k
theorem bxS_zero (h : BIn W H b) : bxS f W b = 0 ↔ ∀ x y, BHas b x y → pxD W f x y = false := by
  have k := bxS_pos (f := f) h
  have k2 := (bxS_bd (f := f) h).1
  constructor
  · intro e x y hb
    cases q : pxD W f x y with
    | false => rfl
    | true => have := k.2 ⟨x, y, hb, q⟩; omega
  · intro e
    refine Int.le_antisymm (Int.not_lt.1 fun c => ?_) k2
    obtain ⟨x, y, h1, h2⟩ := k.1 c
    rw [e x y h1] at h2; cases h2

/-! ### lines without dark pixels -/
def lnB (b : Bx) (v : Bool) (k : Int) : Bx := if v = true then ⟨k, b.Y, 1, b.H⟩ else ⟨b.X, k, b.W, 1⟩
/-- the column or row number k of a box has no dark pixel -/
def emL (f : Nat → Bool) (W : Int) (b : Bx) (v : Bool) (k : Int) : Bool := decide (bxS f W (lnB b v k) = 0)
theorem lnC_in (h : BIn W H b) {k : Int} (h1 : b.X ≤ k) (h2 : k < b.X + b.W) : BIn W H (lnB b true k) := by
  obtain ⟨a1, a2, a3, a4, a5, a6⟩ := h
  exact ⟨by show 0 ≤ k; omega, a2, by show (0 : Int) ≤ 1; omega, a4, by show k + 1 ≤ W; omega, a6⟩
theorem lnR_in (h : BIn W H b) {k : Int} (h1 : b.Y ≤ k) (h2 : k < b.Y + b.H) : BIn W H (lnB b false k) := by
  obtain ⟨a1, a2, a3, a4, a5, a6⟩ := h
  exact ⟨a1, by show 0 ≤ k; omega, a3, by show (0 : Int) ≤ 1; omega, a5, by show k + 1 ≤ H; omega⟩
theorem emC (h : BIn W H b) {k : Int} (h1 : b.X ≤ k) (h2 : k < b.X + b.W) : emL f W b true k = true ↔ ∀ y, b.Y ≤ y → y < b.Y + b.H → pxD W f k y = false := by
  unfold emL
  rw [decide_eq_true_iff, bxS_zero (lnC_in h h1 h2)]
  constructor
  · intro e y a1 a2
    exact e k y ⟨by show k ≤ k; omega, by show k < k + 1; omega, a1, a2⟩
  · rintro e x y ⟨a1, a2, a3, a4⟩
    have b1 : k ≤ x := a1
    have b2 : x < k + 1 := a2
    rw [show x = k by omega]
    exact e y a3 a4
theorem emR (h : BIn W H b) {k : Int} (h1 : b.Y ≤ k) (h2 : k < b.Y + b.H) : emL f W b false k = true ↔ ∀ x, b.X ≤ x → x < b.X + b.W → pxD W f x k = false := by
  unfold emL
  rw [decide_eq_true_iff, bxS_zero (lnR_in h h1 h2)]
  constructor
  · intro e x a1 a2
    exact e x k ⟨a1, a2, by show k ≤ k; omega, by show k < k + 1; omega⟩
  · rintro e x y ⟨a1, a2, a3, a4⟩
    have b1 : k ≤ y := a3
    have b2 : y < k + 1 := a4
    rw [show y = k by omega]
    exact e x a1 a2
theorem nemC (h : BIn W H b) {k : Int} (h1 : b.X ≤ k) (h2 : k < b.X + b.W) : emL f W b true k = false ↔ ∃ y, b.Y ≤ y ∧ y < b.Y + b.H ∧ pxD W f k y = true := by
  rw [← Bool.not_eq_true, emC h h1 h2]
  constructor
  · intro e
    refine Classical.byContradiction fun c => e fun y a1 a2 => ?_
    cases q : pxD W f k y with
    | false => rfl
    | true => exact absurd ⟨y, a1, a2, q⟩ c
  · rintro ⟨y, a1, a2, a3⟩ e
    rw [e y a1 a2] at a3; cases a3
theorem nemR (h : BIn W H b) {k : Int} (h1 : b.Y ≤ k) (h2 : k < b.Y + b.H) : emL f W b false k = false ↔ ∃ x, b.X ≤ x ∧ x < b.X + b.W ∧ pxD W f x k = true := by
  rw [← Bool.not_eq_true, emR h h1 h2]
  constructor
  · intro e
    refine Classical.byContradiction fun c => e fun x a1 a2 => ?_
    cases q : pxD W f x k with
    | false => rfl
    | true => exact absurd ⟨x, a1, a2, q⟩ c
  · rintro ⟨x, a1, a2, a3⟩ e
    rw [e x a1 a2] at a3; cases a3

/-! ### the least box of the dark pixels of a box -/
def skU (p : Int → Bool) (a : Int) : Nat → Int
  | 0 => a
  | n + 1 => if p a = true then skU p (a + 1) n else a
def skD (p : Int → Bool) (a : Int) : Nat → Int
  | 0 => a
  | n + 1 => if p (a - 1) = true then skD p (a - 1) n else a
theorem skU_spec {p : Int → Bool} : ∀ {n : Nat} {a : Int}, (∃ k, a ≤ k ∧ k < a + n ∧ p k = false) → a ≤ skU p a n ∧ skU p a n < a + n ∧ p (skU p a n) = false ∧ ∀ k, a ≤ k → k < skU p a n → p k = true
  | 0, a, ⟨k, h1, h2, _⟩ => by omega
  | n + 1, a, ⟨k, h1, h2, h3⟩ => by
    unfold skU
    by_cases c : p a = true
    · rw [if_pos c]
      have hk : k ≠ a := fun e => by rw [e, c] at h3; cases h3
      obtain ⟨i1, i2, i3, i4⟩ := skU_spec (p := p) (n := n) (a := a + 1) ⟨k, by omega, by omega, h3⟩
      refine ⟨by omega, by omega, i3, fun j j1 j2 => ?_⟩
      by_cases e : j = a
      · rw [e]; exact c
      · exact i4 j (by omega) j2
    · rw [if_neg c]
      exact ⟨by omega, by omega, by simpa using c, fun j j1 j2 => by omega⟩
theorem skD_spec {p : Int → Bool} : ∀ {n : Nat} {a : Int}, (∃ k, a - n ≤ k ∧ k < a ∧ p k = false) → a - n < skD p a n ∧ skD p a n ≤ a ∧ p (skD p a n - 1) = false ∧ ∀ k, skD p a n ≤ k → k < a → p k = true
  | 0, a, ⟨k, h1, h2, _⟩ => by omega
  | n + 1, a, ⟨k, h1, h2, h3⟩ => by
    unfold skD
    by_cases c : p (a - 1) = true
    · rw [if_pos c]
      have hk : k ≠ a - 1 := fun e => by rw [e, c] at h3; cases h3
      obtain ⟨i1, i2, i3, i4⟩ := skD_spec (p := p) (n := n) (a := a - 1) ⟨k, by omega, by omega, h3⟩
      refine ⟨by omega, by omega, i3, fun j j1 j2 => ?_⟩
      by_cases e : j = a - 1
      · rw [e]; exact c
      · exact i4 j j1 (by omega)
    · rw [if_neg c]
      exact ⟨by omega, by omega, by simpa using c, fun j j1 j2 => by omega⟩
/-- the least box that holds the dark pixels of a box -/
def redB (f : Nat → Bool) (W : Int) (b : Bx) : Bx :=
  ⟨skU (emL f W b true) b.X b.W.toNat, skU (emL f W b false) b.Y b.H.toNat, skD (emL f W b true) (b.X + b.W) b.W.toNat - skU (emL f W b true) b.X b.W.toNat, skD (emL f W b false) (b.Y + b.H) b.H.toNat - skU (emL f W b false) b.Y b.H.toNat⟩
def BSub (b t : Bx) : Prop := b.X ≤ t.X ∧ t.X + t.W ≤ b.X + b.W ∧ b.Y ≤ t.Y ∧ t.Y + t.H ≤ b.Y + b.H
def TopD (f : Nat → Bool) (W : Int) (t : Bx) : Prop := ∃ x, BHas t x t.Y ∧ pxD W f x t.Y = true
def BotD (f : Nat → Bool) (W : Int) (t : Bx) : Prop := ∃ x, BHas t x (t.Y + t.H - 1) ∧ pxD W f x (t.Y + t.H - 1) = true
def LefD (f : Nat → Bool) (W : Int) (t : Bx) : Prop := ∃ y, BHas t t.X y ∧ pxD W f t.X y = true
def RigD (f : Nat → Bool) (W : Int) (t : Bx) : Prop := ∃ y, BHas t (t.X + t.W - 1) y ∧ pxD W f (t.X + t.W - 1) y = true
def AllD (f : Nat → Bool) (W : Int) (b t : Bx) : Prop := ∀ x y, BHas b x y → pxD W f x y = true → BHas t x y
def HasD (f : Nat → Bool) (W : Int) (b : Bx) : Prop := ∃ x y, BHas b x y ∧ pxD W f x y = true
structure BRed (f : Nat → Bool) (W : Int) (b t : Bx) : Prop where
  sub : BSub b t
  all : AllD f W b t
  top : TopD f W t
  bot : BotD f W t
  lef : LefD f W t
  rig : RigD f W t
theorem BRed.pos (h : BRed f W b t) : 1 ≤ t.W ∧ 1 ≤ t.H := by
  obtain ⟨x, ⟨h1, h2, h3, h4⟩, _⟩ := h.top
  omega
theorem BRed.self (h : BRed f W b t) : BRed f W t t :=
  ⟨⟨by omega, by omega, by omega, by omega⟩, fun _ _ a _ => a, h.top, h.bot, h.lef, h.rig⟩
theorem BRed.inn (h : BRed f W b t) (k : BIn W H b) : BIn W H t := by
  obtain ⟨a1, a2, a3, a4⟩ := h.sub
  obtain ⟨b1, b2, b3, b4, b5, b6⟩ := k
  have := h.pos
  exact ⟨by omega, by omega, by omega, by omega, by omega, by omega⟩
theorem BSub.has {x y : Int} (h : BSub b t) (k : BHas t x y) : BHas b x y := by
  obtain ⟨a1, a2, a3, a4⟩ := h
  obtain ⟨b1, b2, b3, b4⟩ := k
  exact ⟨by omega, by omega, by omega, by omega⟩
theorem BRed.hasD (h : BRed f W b t) : HasD f W b := by
  obtain ⟨x, h1, h2⟩ := h.top
  exact ⟨x, t.Y, h.sub.has h1, h2⟩
theorem BRed.uniq {u : Bx} (h : BRed f W b t) (k : BRed f W b u) : t = u := by
  have key : ∀ {t u : Bx}, BRed f W b t → BRed f W b u → u.Y ≤ t.Y ∧ t.Y + t.H ≤ u.Y + u.H ∧ u.X ≤ t.X ∧ t.X + t.W ≤ u.X + u.W := by
    intro t u h k
    obtain ⟨x1, a1, a2⟩ := h.top
    obtain ⟨x2, b1, b2⟩ := h.bot
    obtain ⟨y1, c1, c2⟩ := h.lef
    obtain ⟨y2, d1, d2⟩ := h.rig
    obtain ⟨p1, p2, p3, p4⟩ := k.all _ _ (h.sub.has a1) a2
    obtain ⟨q1, q2, q3, q4⟩ := k.all _ _ (h.sub.has b1) b2
    obtain ⟨r1, r2, r3, r4⟩ := k.all _ _ (h.sub.has c1) c2
    obtain ⟨s1, s2, s3, s4⟩ := k.all _ _ (h.sub.has d1) d2
    exact ⟨by omega, by omega, by omega, by omega⟩
  obtain ⟨a1, a2, a3, a4⟩ := key h k
  obtain ⟨b1, b2, b3, b4⟩ := key k h
  exact Bx.ext_ (by omega) (by omega) (by omega) (by omega)
theorem redB_spec (h : BIn W H b) (hd : HasD f W b) : BRed f W b (redB f W b) := by
  obtain ⟨x, y, hb, hp⟩ := hd
  obtain ⟨h1, h2, h3, h4⟩ := hb
  have hc : ∃ k, b.X ≤ k ∧ k < b.X + b.W ∧ emL f W b true k = false := ⟨x, h1, h2, (nemC h h1 h2).2 ⟨y, h3, h4, hp⟩⟩
  have hr : ∃ k, b.Y ≤ k ∧ k < b.Y + b.H ∧ emL f W b false k = false := ⟨y, h3, h4, (nemR h h3 h4).2 ⟨x, h1, h2, hp⟩⟩
  have w0 := h.w0
  have h0 := h.h0
  have ew : ((b.W.toNat : Nat) : Int) = b.W := Int.toNat_of_nonneg w0
  have eh : ((b.H.toNat : Nat) : Int) = b.H := Int.toNat_of_nonneg h0
  obtain ⟨a1, a2, a3, a4⟩ := skU_spec (n := b.W.toNat) (by rw [ew]; exact hc)
  obtain ⟨b1, b2, b3, b4⟩ := skU_spec (n := b.H.toNat) (by rw [eh]; exact hr)
  obtain ⟨c1, c2, c3, c4⟩ := skD_spec (n := b.W.toNat) (a := b.X + b.W) (by rw [ew, show b.X + b.W - b.W = b.X by omega]; exact hc)
  obtain ⟨d1, d2, d3, d4⟩ := skD_spec (n := b.H.toNat) (a := b.Y + b.H) (by rw [eh, show b.Y + b.H - b.H = b.Y by omega]; exact hr)
  rw [ew] at a2 c1
  rw [eh] at b2 d1
  have hall : ∀ x y, BHas b x y → pxD W f x y = true → skU (emL f W b true) b.X b.W.toNat ≤ x ∧ x < skD (emL f W b true) (b.X + b.W) b.W.toNat ∧ skU (emL f W b false) b.Y b.H.toNat ≤ y ∧ y < skD (emL f W b false) (b.Y + b.H) b.H.toNat := by
    rintro x y ⟨e1, e2, e3, e4⟩ hp
    have nc : emL f W b true x = false := (nemC h e1 e2).2 ⟨y, e3, e4, hp⟩
    have nr : emL f W b false y = false := (nemR h e3 e4).2 ⟨x, e1, e2, hp⟩
    refine ⟨Int.not_lt.1 fun c => ?_, Int.not_le.1 fun c => ?_, Int.not_lt.1 fun c => ?_, Int.not_le.1 fun c => ?_⟩
    · rw [a4 x e1 c] at nc; cases nc
    · rw [c4 x c e2] at nc; cases nc
    · rw [b4 y e3 c] at nr; cases nr
    · rw [d4 y c e4] at nr; cases nr
  obtain ⟨y1, p1, p2, p3⟩ := (nemC h a1 a2).1 a3
  obtain ⟨x1, q1, q2, q3⟩ := (nemR h b1 b2).1 b3
  obtain ⟨y2, r1, r2, r3⟩ := (nemC h (by omega) (by omega)).1 c3
  obtain ⟨x2, s1, s2, s3⟩ := (nemR h (by omega) (by omega)).1 d3
  have P := hall _ _ ⟨a1, a2, p1, p2⟩ p3
  have Q := hall _ _ ⟨q1, q2, b1, b2⟩ q3
  have R := hall _ _ ⟨by omega, by omega, r1, r2⟩ r3
  have S := hall _ _ ⟨s1, s2, by omega, by omega⟩ s3
  have hx : (redB f W b).X + (redB f W b).W = skD (emL f W b true) (b.X + b.W) b.W.toNat := (by omega : ∀ p q : Int, p + (q - p) = q) _ _
  have hy : (redB f W b).Y + (redB f W b).H = skD (emL f W b false) (b.Y + b.H) b.H.toNat := (by omega : ∀ p q : Int, p + (q - p) = q) _ _
  have mk : ∀ x y, skU (emL f W b true) b.X b.W.toNat ≤ x ∧ x < skD (emL f W b true) (b.X + b.W) b.W.toNat ∧ skU (emL f W b false) b.Y b.H.toNat ≤ y ∧ y < skD (emL f W b false) (b.Y + b.H) b.H.toNat → BHas (redB f W b) x y := by
    rintro x y ⟨e1, e2, e3, e4⟩
    exact ⟨e1, by rw [hx]; exact e2, e3, by rw [hy]; exact e4⟩
  refine ⟨⟨a1, by rw [hx]; exact c2, b1, by rw [hy]; exact d2⟩, fun x y h1 h2 => mk x y (hall x y h1 h2), ⟨x1, mk _ _ Q, q3⟩, ?_, ⟨y1, mk _ _ P, p3⟩, ?_⟩
  · unfold BotD
    rw [hy]
    exact ⟨x2, mk _ _ S, s3⟩
  · unfold RigD
    rw [hx]
    exact ⟨y2, mk _ _ R, r3⟩
theorem red_of (h : BIn W H b) (k : BRed f W b t) : redB f W b = t := (redB_spec h k.hasD).uniq k

/-- a box on the way to the least one -/
structure RI (f : Nat → Bool) (W : Int) (b t : Bx) : Prop where
  sub : BSub b t
  all : AllD f W b t
  has : HasD f W b
theorem RI.pos (h : RI f W b t) : 1 ≤ t.W ∧ 1 ≤ t.H := by
  obtain ⟨x, y, h1, h2⟩ := h.has
  obtain ⟨a1, a2, a3, a4⟩ := h.all x y h1 h2
  omega
theorem RI.inn (h : RI f W b t) (k : BIn W H b) : BIn W H t := by
  obtain ⟨a1, a2, a3, a4⟩ := h.sub
  obtain ⟨b1, b2, b3, b4, b5, b6⟩ := k
  have := h.pos
  exact ⟨by omega, by omega, by omega, by omega, by omega, by omega⟩
theorem ri_new (h : HasD f W b) : RI f W b b := ⟨⟨by omega, by omega, by omega, by omega⟩, fun _ _ a _ => a, h⟩
theorem RI.trim {u : Bx} (h : RI f W b t) (hs : BSub t u) (hn : ∀ x y, BHas t x y → ¬ BHas u x y → pxD W f x y = false) : RI f W b u := by
  obtain ⟨a1, a2, a3, a4⟩ := h.sub
  obtain ⟨b1, b2, b3, b4⟩ := hs
  refine ⟨⟨by omega, by omega, by omega, by omega⟩, fun x y e1 e2 => ?_, h.has⟩
  refine Classical.byContradiction fun c => ?_
  rw [hn x y (h.all x y e1 e2) c] at e2
  cases e2
theorem ri_top {X Y w h : Int} (k : BIn W H b) (r : RI f W b ⟨X, Y, w, h⟩) (e : emL f W ⟨X, Y, w, h⟩ false Y = true) : RI f W b ⟨X, Y + 1, w, h - 1⟩ := by
  have p : 1 ≤ w ∧ 1 ≤ h := r.pos
  refine r.trim ⟨by show X ≤ X; omega, by show X + w ≤ X + w; omega, by show Y ≤ Y + 1; omega, by show Y + 1 + (h - 1) ≤ Y + h; omega⟩ fun x y h1 h2 => ?_
  obtain ⟨a1, a2, a3, a4⟩ := h1
  simp only at a1 a2 a3 a4
  have h2' : ¬ (X ≤ x ∧ x < X + w ∧ Y + 1 ≤ y ∧ y < Y + 1 + (h - 1)) := h2
  rw [show y = Y by omega]
  exact (emR (r.inn k) (by show Y ≤ Y; omega) (by show Y < Y + h; omega)).1 e x a1 a2
theorem ri_bot {X Y w h : Int} (k : BIn W H b) (r : RI f W b ⟨X, Y, w, h⟩) (e : emL f W ⟨X, Y, w, h⟩ false (Y + h - 1) = true) : RI f W b ⟨X, Y, w, h - 1⟩ := by
  have p : 1 ≤ w ∧ 1 ≤ h := r.pos
  refine r.trim ⟨by show X ≤ X; omega, by show X + w ≤ X + w; omega, by show Y ≤ Y; omega, by show Y + (h - 1) ≤ Y + h; omega⟩ fun x y h1 h2 => ?_
  obtain ⟨a1, a2, a3, a4⟩ := h1
  simp only at a1 a2 a3 a4
  have h2' : ¬ (X ≤ x ∧ x < X + w ∧ Y ≤ y ∧ y < Y + (h - 1)) := h2
  rw [show y = Y + h - 1 by omega]
  exact (emR (r.inn k) (by show Y ≤ Y + h - 1; omega) (by show Y + h - 1 < Y + h; omega)).1 e x a1 a2
theorem ri_lef {X Y w h : Int} (k : BIn W H b) (r : RI f W b ⟨X, Y, w, h⟩) (e : emL f W ⟨X, Y, w, h⟩ true X = true) : RI f W b ⟨X + 1, Y, w - 1, h⟩ := by
  have p : 1 ≤ w ∧ 1 ≤ h := r.pos
  refine r.trim ⟨by show X ≤ X + 1; omega, by show X + 1 + (w - 1) ≤ X + w; omega, by show Y ≤ Y; omega, by show Y + h ≤ Y + h; omega⟩ fun x y h1 h2 => ?_
  obtain ⟨a1, a2, a3, a4⟩ := h1
  simp only at a1 a2 a3 a4
  have h2' : ¬ (X + 1 ≤ x ∧ x < X + 1 + (w - 1) ∧ Y ≤ y ∧ y < Y + h) := h2
  rw [show x = X by omega]
  exact (emC (r.inn k) (by show X ≤ X; omega) (by show X < X + w; omega)).1 e y a3 a4
theorem ri_rig {X Y w h : Int} (k : BIn W H b) (r : RI f W b ⟨X, Y, w, h⟩) (e : emL f W ⟨X, Y, w, h⟩ true (X + w - 1) = true) : RI f W b ⟨X, Y, w - 1, h⟩ := by
  have p : 1 ≤ w ∧ 1 ≤ h := r.pos
  refine r.trim ⟨by show X ≤ X; omega, by show X + (w - 1) ≤ X + w; omega, by show Y ≤ Y; omega, by show Y + h ≤ Y + h; omega⟩ fun x y h1 h2 => ?_
  obtain ⟨a1, a2, a3, a4⟩ := h1
  simp only at a1 a2 a3 a4
  have h2' : ¬ (X ≤ x ∧ x < X + (w - 1) ∧ Y ≤ y ∧ y < Y + h) := h2
  rw [show x = X + w - 1 by omega]
  exact (emC (r.inn k) (by show X ≤ X + w - 1; omega) (by show X + w - 1 < X + w; omega)).1 e y a3 a4
theorem ri_topD (k : BIn W H b) (r : RI f W b t) (e : emL f W t false t.Y = false) : TopD f W t := by
  have p := r.pos
  obtain ⟨x, h1, h2, h3⟩ := (nemR (r.inn k) (by omega) (by omega)).1 e
  exact ⟨x, ⟨h1, h2, by omega, by omega⟩, h3⟩
theorem ri_botD (k : BIn W H b) (r : RI f W b t) (e : emL f W t false (t.Y + t.H - 1) = false) : BotD f W t := by
  have p := r.pos
  obtain ⟨x, h1, h2, h3⟩ := (nemR (r.inn k) (by omega) (by omega)).1 e
  exact ⟨x, ⟨h1, h2, by omega, by omega⟩, h3⟩
theorem ri_lefD (k : BIn W H b) (r : RI f W b t) (e : emL f W t true t.X = false) : LefD f W t := by
  have p := r.pos
  obtain ⟨y, h1, h2, h3⟩ := (nemC (r.inn k) (by omega) (by omega)).1 e
  exact ⟨y, ⟨by omega, by omega, h1, h2⟩, h3⟩
theorem ri_rigD (k : BIn W H b) (r : RI f W b t) (e : emL f W t true (t.X + t.W - 1) = false) : RigD f W t := by
  have p := r.pos
  obtain ⟨y, h1, h2, h3⟩ := (nemC (r.inn k) (by omega) (by omega)).1 e
  exact ⟨y, ⟨by omega, by omega, h1, h2⟩, h3⟩
theorem TopD.keep {u : Bx} (h : TopD f W t) (r : RI f W b t) (k : RI f W b u) (e : u.Y = t.Y) : TopD f W u := by
  obtain ⟨x, h1, h2⟩ := h
  exact ⟨x, by rw [e]; exact k.all _ _ (r.sub.has h1) h2, by rw [e]; exact h2⟩
theorem BotD.keep {u : Bx} (h : BotD f W t) (r : RI f W b t) (k : RI f W b u) (e : u.Y + u.H = t.Y + t.H) : BotD f W u := by
  obtain ⟨x, h1, h2⟩ := h
  exact ⟨x, by rw [e]; exact k.all _ _ (r.sub.has h1) h2, by rw [e]; exact h2⟩
theorem LefD.keep {u : Bx} (h : LefD f W t) (r : RI f W b t) (k : RI f W b u) (e : u.X = t.X) : LefD f W u := by
  obtain ⟨y, h1, h2⟩ := h
  exact ⟨y, by rw [e]; exact k.all _ _ (r.sub.has h1) h2, by rw [e]; exact h2⟩
theorem RigD.keep {u : Bx} (h : RigD f W t) (r : RI f W b t) (k : RI f W b u) (e : u.X + u.W = t.X + t.W) : RigD f W u := by
  obtain ⟨y, h1, h2⟩ := h
  exact ⟨y, by rw [e]; exact k.all _ _ (r.sub.has h1) h2, by rw [e]; exact h2⟩
theorem RI.done (k : BIn W H b) (r : RI f W b t) (h1 : TopD f W t) (h2 : BotD f W t) (h3 : LefD f W t) (h4 : RigD f W t) : t = redB f W b :=
  (red_of k ⟨r.sub, r.all, h1, h2, h3, h4⟩).symm
end
end Go.Bs
