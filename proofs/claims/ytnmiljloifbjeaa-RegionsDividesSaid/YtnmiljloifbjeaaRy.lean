/-
  Plain laws of the segmentation of pages: gaps, the tree of divisions and its leaves. No program is named here.
-/
import Derived.Test.YtnmiljloifbjeaaRx
namespace Go.Bs
open Go.RowKit Go.Eng

/-! ### gaps -/
def gpAdd (l : List (Int × Int)) (k : Int) : List (Int × Int) :=
  match l.getLast? with
  | some p => if p.1 + p.2 = k then l.dropLast ++ [(p.1, p.2 + 1)] else l ++ [(k, 1)]
  | none => [(k, 1)]
def gpL (e : Int → Bool) (a : Int) : Nat → List (Int × Int)
  | 0 => []
  | n + 1 => if e (a + n) = true then gpAdd (gpL e a n) (a + n) else gpL e a n
section
variable {e : Int → Bool} {a : Int}
theorem gpL_yes {n : Nat} (h : e (a + n) = true) : gpL e a (n + 1) = gpAdd (gpL e a n) (a + n) := if_pos h
theorem gpL_no {n : Nat} (h : e (a + n) = false) : gpL e a (n + 1) = gpL e a n := if_neg (by simp [h])
theorem snoc_of {α : Type} {l : List α} {p : α} (h : l.getLast? = some p) : l = l.dropLast ++ [p] := by
  cases l with
  | nil => simp at h
  | cons x r =>
    have h2 := List.dropLast_concat_getLast (l := x :: r) (by simp)
    rw [List.getLast?_eq_some_getLast (by simp)] at h
    injection h with h
    rw [h] at h2
    exact h2.symm
/-- every gap is a run of lines without dark pixels -/
def GpOk (e : Int → Bool) (a : Int) (n : Nat) (p : Int × Int) : Prop := a ≤ p.1 ∧ 1 ≤ p.2 ∧ p.1 + p.2 ≤ a + n ∧ ∀ k, p.1 ≤ k → k < p.1 + p.2 → e k = true
theorem GpOk.up {n : Nat} {p : Int × Int} (h : GpOk e a n p) : GpOk e a (n + 1) p := ⟨h.1, h.2.1, by have := h.2.2.1; push_cast; omega, h.2.2.2⟩
theorem gp_ok : ∀ {n : Nat}, ∀ p ∈ gpL e a n, GpOk e a n p
  | 0, p, h => by simp [gpL] at h
  | n + 1, p, h => by
    cases c : e (a + n) with
    | false => rw [gpL_no c] at h; exact (gp_ok p h).up
    | true =>
      rw [gpL_yes c] at h
      have one : GpOk e a (n + 1) (a + n, 1) := ⟨by show a ≤ a + n; omega, Int.le_refl _, by show a + n + 1 ≤ _; push_cast; omega, fun k h1 h2 => by
        have h1' : a + n ≤ k := h1
        have h2' : k < a + n + 1 := h2
        rw [show k = a + n by omega]; exact c⟩
      unfold gpAdd at h
      split at h
      · rename_i q hq
        have hs := snoc_of hq
        have hm : q ∈ gpL e a n := by rw [hs]; simp
        have hk := gp_ok q hm
        split at h
        · rename_i hc
          rcases List.mem_append.1 h with h | h
          · exact (gp_ok p (by rw [hs]; exact List.mem_append_left _ h)).up
          · simp only [List.mem_singleton] at h
            subst h
            refine ⟨hk.1, by have := hk.2.1; show 1 ≤ q.2 + 1; omega, by show q.1 + (q.2 + 1) ≤ _; push_cast; omega, fun k h1 h2 => ?_⟩
            have h2' : k < q.1 + (q.2 + 1) := h2
            by_cases d : k < q.1 + q.2
            · exact hk.2.2.2 k h1 d
            · rw [show k = a + n by omega]; exact c
        · rcases List.mem_append.1 h with h | h
          · exact (gp_ok p h).up
          · simp only [List.mem_singleton] at h
            subst h
            exact one
      · simp only [List.mem_singleton] at h
        subst h
        exact one
theorem gpAdd_len {l : List (Int × Int)} {k : Int} : (gpAdd l k).length ≤ l.length + 1 ∧ 1 ≤ (gpAdd l k).length := by
  unfold gpAdd
  split
  · rename_i q hq
    have hs := congrArg List.length (snoc_of hq)
    split
    · simp only [List.length_append, List.length_singleton] at hs ⊢; omega
    · simp
  · simp
theorem gp_len : ∀ {n : Nat}, (gpL e a n).length ≤ n
  | 0 => by simp [gpL]
  | n + 1 => by
    unfold gpL
    have := gp_len (n := n)
    split
    · have := (gpAdd_len (l := gpL e a n) (k := a + n)).1; omega
    · omega
theorem last_getD {l : List (Int × Int)} (h : 0 < l.length) : l.getLast? = some (l.getD (l.length - 1) (0, 0)) := by
  rw [List.getLast?_eq_getElem?, List.getD_eq_getElem?_getD, List.getElem?_eq_getElem (by omega)]
  rfl
/-- the last gap is still open -/
theorem gp_open : ∀ {n : Nat}, (0 < (gpL e a n).length ∧ ((gpL e a n).getD ((gpL e a n).length - 1) (0, 0)).1 + ((gpL e a n).getD ((gpL e a n).length - 1) (0, 0)).2 = a + n) ↔ (1 ≤ n ∧ e (a + n - 1) = true)
  | 0 => by simp [gpL]
  | n + 1 => by
    rw [show a + ((n + 1 : Nat) : Int) - 1 = a + n by push_cast; omega]
    cases c : e (a + n) with
    | false =>
      rw [gpL_no c]
      refine ⟨fun ⟨h1, h2⟩ => ?_, fun ⟨_, h⟩ => by cases h⟩
      have hm : (gpL e a n).getD ((gpL e a n).length - 1) (0, 0) ∈ gpL e a n := getD_mem (by omega)
      have := (gp_ok _ hm).2.2.1
      push_cast at h2
      omega
    | true =>
      rw [gpL_yes c]
      refine ⟨fun _ => ⟨by omega, rfl⟩, fun _ => ⟨by have := (gpAdd_len (l := gpL e a n) (k := a + n)).2; omega, ?_⟩⟩
      have hl : (gpAdd (gpL e a n) (a + n)).getLast? = some ((gpAdd (gpL e a n) (a + n)).getD ((gpAdd (gpL e a n) (a + n)).length - 1) (0, 0)) := last_getD (gpAdd_len (l := gpL e a n) (k := a + n)).2
      generalize (gpAdd (gpL e a n) (a + n)).getD ((gpAdd (gpL e a n) (a + n)).length - 1) (0, 0) = q at hl ⊢
      unfold gpAdd at hl
      split at hl
      · rename_i p hp
        split at hl
        · rw [List.getLast?_concat] at hl; injection hl with hl; subst hl; show p.1 + (p.2 + 1) = _; push_cast; omega
        · rw [List.getLast?_concat] at hl; injection hl with hl; subst hl; show a + n + 1 = _; push_cast; omega
      · simp only [List.getLast?_singleton, Option.some.injEq] at hl
        subst hl; show a + n + 1 = _; push_cast; omega
/-- how the list changes: a new gap, or one line more for the last one -/
theorem gp_new {n : Nat} (h : e (a + n) = true) (ho : ¬ (0 < (gpL e a n).length ∧ ((gpL e a n).getD ((gpL e a n).length - 1) (0, 0)).1 + ((gpL e a n).getD ((gpL e a n).length - 1) (0, 0)).2 = a + n)) : gpL e a (n + 1) = gpL e a n ++ [(a + n, 1)] := by
  rw [gpL_yes h]
  unfold gpAdd
  split
  · rename_i p hp
    have hl : 0 < (gpL e a n).length := by cases q : gpL e a n with | nil => rw [q] at hp; simp at hp | cons _ _ => simp
    rw [last_getD hl] at hp
    injection hp with hp
    rw [if_neg (by rw [← hp]; exact fun c => ho ⟨hl, c⟩)]
  · rename_i hp
    rw [List.getLast?_eq_none_iff.1 hp]; rfl
theorem gp_more {n : Nat} (h : e (a + n) = true) (h1 : 0 < (gpL e a n).length) (h2 : ((gpL e a n).getD ((gpL e a n).length - 1) (0, 0)).1 + ((gpL e a n).getD ((gpL e a n).length - 1) (0, 0)).2 = a + n) :
    (gpL e a (n + 1)).length = (gpL e a n).length ∧ ∀ i, i < (gpL e a n).length * 2 → ptG (gpL e a (n + 1)) i = if i = ((gpL e a n).length - 1) * 2 + 1 then ptG (gpL e a n) i + 1 else ptG (gpL e a n) i := by
  have hs := snoc_of (last_getD h1)
  rw [gpL_yes h]
  unfold gpAdd
  rw [last_getD h1]
  simp only
  rw [if_pos h2]
  generalize hq : (gpL e a n).getD ((gpL e a n).length - 1) (0, 0) = q at *
  generalize gpL e a n = l at *
  have hl : l.length = l.dropLast.length + 1 := by
    have := congrArg List.length hs
    simpa using this
  refine ⟨by rw [List.length_append, List.length_singleton]; omega, fun i hi => ?_⟩
  have lt : ∀ {j : Nat} {r : Int × Int}, j < l.dropLast.length → (l.dropLast ++ [r]).getD j (0, 0) = l.getD j (0, 0) := fun {j r} hj => by
    conv => rhs; rw [hs]
    rw [getD_app hj, getD_app hj]
  have eq_ : ∀ {r : Int × Int}, (l.dropLast ++ [r]).getD l.dropLast.length (0, 0) = r := fun {r} => by
    rw [getD_app2 (Nat.le_refl _), Nat.sub_self]; rfl
  have hq2 : l.getD l.dropLast.length (0, 0) = q := by rw [show l.dropLast.length = l.length - 1 by omega]; exact hq
  unfold ptG
  by_cases c : i / 2 < l.dropLast.length
  · rw [lt c, if_neg (show ¬ i = (l.length - 1) * 2 + 1 by omega)]
  · have c2 : i / 2 = l.dropLast.length := by omega
    rw [c2, eq_, hq2]
    by_cases d : i % 2 = 0
    · rw [if_pos d, if_pos d, if_neg (by omega)]
    · rw [if_neg d, if_neg d, if_pos (by omega)]
end

/-! ### the widest gap -/
def widL (least : Int) (l : List (Int × Int)) : Int × Int := l.foldl (fun b p => if least ≤ p.2 ∧ b.2 < p.2 then p else b) (0, 0)
theorem wid_snoc {least : Int} {l : List (Int × Int)} {p : Int × Int} : widL least (l ++ [p]) = if least ≤ p.2 ∧ (widL least l).2 < p.2 then p else widL least l := by unfold widL; rw [List.foldl_append]; rfl
theorem rev_ind {α : Type} {P : List α → Prop} (h0 : P []) (h1 : ∀ l p, P l → P (l ++ [p])) : ∀ l, P l := by
  intro l
  have key : ∀ n : Nat, ∀ l : List α, l.length = n → P l := by
    intro n
    induction n with
    | zero => intro l hl; rw [List.eq_nil_of_length_eq_zero hl]; exact h0
    | succ n ih =>
      intro l hl
      have hn : l ≠ [] := by intro c; rw [c] at hl; cases hl
      rw [← List.dropLast_concat_getLast hn]
      exact h1 _ _ (ih _ (by rw [List.length_dropLast]; omega))
  exact key _ l rfl
theorem wid_spec {least : Int} {l : List (Int × Int)} (h : ∀ p ∈ l, 1 ≤ p.2) : 0 ≤ (widL least l).2 ∧ ((widL least l).2 ≠ 0 → widL least l ∈ l ∧ least ≤ (widL least l).2) ∧ ((widL least l).2 = 0 → widL least l = (0, 0) ∧ ∀ p ∈ l, p.2 < least) := by
  induction l using rev_ind with
  | h0 => exact ⟨Int.le_refl _, fun c => absurd rfl c, fun _ => ⟨rfl, by simp⟩⟩
  | h1 l p ih =>
    obtain ⟨i1, i2, i3⟩ := ih fun q hq => h q (List.mem_append_left _ hq)
    have hp := h p (by simp)
    rw [wid_snoc]
    by_cases c : least ≤ p.2 ∧ (widL least l).2 < p.2
    · rw [if_pos c]
      exact ⟨by omega, fun _ => ⟨by simp, c.1⟩, fun e => by omega⟩
    · rw [if_neg c]
      refine ⟨i1, fun e => ⟨List.mem_append_left _ (i2 e).1, (i2 e).2⟩, fun e => ⟨(i3 e).1, fun q hq => ?_⟩⟩
      rcases List.mem_append.1 hq with hq | hq
      · exact (i3 e).2 q hq
      · simp only [List.mem_singleton] at hq
        subst hq
        omega

/-! ### divisions -/
def gpC (f : Nat → Bool) (W : Int) (b : Bx) : List (Int × Int) := gpL (emL f W b true) b.X b.W.toNat
def gpR (f : Nat → Bool) (W : Int) (b : Bx) : List (Int × Int) := gpL (emL f W b false) b.Y b.H.toNat
def wC (f : Nat → Bool) (W gx : Int) (b : Bx) : Int × Int := widL gx (gpC f W b)
def wR (f : Nat → Bool) (W gy : Int) (b : Bx) : Int × Int := widL gy (gpR f W b)
def isLf (f : Nat → Bool) (W gx gy : Int) (b : Bx) : Prop := (wC f W gx b).2 = 0 ∧ (wR f W gy b).2 = 0
def isCo (f : Nat → Bool) (W gx gy : Int) (b : Bx) : Prop := (wR f W gy b).2 ≤ (wC f W gx b).2
instance {f : Nat → Bool} {W gx gy : Int} {b : Bx} : Decidable (isLf f W gx gy b) := by unfold isLf; exact inferInstance
instance {f : Nat → Bool} {W gx gy : Int} {b : Bx} : Decidable (isCo f W gx gy b) := by unfold isCo; exact inferInstance
def spl1 (f : Nat → Bool) (W gx gy : Int) (b : Bx) : Bx := if isCo f W gx gy b then ⟨b.X, b.Y, (wC f W gx b).1 - b.X, b.H⟩ else ⟨b.X, b.Y, b.W, (wR f W gy b).1 - b.Y⟩
def spl2 (f : Nat → Bool) (W gx gy : Int) (b : Bx) : Bx := if isCo f W gx gy b then ⟨(wC f W gx b).1 + (wC f W gx b).2, b.Y, b.X + b.W - ((wC f W gx b).1 + (wC f W gx b).2), b.H⟩ else ⟨b.X, (wR f W gy b).1 + (wR f W gy b).2, b.W, b.Y + b.H - ((wR f W gy b).1 + (wR f W gy b).2)⟩
inductive BT where
  | leaf (b : Bx)
  | node (b : Bx) (l r : BT)
def BT.lvs : BT → List Bx
  | .leaf b => [b]
  | .node _ l r => l.lvs ++ r.lvs
def cutT (f : Nat → Bool) (W gx gy : Int) : Nat → Bx → BT
  | 0, b => .leaf b
  | k + 1, b => if isLf f W gx gy b then .leaf b else .node b (cutT f W gx gy k (redB f W (spl1 f W gx gy b))) (cutT f W gx gy k (redB f W (spl2 f W gx gy b)))
section
variable {f : Nat → Bool} {W H gx gy : Int} {b : Bx}
/-- a box that is its own least one, inside of the bitmap -/
structure Tg (f : Nat → Bool) (W H : Int) (b : Bx) : Prop where
  inn : BIn W H b
  red : BRed f W b b
theorem tg_red (h : BIn W H b) (d : HasD f W b) : Tg f W H (redB f W b) := ⟨(redB_spec h d).inn h, (redB_spec h d).self⟩
/-- the parts of a box -/
structure Sp (f : Nat → Bool) (W H : Int) (b p q : Bx) : Prop where
  pin : BIn W H p
  qin : BIn W H q
  pd : HasD f W p
  qd : HasD f W q
  ps : BSub b p
  qs : BSub b q
  pl : p.W + p.H < b.W + b.H
  ql : q.W + q.H < b.W + b.H
  area : p.W * p.H + q.W * q.H ≤ b.W * b.H
  apart : ∀ x y, BHas p x y → BHas q x y → False
  all : ∀ x y, BHas b x y → pxD W f x y = true → BHas p x y ∨ BHas q x y
theorem gp_pos {e : Int → Bool} {a : Int} {n : Nat} : ∀ p ∈ gpL e a n, 1 ≤ p.2 := fun p h => (gp_ok p h).2.1
theorem split_spec (h : Tg f W H b) (hl : ¬ isLf f W gx gy b) : Sp f W H b (spl1 f W gx gy b) (spl2 f W gx gy b) := by
  have hp := h.red.pos
  obtain ⟨i1, i2, i3, i4, i5, i6⟩ := h.inn
  have sC := wid_spec (least := gx) (l := gpC f W b) gp_pos
  have sR := wid_spec (least := gy) (l := gpR f W b) gp_pos
  unfold spl1 spl2
  by_cases c : isCo f W gx gy b
  · rw [if_pos c, if_pos c]
    have nz : (wC f W gx b).2 ≠ 0 := fun e => hl ⟨e, by have c' : (wR f W gy b).2 ≤ (wC f W gx b).2 := c; have : 0 ≤ (wR f W gy b).2 := sR.1; omega⟩
    obtain ⟨g1, g2, g3, g4⟩ := gp_ok _ (sC.2.1 nz).1
    change b.X ≤ (wC f W gx b).1 at g1
    change 1 ≤ (wC f W gx b).2 at g2
    change (wC f W gx b).1 + (wC f W gx b).2 ≤ _ at g3
    change ∀ k, (wC f W gx b).1 ≤ k → k < (wC f W gx b).1 + (wC f W gx b).2 → _ at g4
    generalize wC f W gx b = g at *
    rw [Int.toNat_of_nonneg i3] at g3
    have em : ∀ x y, g.1 ≤ x → x < g.1 + g.2 → b.Y ≤ y → y < b.Y + b.H → pxD W f x y = false := fun x y a1 a2 a3 a4 => (emC h.inn (by omega) (by omega)).1 (g4 x a1 a2) y a3 a4
    obtain ⟨y1, ⟨p1, p2, p3, p4⟩, p5⟩ := h.red.lef
    obtain ⟨y2, ⟨q1, q2, q3, q4⟩, q5⟩ := h.red.rig
    have l1 : b.X < g.1 := Int.not_le.1 fun d => by rw [em b.X y1 d (by omega) p3 p4] at p5; cases p5
    have l2 : g.1 + g.2 < b.X + b.W := Int.not_le.1 fun d => by rw [em (b.X + b.W - 1) y2 (by omega) (by omega) q3 q4] at q5; cases q5
    refine ⟨⟨i1, i2, by show 0 ≤ g.1 - b.X; omega, i4, by show b.X + (g.1 - b.X) ≤ W; omega, i6⟩, ⟨by show 0 ≤ g.1 + g.2; omega, i2, by show 0 ≤ b.X + b.W - (g.1 + g.2); omega, i4, by show g.1 + g.2 + (b.X + b.W - (g.1 + g.2)) ≤ W; omega, i6⟩,
      ⟨b.X, y1, ⟨Int.le_refl _, by show b.X < b.X + (g.1 - b.X); omega, p3, p4⟩, p5⟩, ⟨b.X + b.W - 1, y2, ⟨by show g.1 + g.2 ≤ _; omega, by show _ < g.1 + g.2 + (b.X + b.W - (g.1 + g.2)); omega, q3, q4⟩, q5⟩,
      ⟨Int.le_refl _, by show b.X + (g.1 - b.X) ≤ _; omega, Int.le_refl _, Int.le_refl _⟩, ⟨by show _ ≤ g.1 + g.2; omega, by show g.1 + g.2 + (b.X + b.W - (g.1 + g.2)) ≤ _; omega, Int.le_refl _, Int.le_refl _⟩,
      by show g.1 - b.X + b.H < _; omega, by show b.X + b.W - (g.1 + g.2) + b.H < _; omega, ?_, ?_, ?_⟩
    · show (g.1 - b.X) * b.H + (b.X + b.W - (g.1 + g.2)) * b.H ≤ b.W * b.H
      rw [← Int.add_mul]
      exact Int.mul_le_mul_of_nonneg_right (by omega) i4
    · rintro x y ⟨a1, a2, a3, a4⟩ ⟨b1, b2, b3, b4⟩
      simp only at a1 a2 a3 a4 b1 b2 b3 b4
      omega
    · rintro x y ⟨a1, a2, a3, a4⟩ d
      by_cases c1 : x < g.1
      · exact .inl ⟨a1, by show x < b.X + (g.1 - b.X); omega, a3, a4⟩
      · by_cases c2 : x < g.1 + g.2
        · rw [em x y (by omega) c2 a3 a4] at d; cases d
        · exact .inr ⟨by show g.1 + g.2 ≤ x; omega, by show x < g.1 + g.2 + (b.X + b.W - (g.1 + g.2)); omega, a3, a4⟩
  · rw [if_neg c, if_neg c]
    have nz : (wR f W gy b).2 ≠ 0 := fun e => c (by show (wR f W gy b).2 ≤ (wC f W gx b).2; have : 0 ≤ (wC f W gx b).2 := sC.1; omega)
    obtain ⟨g1, g2, g3, g4⟩ := gp_ok _ (sR.2.1 nz).1
    change b.Y ≤ (wR f W gy b).1 at g1
    change 1 ≤ (wR f W gy b).2 at g2
    change (wR f W gy b).1 + (wR f W gy b).2 ≤ _ at g3
    change ∀ k, (wR f W gy b).1 ≤ k → k < (wR f W gy b).1 + (wR f W gy b).2 → _ at g4
    generalize wR f W gy b = g at *
    rw [Int.toNat_of_nonneg i4] at g3
    have em : ∀ x y, g.1 ≤ y → y < g.1 + g.2 → b.X ≤ x → x < b.X + b.W → pxD W f x y = false := fun x y a1 a2 a3 a4 => (emR h.inn (by omega) (by omega)).1 (g4 y a1 a2) x a3 a4
    obtain ⟨x1, ⟨p1, p2, p3, p4⟩, p5⟩ := h.red.top
    obtain ⟨x2, ⟨q1, q2, q3, q4⟩, q5⟩ := h.red.bot
    have l1 : b.Y < g.1 := Int.not_le.1 fun d => by rw [em x1 b.Y d (by omega) p1 p2] at p5; cases p5
    have l2 : g.1 + g.2 < b.Y + b.H := Int.not_le.1 fun d => by rw [em x2 (b.Y + b.H - 1) (by omega) (by omega) q1 q2] at q5; cases q5
    refine ⟨⟨i1, i2, i3, by show 0 ≤ g.1 - b.Y; omega, i5, by show b.Y + (g.1 - b.Y) ≤ H; omega⟩, ⟨i1, by show 0 ≤ g.1 + g.2; omega, i3, by show 0 ≤ b.Y + b.H - (g.1 + g.2); omega, i5, by show g.1 + g.2 + (b.Y + b.H - (g.1 + g.2)) ≤ H; omega⟩,
      ⟨x1, b.Y, ⟨p1, p2, Int.le_refl _, by show b.Y < b.Y + (g.1 - b.Y); omega⟩, p5⟩, ⟨x2, b.Y + b.H - 1, ⟨q1, q2, by show g.1 + g.2 ≤ _; omega, by show _ < g.1 + g.2 + (b.Y + b.H - (g.1 + g.2)); omega⟩, q5⟩,
      ⟨Int.le_refl _, Int.le_refl _, Int.le_refl _, by show b.Y + (g.1 - b.Y) ≤ _; omega⟩, ⟨Int.le_refl _, Int.le_refl _, by show _ ≤ g.1 + g.2; omega, by show g.1 + g.2 + (b.Y + b.H - (g.1 + g.2)) ≤ _; omega⟩,
      by show b.W + (g.1 - b.Y) < _; omega, by show b.W + (b.Y + b.H - (g.1 + g.2)) < _; omega, ?_, ?_, ?_⟩
    · show b.W * (g.1 - b.Y) + b.W * (b.Y + b.H - (g.1 + g.2)) ≤ b.W * b.H
      rw [← Int.mul_add]
      exact Int.mul_le_mul_of_nonneg_left (by omega) i3
    · rintro x y ⟨a1, a2, a3, a4⟩ ⟨b1, b2, b3, b4⟩
      simp only at a1 a2 a3 a4 b1 b2 b3 b4
      omega
    · rintro x y ⟨a1, a2, a3, a4⟩ d
      by_cases c1 : y < g.1
      · exact .inl ⟨a1, a2, a3, by show y < b.Y + (g.1 - b.Y); omega⟩
      · by_cases c2 : y < g.1 + g.2
        · rw [em x y (by omega) c2 a1 a2] at d; cases d
        · exact .inr ⟨a1, a2, by show g.1 + g.2 ≤ y; omega, by show y < g.1 + g.2 + (b.Y + b.H - (g.1 + g.2)); omega⟩
theorem area_sub {t : Bx} (h : BSub b t) (k2 : 0 ≤ t.H) (j1 : 0 ≤ b.W) : t.W * t.H ≤ b.W * b.H := by
  obtain ⟨a1, a2, a3, a4⟩ := h
  exact Int.mul_le_mul (by omega) (by omega) k2 j1
theorem Sp.areas {p q : Bx} (h : Sp f W H b p q) : 1 ≤ (redB f W p).W * (redB f W p).H ∧ 1 ≤ (redB f W q).W * (redB f W q).H ∧ (redB f W p).W * (redB f W p).H + (redB f W q).W * (redB f W q).H ≤ b.W * b.H := by
  have r1 := redB_spec h.pin h.pd
  have r2 := redB_spec h.qin h.qd
  have p1 := r1.pos
  have p2 := r2.pos
  have a1 := area_sub r1.sub (by omega) h.pin.w0
  have a2 := area_sub r2.sub (by omega) h.qin.w0
  have a3 := h.area
  have m1 := Int.mul_pos (show 0 < (redB f W p).W by omega) (show 0 < (redB f W p).H by omega)
  have m2 := Int.mul_pos (show 0 < (redB f W q).W by omega) (show 0 < (redB f W q).H by omega)
  omega
theorem red_len {p : Bx} (h : BIn W H p) (d : HasD f W p) : (redB f W p).W + (redB f W p).H ≤ p.W + p.H := by
  obtain ⟨a1, a2, a3, a4⟩ := (redB_spec h d).sub
  omega
/-- what the leaves of the tree are -/
structure Lv (f : Nat → Bool) (W H gx gy : Int) (b : Bx) (l : List Bx) : Prop where
  tg : ∀ t ∈ l, Tg f W H t ∧ BSub b t
  lf : ∀ t ∈ l, isLf f W gx gy t
  all : ∀ x y, BHas b x y → pxD W f x y = true → ∃ t, t ∈ l ∧ BHas t x y
  apart : l.Pairwise fun s t => ∀ x y, BHas s x y → BHas t x y → False
  num : (l.length : Int) ≤ b.W * b.H
  pos : 1 ≤ l.length
theorem lv_spec : ∀ (k : Nat) {b : Bx}, Tg f W H b → b.W + b.H ≤ k → Lv f W H gx gy b (cutT f W gx gy k b).lvs
  | 0, b, h, hk => by have := h.red.pos; have : b.W + b.H ≤ ((0 : Nat) : Int) := hk; omega
  | k + 1, b, h, hk => by
    have hk' : b.W + b.H ≤ (k : Int) + 1 := hk
    have hp := h.red.pos
    unfold cutT
    by_cases c : isLf f W gx gy b
    · rw [if_pos c]
      show Lv f W H gx gy b [b]
      have m := Int.mul_pos (show 0 < b.W by omega) (show 0 < b.H by omega)
      exact ⟨fun t ht => by simp only [List.mem_singleton] at ht; subst ht; exact ⟨h, h.red.sub⟩, fun t ht => by simp only [List.mem_singleton] at ht; subst ht; exact c, fun x y a _ => ⟨b, by simp, a⟩, by simp, by simp; omega, by simp⟩
    · rw [if_neg c]
      have sp := split_spec h c
      have r1 := redB_spec sp.pin sp.pd
      have r2 := redB_spec sp.qin sp.qd
      have n1 := red_len sp.pin sp.pd
      have n2 := red_len sp.qin sp.qd
      have s1 := sp.pl
      have s2 := sp.ql
      have L1 := lv_spec k (tg_red sp.pin sp.pd) (by omega)
      have L2 := lv_spec k (tg_red sp.qin sp.qd) (by omega)
      have ar := sp.areas
      show Lv f W H gx gy b (BT.lvs _ ++ BT.lvs _)
      have up : ∀ {p t : Bx}, BSub b p → BSub p (redB f W p) → BSub (redB f W p) t → BSub b t := by
        rintro p t ⟨a1, a2, a3, a4⟩ ⟨b1, b2, b3, b4⟩ ⟨c1, c2, c3, c4⟩
        exact ⟨by omega, by omega, by omega, by omega⟩
      refine ⟨fun t ht => ?_, fun t ht => ?_, fun x y a d => ?_, ?_, ?_, ?_⟩
      · rcases List.mem_append.1 ht with ht | ht
        · exact ⟨(L1.tg t ht).1, up sp.ps r1.sub (L1.tg t ht).2⟩
        · exact ⟨(L2.tg t ht).1, up sp.qs r2.sub (L2.tg t ht).2⟩
      · rcases List.mem_append.1 ht with ht | ht
        · exact L1.lf t ht
        · exact L2.lf t ht
      · rcases sp.all x y a d with q | q
        · obtain ⟨t, t1, t2⟩ := L1.all x y (r1.all x y q d) d
          exact ⟨t, List.mem_append_left _ t1, t2⟩
        · obtain ⟨t, t1, t2⟩ := L2.all x y (r2.all x y q d) d
          exact ⟨t, List.mem_append_right _ t1, t2⟩
      · rw [List.pairwise_append]
        exact ⟨L1.apart, L2.apart, fun s hs t ht x y a1 a2 => sp.apart x y (r1.sub.has ((L1.tg s hs).2.has a1)) (r2.sub.has ((L2.tg t ht).2.has a2))⟩
      · rw [List.length_append]
        have := L1.num
        have := L2.num
        push_cast
        omega
      · rw [List.length_append]
        have := L1.pos
        omega
end
end Go.Bs
