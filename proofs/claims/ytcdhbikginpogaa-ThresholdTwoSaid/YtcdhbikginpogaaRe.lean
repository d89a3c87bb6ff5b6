/-
  Rendering of modules and bars: plain definitions and facts. No program is named here.
-/
import Derived.Test.YtcdhbikginpogaaPl
namespace Go.Bs
open Go.RowKit Go.Eng

section
variable {P : Program} {N : Sz} {X : List Nat} {w0 : World} {o : Oper} {L : List (Nat × Value)} {H : List Blk}
/-- append(nil, xs..): a copy, in front -/
theorem xo_grabNF {t e : TypeId} {z : Value} {bytes : Nat} {x y : Operand} {m c : Nat} {F : Nat → Value} {A : Option Addr} (ho : o.op = .call { callee := .builtin .append, args := #[x, y], argTypes := #[t, t] }) (ht : P.underlying t = some (.slice e)) (he : TyEN P e z 1 bytes)
    (hx : ev L x = some (.slice none 0 0)) (hy : ev L y = some (.slice A m c)) (hr : ∀ W, Ow X w0 W H → Rd W A (tab m F)) (h1 : ∀ u ∈ tab m F, u.oneCell' = true) (hm : 0 < m) (hb : m ≤ 1073741824) (hby : bytes ≤ 64) :
    XO P N X w0 o L H (fun v H' => ∃ g c sp, v = .slice (some ⟨g, 0, none⟩) m c ∧ H' = ⟨g, e, tab m F ++ sp⟩ :: H ∧ m ≤ c) := by
  have h := xo_grabN (P := P) (N := N) (X := X) (w0 := w0) (L := L) (H := H) ho ht he hx hy hr h1 hm hb hby
  refine fun a W hF hO K Q hK => h a W hF hO K Q fun v H' W' hR hO' hFr => ?_
  obtain ⟨g, c', sp, rfl, rfl, hc⟩ := hR
  exact hK _ (⟨g, e, tab m F ++ sp⟩ :: H) W' ⟨g, c', sp, rfl, rfl, hc⟩ (hO'.perm (List.perm_append_singleton _ _)) ⟨hFr.size, hFr.keep, fun b hb => hFr.ids b ((List.perm_append_singleton _ _).mem_iff.2 hb)⟩
theorem xo_grabLF {t e : TypeId} {z : Value} {bytes : Nat} {x y : Operand} {m c g0 : Nat} {F : Nat → Value} {A : Option Addr} {T : List Blk} (ho : o.op = .call { callee := .builtin .append, args := #[x, y], argTypes := #[t, t] }) (ht : P.underlying t = some (.slice e)) (he : TyEN P e z 1 bytes)
    (hx : ev L x = some (.slice (some ⟨g0, 0, none⟩) 0 0)) (hy : ev L y = some (.slice A m c)) (hr : ∀ W, Ow X w0 W (⟨g0, e, []⟩ :: T) → Rd W A (tab m F)) (h1 : ∀ u ∈ tab m F, u.oneCell' = true) (hm : 0 < m) (hb : m ≤ 1073741824) (hby : bytes ≤ 64) :
    XO P N X w0 o L (⟨g0, e, []⟩ :: T) (fun v H' => ∃ g c sp, v = .slice (some ⟨g, 0, none⟩) m c ∧ H' = ⟨g, e, tab m F ++ sp⟩ :: T ∧ m ≤ c) := by
  have h := xo_grabL (P := P) (N := N) (X := X) (w0 := w0) (L := L) (T := T) ho ht he hx hy hr h1 hm hb hby
  refine fun a W hF hO K Q hK => h a W hF hO K Q fun v H' W' hR hO' hFr => ?_
  obtain ⟨g, c', sp, rfl, rfl, hc⟩ := hR
  exact hK _ (⟨g, e, tab m F ++ sp⟩ :: T) W' ⟨g, c', sp, rfl, rfl, hc⟩ (hO'.perm (List.perm_append_singleton _ _)) ⟨hFr.size, hFr.keep, fun b hb => hFr.ids b ((List.perm_append_singleton _ _).mem_iff.2 hb)⟩
end

/-! ### a rectangle is darkened -/
def darkP (W x y dw j : Int) (i : Int) (f : Nat → Bool) (q : Nat) : Bool := if x ≤ (q : Int) % W ∧ ((q : Int) % W < x + dw ∧ y ≤ (q : Int) / W ∧ (q : Int) / W < j ∨ (q : Int) % W < i ∧ (q : Int) / W = j) then true else f q
def darkF (W x y dw dh : Int) (f : Nat → Bool) (q : Nat) : Bool := if x ≤ (q : Int) % W ∧ (q : Int) % W < x + dw ∧ y ≤ (q : Int) / W ∧ (q : Int) / W < y + dh then true else f q
theorem dark_step {W H x y dw j i : Int} {n q : Nat} {f f1 : Nat → Bool} (hW : 1 ≤ W) (hn : (n : Int) = W * H) (hi0 : x ≤ i) (hx0 : 0 ≤ x) (hiW : i < W) (hq : (q : Int) = j * W + i) (hI : ∀ p, p < n → f1 p = darkP W x y dw j i f p) : ∀ p, p < n → upd f1 q true p = darkP W x y dw j (i + 1) f p := by
  intro p hp
  obtain ⟨a, b, c, d, e⟩ := cell_b hW hn hp
  unfold darkP at *
  by_cases h : p = q
  · subst h
    rw [upd_eq, if_pos]
    rw [(dm hq (by omega) hiW).1, (dm hq (by omega) hiW).2]
    exact ⟨by omega, .inr ⟨by omega, rfl⟩⟩
  · rw [upd_ne h, hI p hp]
    have key : ¬ ((p : Int) % W = i ∧ (p : Int) / W = j) := by
      rintro ⟨h1, h2⟩
      rw [h1, h2] at e
      omega
    by_cases c1 : x ≤ (p : Int) % W ∧ ((p : Int) % W < x + dw ∧ y ≤ (p : Int) / W ∧ (p : Int) / W < j ∨ (p : Int) % W < i ∧ (p : Int) / W = j)
    · rw [if_pos c1, if_pos (by omega)]
    · rw [if_neg c1, if_neg (by omega)]
theorem dark_row {W x y dw j i i' : Int} {n : Nat} {f f1 : Nat → Bool} (hyj : y ≤ j) (hi : i = x + dw) (hi' : i' = x) (hI : ∀ p, p < n → f1 p = darkP W x y dw j i f p) : ∀ p, p < n → f1 p = darkP W x y dw (j + 1) i' f p := by
  intro p hp
  rw [hI p hp]
  unfold darkP
  by_cases c1 : x ≤ (p : Int) % W ∧ ((p : Int) % W < x + dw ∧ y ≤ (p : Int) / W ∧ (p : Int) / W < j ∨ (p : Int) % W < i ∧ (p : Int) / W = j)
  · rw [if_pos c1, if_pos (by omega)]
  · rw [if_neg c1, if_neg (by omega)]
theorem dark_new {W x y dw i : Int} {f : Nat → Bool} (hi : i = x) (p : Nat) : f p = darkP W x y dw y i f p := by
  unfold darkP
  rw [if_neg (by omega)]
theorem dark_done {W x y dw dh j i : Int} {n : Nat} {f f1 : Nat → Bool} (hj : j = y + dh) (hi : i = x) (hI : ∀ p, p < n → f1 p = darkP W x y dw j i f p) : ∀ p, p < n → f1 p = darkF W x y dw dh f p := by
  intro p hp
  rw [hI p hp]
  unfold darkP darkF
  by_cases c1 : x ≤ (p : Int) % W ∧ (p : Int) % W < x + dw ∧ y ≤ (p : Int) / W ∧ (p : Int) / W < y + dh
  · rw [if_pos c1, if_pos (by omega)]
  · rw [if_neg c1, if_neg (by omega)]

/-! ### render -/
def optB (s q : Int) : Bool := decide (1 ≤ s) && decide (s ≤ 64) && decide (0 ≤ q) && decide (q ≤ 64)
theorem optB_iff {s q : Int} : optB s q = true ↔ (1 ≤ s ∧ s ≤ 64 ∧ 0 ≤ q ∧ q ≤ 64) := by simp [optB, and_assoc]
/-- a rendered pixel, with the first i modules -/
def renP (W H : Int) (f : Nat → Bool) (s q : Int) (i : Int) (j : Nat) : Bool :=
  decide (0 ≤ (j : Int) % ((W + 2 * q) * s) / s - q ∧ (j : Int) % ((W + 2 * q) * s) / s - q < W ∧ 0 ≤ (j : Int) / ((W + 2 * q) * s) / s - q ∧ (j : Int) / ((W + 2 * q) * s) / s - q < H ∧ ((j : Int) / ((W + 2 * q) * s) / s - q) * W + ((j : Int) % ((W + 2 * q) * s) / s - q) < i) && f (((j : Int) / ((W + 2 * q) * s) / s - q) * W + ((j : Int) % ((W + 2 * q) * s) / s - q)).toNat
def renR (m : Pm Bool) (s q : Int) : Pm Bool × Int :=
  if m.vld = true then (if optB s q = true then (if fitsB ((m.W + 2 * q) * s) ((m.H + 2 * q) * s) = true then (⟨(m.W + 2 * q) * s, (m.H + 2 * q) * s, ((m.W + 2 * q) * s * ((m.H + 2 * q) * s)).toNat, renP m.W m.H m.f s q m.n⟩, 0) else (noB, 4)) else (noB, 3)) else (noB, 1)
theorem renR_no {W H s q : Int} {n : Nat} {f : Nat → Bool} (h : vldB W H n = false) : renR ⟨W, H, n, f⟩ s q = (noB, 1) := by simp [renR, Pm.vld, h]
theorem renR_range {W H s q : Int} {n : Nat} {f : Nat → Bool} (h : vldB W H n = true) (ho : optB s q = false) : renR ⟨W, H, n, f⟩ s q = (noB, 3) := by simp [renR, Pm.vld, h, ho]
theorem renR_long {W H s q : Int} {n : Nat} {f : Nat → Bool} (h : vldB W H n = true) (ho : optB s q = true) (hf : fitsB ((W + 2 * q) * s) ((H + 2 * q) * s) = false) : renR ⟨W, H, n, f⟩ s q = (noB, 4) := by simp [renR, Pm.vld, h, ho, hf]
theorem renR_ok {W H s q : Int} {n : Nat} {f : Nat → Bool} (h : vldB W H n = true) (ho : optB s q = true) (hf : fitsB ((W + 2 * q) * s) ((H + 2 * q) * s) = true) : renR ⟨W, H, n, f⟩ s q = (⟨(W + 2 * q) * s, (H + 2 * q) * s, ((W + 2 * q) * s * ((H + 2 * q) * s)).toNat, renP W H f s q n⟩, 0) := by simp [renR, Pm.vld, h, ho, hf]
theorem renR_le {m : Pm Bool} {s q : Int} : (renR m s q).1.n ≤ 4194304 := by
  unfold renR
  split
  · split
    · split
      · rename_i h; have := fits_bd h; simp only; omega
      · simp [noB]
    · simp [noB]
  · simp [noB]
theorem div_iff {a s b : Int} (hs : 1 ≤ s) : a / s = b ↔ (b * s ≤ a ∧ a < b * s + s) := by
  have h1 := Int.mul_ediv_add_emod a s
  have h2 := Int.emod_nonneg a (show s ≠ 0 by omega)
  have h3 := Int.emod_lt_of_pos a (show 0 < s by omega)
  rw [Int.mul_comm] at h1
  constructor
  · intro h; subst h; omega
  · rintro ⟨h4, h5⟩
    have : a = b * s + (a - b * s) := by omega
    exact (dm this (by omega) (by omega)).1
theorem ren_new {W H : Int} {f : Nat → Bool} {s q : Int} (j : Nat) : false = renP W H f s q ((0 : Nat) : Int) j := by
  unfold renP
  by_cases h : 0 ≤ (j : Int) % ((W + 2 * q) * s) / s - q ∧ (j : Int) % ((W + 2 * q) * s) / s - q < W ∧ 0 ≤ (j : Int) / ((W + 2 * q) * s) / s - q ∧ (j : Int) / ((W + 2 * q) * s) / s - q < H ∧ ((j : Int) / ((W + 2 * q) * s) / s - q) * W + ((j : Int) % ((W + 2 * q) * s) / s - q) < ((0 : Nat) : Int)
  · have : 0 ≤ ((j : Int) / ((W + 2 * q) * s) / s - q) * W := Int.mul_nonneg h.2.2.1 (by omega)
    omega
  · rw [decide_eq_false h]; rfl
theorem ren_skip {W H : Int} {f : Nat → Bool} {s q : Int} {i : Nat} {N : Nat} {f1 : Nat → Bool} (hf : f i = false) (hI : ∀ j, j < N → f1 j = renP W H f s q i j) : ∀ j, j < N → f1 j = renP W H f s q ((i + 1 : Nat) : Int) j := by
  intro j hj
  rw [hI j hj]
  unfold renP
  by_cases h : ((j : Int) / ((W + 2 * q) * s) / s - q) * W + ((j : Int) % ((W + 2 * q) * s) / s - q) = i
  · rw [h]
    simp [hf]
  · congr 1
    rw [decide_eq_decide]
    push_cast
    omega
theorem ren_step {W H : Int} {n : Nat} {f : Nat → Bool} {s q : Int} {i : Nat} {N : Nat} {f1 : Nat → Bool} (hv : vldB W H n = true) (hs : 1 ≤ s) (hi : i < n) (hf : f i = true) (hI : ∀ j, j < N → f1 j = renP W H f s q i j) :
    ∀ j, j < N → darkF ((W + 2 * q) * s) (((i : Int) % W + q) * s) (((i : Int) / W + q) * s) s s f1 j = renP W H f s q ((i + 1 : Nat) : Int) j := by
  intro j hj
  obtain ⟨a, b, c, d, e⟩ := cell_bd hv hi
  have hx := div_iff (a := (j : Int) % ((W + 2 * q) * s)) (b := (i : Int) % W + q) hs
  have hy := div_iff (a := (j : Int) / ((W + 2 * q) * s)) (b := (i : Int) / W + q) hs
  unfold darkF
  by_cases h : ((i : Int) % W + q) * s ≤ (j : Int) % ((W + 2 * q) * s) ∧ (j : Int) % ((W + 2 * q) * s) < ((i : Int) % W + q) * s + s ∧ ((i : Int) / W + q) * s ≤ (j : Int) / ((W + 2 * q) * s) ∧ (j : Int) / ((W + 2 * q) * s) < ((i : Int) / W + q) * s + s
  · rw [if_pos h]
    have ex := hx.2 ⟨h.1, h.2.1⟩
    have ey := hy.2 ⟨h.2.2.1, h.2.2.2⟩
    unfold renP
    rw [ex, ey, show (i : Int) % W + q - q = (i : Int) % W by omega, show (i : Int) / W + q - q = (i : Int) / W by omega, e]
    rw [decide_eq_true (by push_cast; omega)]
    simp [hf]
  · rw [if_neg h, hI j hj]
    unfold renP
    congr 1
    rw [decide_eq_decide]
    have key : ¬ ((j : Int) % ((W + 2 * q) * s) / s - q = (i : Int) % W ∧ (j : Int) / ((W + 2 * q) * s) / s - q = (i : Int) / W) := by
      rintro ⟨h1, h2⟩
      have := hx.1 (by omega)
      have := hy.1 (by omega)
      omega
    generalize hX : (j : Int) % ((W + 2 * q) * s) / s - q = x at *
    generalize hY : (j : Int) / ((W + 2 * q) * s) / s - q = y at *
    push_cast
    constructor
    · rintro ⟨h1, h2, h3, h4, h5⟩
      exact ⟨h1, h2, h3, h4, by omega⟩
    · rintro ⟨h1, h2, h3, h4, h5⟩
      refine ⟨h1, h2, h3, h4, ?_⟩
      rcases Int.lt_or_eq_of_le (show y * W + x ≤ i by omega) with h6 | h6
      · exact h6
      · exfalso
        have := dm (show (i : Int) = y * W + x by omega) h1 h2
        exact key ⟨this.2.symm, this.1.symm⟩
/-- the document's pixel -/
theorem ren_at {W H : Int} {n : Nat} {f : Nat → Bool} {s q x y : Int} {k : Nat} (hv : vldB W H n = true) (hk : (k : Int) = y * ((W + 2 * q) * s) + x) (hx : 0 ≤ x) (hx1 : x < (W + 2 * q) * s) : atB W H n f (x / s - q) (y / s - q) = renP W H f s q n k := by
  obtain ⟨v1, v2, v3, v4, v5, v6⟩ := vldB_iff.1 hv
  unfold renP atB
  rw [(dm hk hx hx1).1, (dm hk hx hx1).2, hv, Bool.true_and]
  congr 1
  refine bool_ext ?_
  rw [inB_iff, decide_eq_true_eq]
  constructor
  · rintro ⟨a, b, c, d⟩
    have := idx_bd a b c d
    exact ⟨a, b, c, d, by omega⟩
  · rintro ⟨a, b, c, d, _⟩; exact ⟨a, b, c, d⟩

/-! ### bars -/
def barP (n : Nat) (f : Nat → Bool) (ht s q : Int) (i : Int) (j : Nat) : Bool :=
  decide (0 ≤ (j : Int) % ((n + 2 * q) * s) / s - q ∧ (j : Int) % ((n + 2 * q) * s) / s - q < i ∧ q * s ≤ (j : Int) / ((n + 2 * q) * s) ∧ (j : Int) / ((n + 2 * q) * s) < q * s + ht) && f ((j : Int) % ((n + 2 * q) * s) / s - q).toNat
def barR (n : Nat) (f : Nat → Bool) (ht s q : Int) : Pm Bool × Int :=
  if n = 0 then (noB, 5) else if 65536 < n then (noB, 4) else if ht < 1 ∨ 4096 < ht ∨ optB s q = false then (noB, 3) else
    if fitsB ((n + 2 * q) * s) (ht + 2 * (q * s)) = true then (⟨(n + 2 * q) * s, ht + 2 * (q * s), ((n + 2 * q) * s * (ht + 2 * (q * s))).toNat, barP n f ht s q n⟩, 0) else (noB, 4)
theorem barR_le {n : Nat} {f : Nat → Bool} {ht s q : Int} : (barR n f ht s q).1.n ≤ 4194304 := by
  unfold barR
  split
  · simp [noB]
  · split
    · simp [noB]
    · split
      · simp [noB]
      · split
        · rename_i h; have := fits_bd h; simp only; omega
        · simp [noB]
theorem bar_new {n : Nat} {f : Nat → Bool} {ht s q : Int} (j : Nat) : false = barP n f ht s q ((0 : Nat) : Int) j := by
  unfold barP
  rw [decide_eq_false (by omega)]
  rfl
theorem bar_skip {n : Nat} {f : Nat → Bool} {ht s q : Int} {i N : Nat} {f1 : Nat → Bool} (hf : f i = false) (hI : ∀ j, j < N → f1 j = barP n f ht s q i j) : ∀ j, j < N → f1 j = barP n f ht s q ((i + 1 : Nat) : Int) j := by
  intro j hj
  rw [hI j hj]
  unfold barP
  by_cases h : (j : Int) % (((n : Int) + 2 * q) * s) / s - q = i
  · rw [h]; simp [hf]
  · congr 1
    rw [decide_eq_decide]
    push_cast
    omega
theorem bar_step {n : Nat} {f : Nat → Bool} {ht s q : Int} {i N : Nat} {f1 : Nat → Bool} (hs : 1 ≤ s) (hf : f i = true) (hI : ∀ j, j < N → f1 j = barP n f ht s q i j) :
    ∀ j, j < N → darkF ((n + 2 * q) * s) (q * s + i * s) (q * s) s ht f1 j = barP n f ht s q ((i + 1 : Nat) : Int) j := by
  intro j hj
  have hx := div_iff (a := (j : Int) % (((n : Int) + 2 * q) * s)) (b := (i : Int) + q) hs
  rw [show ((i : Int) + q) * s = i * s + q * s from Int.add_mul _ _ _] at hx
  unfold darkF
  by_cases h : q * s + i * s ≤ (j : Int) % (((n : Int) + 2 * q) * s) ∧ (j : Int) % (((n : Int) + 2 * q) * s) < q * s + i * s + s ∧ q * s ≤ (j : Int) / (((n : Int) + 2 * q) * s) ∧ (j : Int) / (((n : Int) + 2 * q) * s) < q * s + ht
  · rw [if_pos h]
    have ex := hx.2 (by omega)
    unfold barP
    rw [ex, show (i : Int) + q - q = (i : Int) by omega, decide_eq_true (by push_cast; omega)]
    simp [hf]
  · rw [if_neg h, hI j hj]
    unfold barP
    congr 1
    rw [decide_eq_decide]
    have key : ¬ ((j : Int) % (((n : Int) + 2 * q) * s) / s - q = (i : Int) ∧ q * s ≤ (j : Int) / (((n : Int) + 2 * q) * s) ∧ (j : Int) / (((n : Int) + 2 * q) * s) < q * s + ht) := by
      rintro ⟨h1, h2, h3⟩
      have := hx.1 (by omega)
      omega
    push_cast
    omega
theorem bar_at {n : Nat} {f : Nat → Bool} {ht s q x y : Int} {k : Nat} (hk : (k : Int) = y * ((n + 2 * q) * s) + x) (hx : 0 ≤ x) (hx1 : x < (n + 2 * q) * s) :
    (decide (0 ≤ x / s - q) && decide (x / s - q < n) && f (x / s - q).toNat && decide (q * s ≤ y) && decide (y < q * s + ht)) = barP n f ht s q n k := by
  unfold barP
  rw [(dm hk hx hx1).1, (dm hk hx hx1).2]
  refine bool_ext ?_
  simp only [Bool.and_eq_true, decide_eq_true_eq]
  constructor
  · rintro ⟨⟨⟨⟨a, b⟩, c⟩, d⟩, e⟩; exact ⟨⟨a, b, d, e⟩, c⟩
  · rintro ⟨⟨a, b, d, e⟩, c⟩; exact ⟨⟨⟨⟨a, b⟩, c⟩, d⟩, e⟩
theorem opt_mul {a s q : Int} (h1 : 1 ≤ a) (h2 : a ≤ 65536) (hs : 1 ≤ s) (hs1 : s ≤ 64) (hq : 0 ≤ q) (hq1 : q ≤ 64) : 1 ≤ (a + 2 * q) * s ∧ (a + 2 * q) * s ≤ 4202496 :=
  ⟨Int.mul_pos (by omega) (by omega), Int.le_trans (Int.mul_le_mul (show a + 2 * q ≤ 65664 by omega) hs1 (by omega) (by omega)) (by omega)⟩
theorem ren_bd {W x s q : Int} (hx : 0 ≤ x) (hx1 : x < W) (hs : 1 ≤ s) (hq : 0 ≤ q) : 0 ≤ (x + q) * s ∧ (x + q) * s + s ≤ (W + 2 * q) * s := by
  refine ⟨Int.mul_nonneg (by omega) (by omega), ?_⟩
  have h : (x + q + 1) * s ≤ (W + 2 * q) * s := Int.mul_le_mul_of_nonneg_right (by omega) (by omega)
  rw [Int.add_mul (x + q), Int.one_mul] at h
  exact h
theorem div_bd {a s : Int} (ha : 0 ≤ a) (hs : 1 ≤ s) : 0 ≤ a / s ∧ a / s ≤ a := ⟨Int.ediv_nonneg ha (by omega), Int.ediv_le_self s ha⟩
theorem dirtR_no {W H d s : Int} {n : Nat} {f : Nat → Bool} (h : vldB W H n = false) : dirtR ⟨W, H, n, f⟩ d s = (noB, 1) := by simp [dirtR, Pm.vld, h]
theorem dirtR_ok {W H d s : Int} {n : Nat} {f : Nat → Bool} (h : vldB W H n = true) (hz : (placesR W H d s).2 = 0) : dirtR ⟨W, H, n, f⟩ d s = (⟨W, H, n, drtF (plF n s) f d.toNat⟩, 0) := by simp [dirtR, Pm.vld, h, hz]
theorem dirtR_err {W H d s : Int} {n : Nat} {f : Nat → Bool} (h : vldB W H n = true) (hz : (placesR W H d s).2 ≠ 0) : dirtR ⟨W, H, n, f⟩ d s = (noB, (placesR W H d s).2) := by simp [dirtR, Pm.vld, h, hz]
theorem opt_mul1 {s q : Int} (hs : 1 ≤ s) (hs1 : s ≤ 64) (hq : 0 ≤ q) (hq1 : q ≤ 64) : 0 ≤ q * s ∧ q * s ≤ 4096 :=
  ⟨Int.mul_nonneg hq (by omega), Int.le_trans (Int.mul_le_mul hq1 hs1 (by omega) (by omega)) (by omega)⟩
theorem bar_bd {n i : Nat} {s q : Int} (hi : i < n) (hs : 1 ≤ s) (hq : 0 ≤ q) : 0 ≤ (i : Int) * s ∧ q * s + (i : Int) * s + s ≤ ((n : Int) + 2 * q) * s ∧ 0 ≤ q * s := by
  have h0 : 0 ≤ q * s := Int.mul_nonneg hq (by omega)
  have h1 : ((i : Int) + 1) * s ≤ (n : Int) * s := Int.mul_le_mul_of_nonneg_right (by omega) (by omega)
  rw [add1_mul] at h1
  rw [Int.add_mul, Int.mul_assoc]
  exact ⟨Int.mul_nonneg (by omega) (by omega), by omega, h0⟩
theorem barR_long1 {n : Nat} {f : Nat → Bool} {ht s q : Int} (h : 65536 < (n : Int)) : barR n f ht s q = (noB, 4) := by unfold barR; rw [if_neg (by omega), if_pos (by omega)]
theorem barR_range {n : Nat} {f : Nat → Bool} {ht s q : Int} (h1 : n ≠ 0) (h2 : ¬ 65536 < (n : Int)) (h : (ht < 1 ∨ 4096 < ht) ∨ optB s q = false) : barR n f ht s q = (noB, 3) := by
  unfold barR
  rw [if_neg h1, if_neg (by omega), if_pos]
  rcases h with (h | h) | h
  · exact .inl h
  · exact .inr (.inl h)
  · exact .inr (.inr h)
theorem barR_long {n : Nat} {f : Nat → Bool} {ht s q : Int} (h1 : n ≠ 0) (h2 : ¬ 65536 < (n : Int)) (h3 : ¬ ht < 1) (h4 : ¬ 4096 < ht) (ho : optB s q = true) (hf : fitsB ((n + 2 * q) * s) (ht + 2 * (q * s)) = false) : barR n f ht s q = (noB, 4) := by
  unfold barR
  rw [if_neg h1, if_neg (by omega), if_neg (by simp [ho]; omega), if_neg (by simp [hf])]
theorem barR_ok {n : Nat} {f : Nat → Bool} {ht s q : Int} (h1 : n ≠ 0) (h2 : ¬ 65536 < (n : Int)) (h3 : ¬ ht < 1) (h4 : ¬ 4096 < ht) (ho : optB s q = true) (hf : fitsB ((n + 2 * q) * s) (ht + 2 * (q * s)) = true) : barR n f ht s q = (⟨(n + 2 * q) * s, ht + 2 * (q * s), ((n + 2 * q) * s * (ht + 2 * (q * s))).toNat, barP n f ht s q n⟩, 0) := by
  unfold barR
  rw [if_neg h1, if_neg (by omega), if_neg (by simp [ho]; omega), if_pos hf]
def val43 (W H : Int) (n : Nat) (most : Int) : Bool := decide (1 ≤ W) && decide (W ≤ min most 4096) && decide (1 ≤ H) && decide (H ≤ min most 4096) && decide (W * H ≤ most) && decide ((n : Int) = W * H)
theorem val43_vld {W H most : Int} {n : Nat} (h : val43 W H n most = true) (hm : most ≤ 4194304) : vldB W H n = true ∧ (n : Int) ≤ most := by
  simp only [val43, Bool.and_eq_true, decide_eq_true_eq] at h
  obtain ⟨⟨⟨⟨⟨h1, h2⟩, h3⟩, h4⟩, h5⟩, h6⟩ := h
  exact ⟨vldB_iff.2 ⟨h1, by omega, h3, by omega, by omega, h6⟩, by omega⟩
theorem eqT_rf {α : Type} [DecidableEq α] {n : Nat} {f : Nat → α} : eqT n f n f = true := eqT_yes rfl fun _ _ => rfl
theorem Rd.pre {w : World} {A : Option Addr} {n k : Nat} {F : Nat → Value} (h : Rd w A (tab n F)) (hk : k ≤ n) : Rd w A (tab k F) := by
  intro i hi
  have hi' : i < k := by simpa using hi
  obtain ⟨h1, h2⟩ := h i (by simp; omega)
  exact ⟨h1, by rw [tab_get hi']; rw [tab_get (show i < n by omega)] at h2; exact h2⟩
/-! ### dirt twice -/
theorem drt_ch {N : Nat} {s : Int} {f : Nat → Bool} : ∀ {k : Nat}, k ≤ N → ∀ j, drtF (plF N s) f k j = (f j != chF N s k j)
  | 0, _, j => by show f j = (f j != false); cases f j <;> rfl
  | k + 1, hk, j => by
    have ih := drt_ch (N := N) (s := s) (f := f) (k := k) (by omega)
    show upd (drtF (plF N s) f k) (plF N s k) (!drtF (plF N s) f k (plF N s k)) j = (f j != upd (chF N s k) (plF N s k) true j)
    by_cases e : j = plF N s k
    · subst e
      rw [upd_eq, upd_eq, ih, plF_new (by omega)]
      cases f (plF N s k) <;> rfl
    · rw [upd_ne e, upd_ne e, ih]
theorem dirt_ok {m : Pm Bool} {d s : Int} (hv : m.vld = true) (h0 : 0 ≤ d) (h1 : d ≤ m.n) (h2 : d ≤ 65536) : placesR m.W m.H d s = ((d.toNat, fun i => (plF m.n s i : Int)), 0) ∧ dirtR m d s = (⟨m.W, m.H, m.n, drtF (plF m.n s) m.f d.toNat⟩, 0) := by
  have v := vldB_iff.1 (show vldB m.W m.H m.n = true from hv)
  have hf : fitsB m.W m.H = true := fitsB_iff.2 (by omega)
  have e : (m.W * m.H).toNat = m.n := by omega
  have hp := placesR_ok (n := d) (s := s) hf (by omega)
  rw [e] at hp
  refine ⟨hp, ?_⟩
  unfold dirtR
  rw [if_pos hv, hp]
  rfl
theorem dirt_two {m : Pm Bool} {d s : Int} (hv : m.vld = true) (h0 : 0 ≤ d) (h1 : d ≤ m.n) (h2 : d ≤ 65536) : (dirtR m d s).2 = 0 ∧ (dirtR m d s).1.n = m.n ∧ (dirtR (dirtR m d s).1 d s).2 = 0 ∧ (dirtR (dirtR m d s).1 d s).1.eqv m := by
  rw [(dirt_ok hv h0 h1 h2).2]
  have hv2 : (⟨m.W, m.H, m.n, drtF (plF m.n s) m.f d.toNat⟩ : Pm Bool).vld = true := hv
  rw [(dirt_ok (m := ⟨m.W, m.H, m.n, drtF (plF m.n s) m.f d.toNat⟩) (s := s) hv2 h0 h1 h2).2]
  refine ⟨rfl, rfl, rfl, rfl, rfl, rfl, fun j hj => ?_⟩
  show drtF (plF m.n s) (drtF (plF m.n s) m.f d.toNat) d.toNat j = m.f j
  rw [drt_ch (by omega), drt_ch (by omega)]
  cases m.f j <;> cases chF m.n s d.toNat j <;> rfl
theorem dirt_taken {m : Pm Bool} {d s : Int} {i : Nat} (hv : m.vld = true) (h0 : 0 ≤ d) (h1 : d ≤ m.n) (h2 : d ≤ 65536) : (((dirtR m d s).1.f i != m.f i) != chF m.n s d.toNat i) = false := by
  rw [(dirt_ok hv h0 h1 h2).2]
  show ((drtF (plF m.n s) m.f d.toNat i != m.f i) != chF m.n s d.toNat i) = false
  rw [drt_ch (by omega)]
  cases m.f i <;> cases chF m.n s d.toNat i <;> rfl
end Go.Bs
