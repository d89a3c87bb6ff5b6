/-
  Plain definitions and facts: tables, sizes, pixels. No program and no model is named here but the values of cells.
-/
import Derived.Test.YtnmiljloifbjeaaRgn
namespace Go.Bs
open Go.Eng Go.RowKit

/-- the list of f 0, .. , f (n - 1) -/
def tab {α : Type} (n : Nat) (f : Nat → α) : List α := (List.range n).map f
def bv (f : Nat → Bool) (i : Nat) : Value := .bool (f i)
def iv (k : IntKind) (f : Nat → Int) (i : Nat) : Value := .int k (f i)
def upd {α : Type} (f : Nat → α) (k : Nat) (v : α) : Nat → α := fun i => if i = k then v else f i

section tab
variable {α : Type} {n : Nat} {f g : Nat → α}
@[simp] theorem tab_len : (tab n f).length = n := by simp [tab]
theorem tab_get {k : Nat} (h : k < n) : (tab n f)[k]? = some (f k) := by simp [tab, h]
theorem tab_succ : tab (n + 1) f = tab n f ++ [f n] := by simp [tab, List.range_succ]
@[simp] theorem tab_zero : tab 0 f = [] := rfl
theorem tab_ext (h : ∀ i, i < n → f i = g i) : tab n f = tab n g := by
  unfold tab
  exact List.map_congr_left fun i hi => h i (List.mem_range.1 hi)
theorem tab_inj (h : tab n f = tab n g) {i : Nat} (hi : i < n) : f i = g i := by
  have h1 : (tab n f)[i]? = (tab n g)[i]? := by rw [h]
  rw [tab_get hi, tab_get hi] at h1
  exact Option.some.inj h1
theorem tab_set {k : Nat} {v : α} : (tab n f).set k v = tab n (upd f k v) := by
  apply List.ext_getElem?
  intro i
  by_cases hi : i < n
  · rw [tab_get hi]
    by_cases e : k = i
    · subst e
      rw [List.getElem?_set_self (by simpa using hi)]
      simp [upd]
    · rw [List.getElem?_set_ne e, tab_get hi]
      simp [upd, Ne.symm e]
  · have h1 : ((tab n f).set k v).length ≤ i := by simp; omega
    have h2 : (tab n (upd f k v)).length ≤ i := by simp; omega
    rw [List.getElem?_eq_none h1, List.getElem?_eq_none h2]
theorem tab_rep {v : α} : List.replicate n v = tab n (fun _ => v) := by
  apply List.ext_getElem?
  intro i
  by_cases hi : i < n
  · rw [tab_get hi]; simp [hi]
  · rw [List.getElem?_eq_none (by simp; omega), List.getElem?_eq_none (by simp; omega)]
theorem tab_app {m : Nat} : tab n f ++ tab m g = tab (n + m) (fun i => if i < n then f i else g (i - n)) := by
  apply List.ext_getElem?
  intro i
  by_cases hi : i < n
  · rw [List.getElem?_append_left (by simpa using hi), tab_get hi, tab_get (by omega)]; simp [hi]
  · rw [List.getElem?_append_right (by simp; omega), tab_len]
    by_cases h2 : i - n < m
    · rw [tab_get h2, tab_get (by omega)]; simp [hi]
    · rw [List.getElem?_eq_none (by simp; omega), List.getElem?_eq_none (by simp; omega)]
theorem tab_drop {k : Nat} : (tab n f).drop k = tab (n - k) (fun i => f (k + i)) := by
  apply List.ext_getElem?
  intro i
  rw [List.getElem?_drop]
  by_cases hi : k + i < n
  · rw [tab_get hi, tab_get (by omega)]
  · rw [List.getElem?_eq_none (by simp; omega), List.getElem?_eq_none (by simp; omega)]
theorem tab_take {k : Nat} (h : k ≤ n) : (tab n f).take k = tab k f := by
  apply List.ext_getElem?
  intro i
  by_cases hi : i < k
  · rw [List.getElem?_take_of_lt hi, tab_get (by omega), tab_get hi]
  · rw [List.getElem?_eq_none (by simp; omega), List.getElem?_eq_none (by simp; omega)]
theorem tab_of (l : List α) (d : α) : l = tab l.length (fun i => l.getD i d) := by
  apply List.ext_getElem?
  intro i
  by_cases hi : i < l.length
  · rw [tab_get hi]; simp [hi]
  · rw [List.getElem?_eq_none (by omega), List.getElem?_eq_none (by simp; omega)]
end tab
theorem tab_getb {n k : Nat} {f : Nat → Bool} (h : k < n) : (tab n (bv f))[k]? = some (.bool (f k)) := tab_get h
theorem tab_geti {q : IntKind} {n k : Nat} {f : Nat → Int} (h : k < n) : (tab n (iv q f))[k]? = some (.int q (f k)) := tab_get h
theorem tab_setb {n k : Nat} {f : Nat → Bool} {b : Bool} : (tab n (bv f)).set k (.bool b) = tab n (bv (upd f k b)) := by
  rw [tab_set]; exact tab_ext fun i _ => by by_cases e : i = k <;> simp [upd, bv, e]
theorem tab_seti {q : IntKind} {n k : Nat} {f : Nat → Int} {z : Int} : (tab n (iv q f)).set k (.int q z) = tab n (iv q (upd f k z)) := by
  rw [tab_set]; exact tab_ext fun i _ => by by_cases e : i = k <;> simp [upd, iv, e]
theorem tab_repb {n : Nat} {b : Bool} : List.replicate n (Value.bool b) = tab n (bv fun _ => b) := tab_rep
theorem tab_repi {n : Nat} {q : IntKind} {z : Int} : List.replicate n (Value.int q z) = tab n (iv q fun _ => z) := tab_rep
theorem tabb_ext {n : Nat} {f g : Nat → Bool} (h : ∀ i, i < n → f i = g i) : tab n (bv f) = tab n (bv g) := tab_ext fun i hi => by unfold bv; rw [h i hi]
theorem tabi_ext {q : IntKind} {n : Nat} {f g : Nat → Int} (h : ∀ i, i < n → f i = g i) : tab n (iv q f) = tab n (iv q g) := tab_ext fun i hi => by unfold iv; rw [h i hi]
theorem tab_oneb {n : Nat} {f : Nat → Bool} : ∀ u ∈ tab n (bv f), u.oneCell' = true := by
  intro u hu
  obtain ⟨i, _, rfl⟩ := List.mem_map.1 hu
  rfl
theorem tab_onei {q : IntKind} {n : Nat} {f : Nat → Int} : ∀ u ∈ tab n (iv q f), u.oneCell' = true := by
  intro u hu
  obtain ⟨i, _, rfl⟩ := List.mem_map.1 hu
  rfl
theorem upd_eq {α : Type} {f : Nat → α} {k : Nat} {v : α} : upd f k v k = v := by simp [upd]
theorem upd_ne {α : Type} {f : Nat → α} {k i : Nat} {v : α} (h : i ≠ k) : upd f k v i = f i := by simp [upd, h]

theorem Rd.tabb {w : World} {A : Option Addr} {n : Nat} {f : Nat → Bool} (h : Rd w A (tab n (bv f))) {k : Nat} (hk : k < n) : w.cell? ⟨bl A, of A + k, none⟩ = some (.bool (f k)) := h.cell (tab_getb hk)
theorem Rd.tabi {q : IntKind} {w : World} {A : Option Addr} {n : Nat} {f : Nat → Int} (h : Rd w A (tab n (iv q f))) {k : Nat} (hk : k < n) : w.cell? ⟨bl A, of A + k, none⟩ = some (.int q (f k)) := h.cell (tab_geti hk)

theorem ret_bool {a b : Bool} (h : a = b) : Ending.returned (.bool a) = .returned (.bool b) := by rw [h]
theorem ret_int {k : IntKind} {a b : Int} (h : a = b) : Ending.returned (.int k a) = .returned (.int k b) := by rw [h]

/-! ### sizes -/
def fitsB (a b : Int) : Bool := decide (1 ≤ a) && decide (a ≤ 4096) && decide (1 ≤ b) && decide (b ≤ 4096) && decide (a * b ≤ 4194304)
theorem fitsB_iff {a b : Int} : fitsB a b = true ↔ (1 ≤ a ∧ a ≤ 4096 ∧ 1 ≤ b ∧ b ≤ 4096 ∧ a * b ≤ 4194304) := by simp [fitsB, and_assoc]
theorem mul_bd {a b : Int} (h1 : 1 ≤ a) (h2 : a ≤ 4096) (h3 : 1 ≤ b) (h4 : b ≤ 4096) : 1 ≤ a * b ∧ a * b ≤ 16777216 := by
  constructor
  · exact Int.mul_pos (by omega) (by omega)
  · exact Int.le_trans (Int.mul_le_mul_of_nonneg_right h2 (by omega)) (by omega)
theorem mul_lo {a b : Int} (h : (decide (1 ≤ a) && decide (a ≤ 4096) && decide (1 ≤ b) && decide (b ≤ 4096)) = true) : -9223372036854775808 ≤ a * b := by
  simp only [Bool.and_eq_true, decide_eq_true_eq] at h
  have := mul_bd h.1.1.1 h.1.1.2 h.1.2 h.2
  omega
theorem mul_hi {a b : Int} (h : (decide (1 ≤ a) && decide (a ≤ 4096) && decide (1 ≤ b) && decide (b ≤ 4096)) = true) : a * b ≤ 9223372036854775807 := by
  simp only [Bool.and_eq_true, decide_eq_true_eq] at h
  have := mul_bd h.1.1.1 h.1.1.2 h.1.2 h.2
  omega
theorem fits_bd {a b : Int} (h : fitsB a b = true) : 1 ≤ a * b ∧ a * b ≤ 4194304 := by
  obtain ⟨h1, h2, h3, h4, h5⟩ := fitsB_iff.1 h
  exact ⟨(mul_bd h1 h2 h3 h4).1, h5⟩
theorem nfits_lo {a b : Int} (h : (!fitsB a b) = false) : -9223372036854775808 ≤ a * b := by
  have := fits_bd (a := a) (b := b) (by simpa using h); omega
theorem nfits_hi {a b : Int} (h : (!fitsB a b) = false) : a * b ≤ 9223372036854775807 := by
  have := fits_bd (a := a) (b := b) (by simpa using h); omega
theorem fits_lo {a b : Int} (h : fitsB a b = true) : -9223372036854775808 ≤ a * b := by have := fits_bd h; omega
theorem fits_hi {a b : Int} (h : fitsB a b = true) : a * b ≤ 9223372036854775807 := by have := fits_bd h; omega

def nearI (m n : Int) : Int := max (-m) (min n m)
/-- a bitmap of W by H with n elements is valid -/
def vldB (W H : Int) (n : Nat) : Bool := fitsB W H && decide ((n : Int) = W * H)
theorem vldB_iff {W H : Int} {n : Nat} : vldB W H n = true ↔ (1 ≤ W ∧ W ≤ 4096 ∧ 1 ≤ H ∧ H ≤ 4096 ∧ W * H ≤ 4194304 ∧ (n : Int) = W * H) := by simp [vldB, fitsB_iff, and_assoc]
def chk (W H : Int) (n : Nat) : Int := if vldB W H n = true then 0 else 1
theorem chk_ok {W H : Int} {n : Nat} (h : vldB W H n = true) : chk W H n = 0 := by simp [chk, h]
theorem chk_no {W H : Int} {n : Nat} (h : vldB W H n = false) : chk W H n = 1 := by simp [chk, h]
theorem chk_ne {W H : Int} {n : Nat} : decide (chk W H n ≠ 0) = !vldB W H n := by unfold chk; cases vldB W H n <;> rfl
theorem chk_eq {W H : Int} {n : Nat} : decide (chk W H n = 0) = vldB W H n := by unfold chk; cases vldB W H n <;> rfl

def inB (W H x y : Int) : Bool := decide (0 ≤ x) && decide (x < W) && decide (0 ≤ y) && decide (y < H)
theorem inB_iff {W H x y : Int} : inB W H x y = true ↔ (0 ≤ x ∧ x < W ∧ 0 ≤ y ∧ y < H) := by simp [inB, and_assoc]
/-- the pixel (x, y) -/
def atB (W H : Int) (n : Nat) (f : Nat → Bool) (x y : Int) : Bool := vldB W H n && inB W H x y && f (y * W + x).toNat
theorem idx_bd {W H x y : Int} (h1 : 0 ≤ x) (h2 : x < W) (h3 : 0 ≤ y) (h4 : y < H) : 0 ≤ y * W ∧ y * W + x < W * H ∧ y * W + W ≤ W * H := by
  have a : 0 ≤ y * W := Int.mul_nonneg h3 (by omega)
  have b : (y + 1) * W ≤ H * W := Int.mul_le_mul_of_nonneg_right (by omega) (by omega)
  rw [Int.add_mul, Int.mul_comm H W] at b
  omega

/-! ### the test of At -/
theorem at_all {W H x y : Int} {n : Nat} (h : (vldB W H n && decide (0 ≤ x) && decide (x < W) && decide (0 ≤ y) && decide (y < H)) = true) :
    vldB W H n = true ∧ 0 ≤ x ∧ x < W ∧ 0 ≤ y ∧ y < H ∧ 0 ≤ y * W ∧ y * W + x < n ∧ (n : Int) ≤ 4194304 := by
  simp only [Bool.and_eq_true, decide_eq_true_eq] at h
  obtain ⟨⟨⟨⟨hv, h1⟩, h2⟩, h3⟩, h4⟩ := h
  have hv' := vldB_iff.1 hv
  have hb := idx_bd h1 h2 h3 h4
  exact ⟨hv, h1, h2, h3, h4, hb.1, by omega, by omega⟩
section
variable {W H x y : Int} {n : Nat} (h : (vldB W H n && decide (0 ≤ x) && decide (x < W) && decide (0 ≤ y) && decide (y < H)) = true)
include h
theorem at_lo1 : -9223372036854775808 ≤ y * W := by have := at_all h; omega
theorem at_hi1 : y * W ≤ 9223372036854775807 := by have := at_all h; omega
theorem at_lo2 : -9223372036854775808 ≤ y * W + x := by have := at_all h; omega
theorem at_hi2 : y * W + x ≤ 9223372036854775807 := by have := at_all h; omega
theorem at_ge : 0 ≤ y * W + x := by have := at_all h; omega
theorem at_lt : y * W + x < n := by have := at_all h; omega
theorem at_ltn : (y * W + x).toNat < n := by have := at_all h; omega
end
theorem vld_no {W H : Int} {n : Nat} (h : (!fitsB W H || decide ((n : Int) ≠ W * H)) = true) : vldB W H n = false := by
  unfold vldB
  cases hf : fitsB W H
  · rfl
  · simp [hf] at h ⊢; exact h
theorem vld_yes {W H : Int} {n : Nat} (h : (!fitsB W H || decide ((n : Int) ≠ W * H)) = false) : vldB W H n = true := by
  unfold vldB
  cases hf : fitsB W H
  · simp [hf] at h
  · simp [hf] at h ⊢; exact h
/-- the program's At -/
theorem at_test {W H x y : Int} {n : Nat} {b : Bool} (h : (decide (chk W H n ≠ 0) || decide (x < 0) || decide (W ≤ x) || decide (y < 0) || decide (H ≤ y)) = b) :
    (vldB W H n && inB W H x y) = !b := by
  rw [← h, chk_ne]
  simp [inB, Bool.and_assoc, ← Int.not_lt]
theorem at_facts {W H x y : Int} {n : Nat} (h : (decide (chk W H n ≠ 0) || decide (x < 0) || decide (W ≤ x) || decide (y < 0) || decide (H ≤ y)) = false) :
    vldB W H n = true ∧ 0 ≤ x ∧ x < W ∧ 0 ≤ y ∧ y < H ∧ 0 ≤ y * W ∧ y * W + x < n ∧ (n : Int) ≤ 4194304 := by
  have h1 := at_test h
  simp only [Bool.not_false, Bool.and_eq_true] at h1
  obtain ⟨hv, hi⟩ := h1
  obtain ⟨h1, h2, h3, h4⟩ := inB_iff.1 hi
  have hv2 := vldB_iff.1 hv
  have hb := idx_bd h1 h2 h3 h4
  exact ⟨hv, h1, h2, h3, h4, hb.1, by omega, by omega⟩
theorem at_yes {W H x y : Int} {n : Nat} {f : Nat → Bool} (h : (decide (chk W H n ≠ 0) || decide (x < 0) || decide (W ≤ x) || decide (y < 0) || decide (H ≤ y)) = false) : atB W H n f x y = f (y * W + x).toNat := by
  simp [atB, at_test h]
theorem at_no {W H x y : Int} {n : Nat} {f : Nat → Bool} (h : (decide (chk W H n ≠ 0) || decide (x < 0) || decide (W ≤ x) || decide (y < 0) || decide (H ≤ y)) = true) : atB W H n f x y = false := by
  simp [atB, at_test h]
def smallB (w h : Int) : Bool := decide (w < 1) || decide (h < 1) || decide (4096 < w) || decide (4096 < h) || decide (w * h ≤ 40000)
theorem small_bd {a b : Int} (h : (decide (a < 1) || decide (b < 1) || decide (4096 < a) || decide (4096 < b)) = false) : 1 ≤ a * b ∧ a * b ≤ 16777216 := by
  simp only [Bool.or_eq_false_iff, decide_eq_false_iff_not] at h
  exact mul_bd (by omega) (by omega) (by omega) (by omega)
theorem small_lo {a b : Int} (h : (decide (a < 1) || decide (b < 1) || decide (4096 < a) || decide (4096 < b)) = false) : -9223372036854775808 ≤ a * b := by have := small_bd h; omega
theorem small_hi {a b : Int} (h : (decide (a < 1) || decide (b < 1) || decide (4096 < a) || decide (4096 < b)) = false) : a * b ≤ 9223372036854775807 := by have := small_bd h; omega

/-! ### tables in memory -/
theorem _root_.Go.Eng.Ow.pick {X : List Nat} {w0 w : World} {H : List Blk} (h : Ow X w0 w H) (i : Nat) {b : Blk} (hi : H[i]? = some b) : Ow X w0 w [b] := h.sub (List.singleton_sublist.2 (List.mem_of_getElem? hi))
/-- a callee has written one block -/
theorem _root_.Go.Eng.Ow.over {X : List Nat} {w0 w w' : World} {H : List Blk} (h : Ow X w0 w H) {i : Nat} {b : Blk} {cs : List Value} (hi : H[i]? = some b) (h' : Ow [b.g] w w' [⟨b.g, b.t, cs⟩]) : Ow X w0 w' (H.set i ⟨b.g, b.t, cs⟩) :=
  h.write hi cs h'.os h'.tape h'.output h'.size (h'.own ⟨b.g, b.t, cs⟩ (by simp)).1 (fun k hk hne => h'.old k hk (by simpa using hne))
theorem own_one {w : World} {g : Nat} {t : TypeId} {cs : List Value} (h : w.heap[g]? = some (.cells cs.toArray t (0, 0))) : Ow [g] w w [⟨g, t, cs⟩] :=
  ⟨rfl, rfl, rfl, Nat.le_refl _, fun _ _ _ => rfl, fun b hb => by simp only [List.mem_singleton] at hb; subst hb; exact ⟨h, .inr (by simp)⟩, by simp⟩

def spl {α : Type} (f : Nat → α) (off m : Nat) (q : Nat → α) : Nat → α := fun j => if off ≤ j ∧ j < off + m then q (j - off) else f j
theorem tab_spl {α : Type} {n off m : Nat} {f q : Nat → α} (h : off + m ≤ n) : (tab n f).take off ++ tab m q ++ (tab n f).drop (off + m) = tab n (spl f off m q) := by
  rw [tab_take (by omega), tab_drop, tab_app, tab_app]
  have e : off + m + (n - (off + m)) = n := by omega
  rw [e]
  refine tab_ext fun i hi => ?_
  unfold spl
  by_cases h1 : i < off
  · have : ¬ (off ≤ i ∧ i < off + m) := by omega
    rw [if_neg this, if_pos (by omega), if_pos h1]
  · by_cases h2 : i < off + m
    · rw [if_pos h2, if_neg h1, if_pos ⟨by omega, h2⟩]
    · rw [if_neg h2, if_neg (by omega)]
      congr 1; omega

theorem tabs_getb {n k : Nat} {f : Nat → Bool} {sp : List Value} (h : k < n) : (tab n (bv f) ++ sp)[k]? = some (.bool (f k)) := by rw [List.getElem?_append_left (by simpa using h)]; exact tab_getb h
theorem tabs_geti {q : IntKind} {n k : Nat} {f : Nat → Int} {sp : List Value} (h : k < n) : (tab n (iv q f) ++ sp)[k]? = some (.int q (f k)) := by rw [List.getElem?_append_left (by simpa using h)]; exact tab_geti h
theorem tabs_setb {n k : Nat} {f : Nat → Bool} {b : Bool} {sp : List Value} (h : k < n) : (tab n (bv f) ++ sp).set k (.bool b) = tab n (bv (upd f k b)) ++ sp := by rw [List.set_append_left _ _ (by simpa using h), tab_setb]
theorem tabs_seti {q : IntKind} {n k : Nat} {f : Nat → Int} {z : Int} {sp : List Value} (h : k < n) : (tab n (iv q f) ++ sp).set k (.int q z) = tab n (iv q (upd f k z)) ++ sp := by rw [List.set_append_left _ _ (by simpa using h), tab_seti]
theorem tabs_rd {X : List Nat} {w0 w : World} {H : List Blk} {e : TypeId} {g n : Nat} {F : Nat → Value} {sp : List Value} (hO : Ow X w0 w H) (i : Nat) (hi : H[i]? = some ⟨g, e, tab n F ++ sp⟩) : Rd w (some ⟨g, 0, none⟩) (tab n F) :=
  Rd.own hO hi (b := ⟨g, e, tab n F ++ sp⟩) (fun k v hv => by rw [List.getElem?_append_left (List.getElem?_eq_some_iff.1 hv).1]; exact hv)

section xt
variable {P : Program} {N : Sz} {X : List Nat} {w0 : World} {o : Oper} {L : List (Nat × Value)} {H : List Blk} {R : Value → List Blk → Prop}
theorem xo_makeb {t e : TypeId} {bytes : Nat} {x y : Operand} {k k' : IntKind} {l : Int} (ho : o.op = .makeSlice t x y) (ht : P.underlying t = some (.slice e)) (he : TyE P e (.bool false) bytes) (hx : ev L x = some (.int k l)) (hy : ev L y = some (.int k' l)) (h0 : 0 ≤ l) (hb : bytes * l ≤ 281474976710656) (h63 : l ≤ 9223372036854775807) :
    XO P N X w0 o L H (RSl H e (tab l.toNat (bv fun _ => false) ++ []) l.toNat l.toNat) := by
  rw [List.append_nil, ← tab_repb]; exact xo_make ho ht he hx hy h0 (by omega) hb h63
theorem xo_makei {q : IntKind} {t e : TypeId} {bytes : Nat} {x y : Operand} {k k' : IntKind} {l : Int} (ho : o.op = .makeSlice t x y) (ht : P.underlying t = some (.slice e)) (he : TyE P e (.int q 0) bytes) (hx : ev L x = some (.int k l)) (hy : ev L y = some (.int k' l)) (h0 : 0 ≤ l) (hb : bytes * l ≤ 281474976710656) (h63 : l ≤ 9223372036854775807) :
    XO P N X w0 o L H (RSl H e (tab l.toNat (iv q fun _ => 0) ++ []) l.toNat l.toNat) := by
  rw [List.append_nil, ← tab_repi]; exact xo_make ho ht he hx hy h0 (by omega) hb h63
theorem eo_getb {t τ : TypeId} {x : Operand} {g k n : Nat} {f : Nat → Bool} {sp : List Value} (i : Nat) (ho : o.op = .load t x) (ht : TyS P t) (hx : ev L x = some (.pointer (some ⟨g, k, none⟩))) (hi : H[i]? = some ⟨g, τ, tab n (bv f) ++ sp⟩) (hk : k < n) : EO P N X w0 o L H (.bool (f k)) :=
  eo_load i ho ht hx hi rfl (tabs_getb hk)
theorem eo_geti {q : IntKind} {t τ : TypeId} {x : Operand} {g k n : Nat} {f : Nat → Int} {sp : List Value} (i : Nat) (ho : o.op = .load t x) (ht : TyS P t) (hx : ev L x = some (.pointer (some ⟨g, k, none⟩))) (hi : H[i]? = some ⟨g, τ, tab n (iv q f) ++ sp⟩) (hk : k < n) : EO P N X w0 o L H (.int q (f k)) :=
  eo_load i ho ht hx hi rfl (tabs_geti hk)
theorem xo_setb {t τ : TypeId} {x y : Operand} {g k n : Nat} {f : Nat → Bool} {b : Bool} {sp : List Value} (i : Nat) (ho : o.op = .store t x y) (ht : TyS P t) (hx : ev L x = some (.pointer (some ⟨g, k, none⟩))) (hy : ev L y = some (.bool b)) (hi : H[i]? = some ⟨g, τ, tab n (bv f) ++ sp⟩) (hk : k < n) :
    XO P N X w0 o L H (RIs undef (H.set i ⟨g, τ, tab n (bv (upd f k b)) ++ sp⟩)) := by
  rw [← tabs_setb hk]; exact xo_store i ho ht hx hy rfl hi rfl (by simp; omega)
theorem xo_seti {q : IntKind} {t τ : TypeId} {x y : Operand} {g k n : Nat} {f : Nat → Int} {z : Int} {sp : List Value} (i : Nat) (ho : o.op = .store t x y) (ht : TyS P t) (hx : ev L x = some (.pointer (some ⟨g, k, none⟩))) (hy : ev L y = some (.int q z)) (hi : H[i]? = some ⟨g, τ, tab n (iv q f) ++ sp⟩) (hk : k < n) :
    XO P N X w0 o L H (RIs undef (H.set i ⟨g, τ, tab n (iv q (upd f k z)) ++ sp⟩)) := by
  rw [← tabs_seti hk]; exact xo_store i ho ht hx hy rfl hi rfl (by simp; omega)
theorem eo_index0 {t e : TypeId} {k : IntKind} {x y : Operand} {g n c : Nat} {i : Int} (ho : o.op = .indexAddr t x y) (ht : TySl P t e 1) (hx : ev L x = some (.slice (some ⟨g, 0, none⟩) n c)) (hy : ev L y = some (.int k i)) (h0 : 0 ≤ i) (h1 : i < n) : EO P N X w0 o L H (.pointer (some ⟨g, i.toNat, none⟩)) := by
  have := eo_index (P := P) (N := N) (X := X) (w0 := w0) (H := H) ho ht hx hy h0 h1
  rwa [Nat.zero_add] at this
/-- s[l:h] of a slice whose place is known -/
theorem eo_slA {t e : TypeId} {kl kh : IntKind} {x y z : Operand} {b off n c : Nat} {l h : Int} (ho : o.op = .slice t x (some y) (some z) none) (ht : TySl P t e 1) (hx : ev L x = some (.slice (some ⟨b, off, none⟩) n c)) (hy : ev L y = some (.int kl l)) (hz : ev L z = some (.int kh h)) (h0 : 0 ≤ l) (h1 : l ≤ h) (h2 : h ≤ c) (h3 : l < c) :
    EO P N X w0 o L H (.slice (some ⟨b, off + l.toNat, none⟩) (h.toNat - l.toNat) (c - l.toNat)) := by
  have := eo_sl (P := P) (N := N) (X := X) (w0 := w0) (H := H) ho ht hx hy hz h0 h1 h2
  rw [if_neg (by omega), Nat.mul_one] at this
  simpa [Addr.add_lit] using this
theorem eo_sl0 {t e : TypeId} {kl kh : IntKind} {x y z : Operand} {b n c : Nat} {l h : Int} (ho : o.op = .slice t x (some y) (some z) none) (ht : TySl P t e 1) (hx : ev L x = some (.slice (some ⟨b, 0, none⟩) n c)) (hy : ev L y = some (.int kl l)) (hz : ev L z = some (.int kh h)) (h0 : 0 ≤ l) (h1 : l ≤ h) (h2 : h ≤ c) (h3 : l < c) :
    EO P N X w0 o L H (.slice (some ⟨b, l.toNat, none⟩) (h.toNat - l.toNat) (c - l.toNat)) := by
  have := eo_slA (P := P) (N := N) (X := X) (w0 := w0) (H := H) ho ht hx hy hz h0 h1 h2 h3
  rwa [Nat.zero_add] at this
/-- .. of a slice that is known by its reading -/
theorem eo_slR {t e : TypeId} {kl kh : IntKind} {x y z : Operand} {A : Option Addr} {n c : Nat} {xs : List Value} {w : World} {l h : Int} (ho : o.op = .slice t x (some y) (some z) none) (ht : TySl P t e 1) (hx : ev L x = some (.slice A n c)) (hy : ev L y = some (.int kl l)) (hz : ev L z = some (.int kh h)) (hr : Rd w A xs) (h0 : 0 ≤ l) (h1 : l ≤ h) (h2 : h ≤ c) (h3 : l < c) (h4 : l.toNat < xs.length) :
    EO P N X w0 o L H (.slice (some ⟨bl A, of A + l.toNat, none⟩) (h.toNat - l.toNat) (c - l.toNat)) := by
  rw [(hr l.toNat h4).1] at hx
  exact eo_slA ho ht hx hy hz h0 h1 h2 h3
theorem tabs_spl {n off m : Nat} {f q : Nat → Bool} {sp : List Value} (h : off + m ≤ n) : (tab n (bv f) ++ sp).take off ++ tab m (bv q) ++ (tab n (bv f) ++ sp).drop (off + m) = tab n (bv (spl f off m q)) ++ sp := by
  rw [List.take_append_of_le_length (by simp; omega), List.drop_append_of_le_length (by simp; omega), ← List.append_assoc, tab_spl h]
  congr 1
  exact tab_ext fun j _ => by by_cases e : off ≤ j ∧ j < off + m <;> simp [spl, bv, e]
theorem xo_copyb {t t' e : TypeId} {x y : Operand} {g off dl dc sl sc n m : Nat} {τ : TypeId} {A : Option Addr} {f q : Nat → Bool} {sp : List Value} (i : Nat) (ho : o.op = .call { callee := .builtin .copy, args := #[x, y], argTypes := #[t, t'] }) (ht : TySl P t e 1)
    (hx : ev L x = some (.slice (some ⟨g, off, none⟩) dl dc)) (hy : ev L y = some (.slice A sl sc)) (hi : H[i]? = some ⟨g, τ, tab n (bv f) ++ sp⟩) (hn : m = Nat.min sl dl) (hr : ∀ W, Ow X w0 W H → Rd W A (tab m (bv q))) (hA : A ≠ none) (hfit : off + m ≤ n) :
    XO P N X w0 o L H (RIs (.int .i64 m) (H.set i ⟨g, τ, tab n (bv (spl f off m q)) ++ sp⟩)) := by
  have h := xo_copy (P := P) (N := N) (X := X) (w0 := w0) (L := L) (H := H) (cs := tab m (bv q)) i ho ht hx hy hi rfl (by simpa using hn) hr tab_oneb (fun _ => hA) (by simp; omega)
  rw [tab_len, tabs_spl (by simpa using hfit)] at h
  exact h
/-- a callee writes one own block -/
theorem xo_over {f : FuncId} {args : List Operand} {tys : Array TypeId} {vs : List Value} {b : Blk} {cs : List Value} {v : Value} (i : Nat) (ho : o.op = .call { callee := .value (.func f), args := args.toArray, argTypes := tys }) (hE : Ent P f) (hv : evs L args = some vs) (hi : H[i]? = some b)
    (hc : ∀ W, Ow X w0 W H → Calls P f vs.toArray W fun e W' => e = .returned v ∧ Ow [b.g] W W' [⟨b.g, b.t, cs⟩]) : XO P N X w0 o L H (RIs v (H.set i ⟨b.g, b.t, cs⟩)) :=
  xo_call ho hE hv fun W hO => (hc W hO).mono fun _ _ ⟨he, hO'⟩ => ⟨v, _, he, ⟨rfl, rfl⟩, hO.over hi hO', Fr.write hi cs hO'.size (fun k hk hne => hO'.old k hk (by simpa using hne))⟩
end xt

/-- a bitmap of one's own; the block may have more cells -/
def RM (e : TypeId) (a b : Int) (n : Nat) (f : Nat → Bool) (v : Value) (Hn : List Blk) : Prop := ∃ g c sp, v = .agg #[.int .i64 a, .int .i64 b, .slice (some ⟨g, 0, none⟩) n c] ∧ Hn = [⟨g, e, tab n (bv f) ++ sp⟩] ∧ n ≤ c
/-- .. and no error -/
def RE (e : TypeId) (a b : Int) (n : Nat) (f : Nat → Bool) (v : Value) (Hn : List Blk) : Prop := ∃ g c sp, v = .tuple #[.agg #[.int .i64 a, .int .i64 b, .slice (some ⟨g, 0, none⟩) n c], .int .i64 0] ∧ Hn = [⟨g, e, tab n (bv f) ++ sp⟩] ∧ n ≤ c
theorem RApp.at_ {e : TypeId} {n : Nat} {xs : List Value} {v : Value} {Hn : List Blk} (h : RApp [] e 1 n xs v Hn) (hn : 0 < n) : ∃ g c sp, v = .slice (some ⟨g, 0, none⟩) n c ∧ Hn = [⟨g, e, xs ++ sp⟩] ∧ n ≤ c := by
  obtain ⟨s, hs, rfl, rfl⟩ := h
  cases s with
  | nil => have := hs.1; omega
  | at_ g sp cap => exact ⟨g, cap, sp, rfl, rfl, hs.1⟩
theorem clone_nil {e : TypeId} {A : Option Addr} {n : Nat} {xs : List Value} {w : World} (hr : Rd w A xs) (hn : xs.length = n) (h : A.isNone = true) : RApp [] e 1 n xs (.slice none 0 0) [] := by
  have hx : xs = [] := by
    cases xs with
    | nil => rfl
    | cons u us =>
      have := (hr 0 (by simp)).1
      rw [this] at h; cases h
  subst hx
  exact ⟨.nil, ⟨by simpa using hn.symm, rfl⟩, rfl, rfl⟩
/-- no bitmap, and an error -/
def noM (e : Int) : Value := .tuple #[.agg #[.int .i64 0, .int .i64 0, .slice none 0 0], .int .i64 e]
/-- an image of one's own -/
def REi (e : TypeId) (a b : Int) (n : Nat) (f : Nat → Int) (v : Value) (Hn : List Blk) : Prop := ∃ g c sp, v = .tuple #[.agg #[.int .i64 a, .int .i64 b, .slice (some ⟨g, 0, none⟩) n c], .int .i64 0] ∧ Hn = [⟨g, e, tab n (iv .u8 f) ++ sp⟩] ∧ n ≤ c

/-! ### slices that grow -/
section app
variable {P : Program} {N : Sz} {X : List Nat} {w0 : World} {o : Oper} {L : List (Nat × Value)} {H : List Blk}
theorem xo_app {t e : TypeId} {z : Value} {sz bytes : Nat} {x y : Operand} {s : AS} {n m c n' : Nat} {xs news ys : List Value} {A : Option Addr} (i : Nat) (hH : H.drop i = s.blks e xs)
    (ho : o.op = .call { callee := .builtin .append, args := #[x, y], argTypes := #[t, t] }) (ht : P.underlying t = some (.slice e)) (he : TyEN P e z sz bytes)
    (hx : ev L x = some (s.val n)) (hs : s.Ok sz n xs) (hy : ev L y = some (.slice A m c)) (hm : news.length = m * sz) (hr : ∀ W, Ow X w0 W H → Rd W A news) (h1 : ∀ u ∈ news, u.oneCell' = true)
    (hn : n + m = n') (hys : xs ++ news = ys) (h63 : n' ≤ maxLen) (hb : n' * bytes ≤ 140737488355328) : XO P N X w0 o L H (RApp (H.take i) e sz n' ys) := by
  subst hn
  subst hys
  exact xo_append (H.take i) (by rw [← hH]; exact (List.take_append_drop i H).symm) ho ht he hx hs hy hm hr h1 h63 hb
theorem xo_app1b {t e τ : TypeId} {x y : Operand} {s : AS} {k c gt : Nat} {G : Nat → Bool} {b : Bool} (i : Nat) (hH : H.drop i = s.blks e (tab k (bv G)))
    (ho : o.op = .call { callee := .builtin .append, args := #[x, y], argTypes := #[t, t] }) (ht : P.underlying t = some (.slice e)) (he : TyE P e (.bool false) 1)
    (hx : ev L x = some (s.val k)) (hs : s.Ok 1 k (tab k (bv G))) (hy : ev L y = some (.slice (some ⟨gt, 0, none⟩) 1 c)) (h0 : H[0]? = some ⟨gt, τ, [.bool b]⟩) (hv : b = G k) (hk : k ≤ 1073741824) : XO P N X w0 o L H (RApp (H.take i) e 1 (k + 1) (tab (k + 1) (bv G))) :=
  xo_app i hH ho ht he.toN hx hs hy (news := [.bool b]) rfl (fun W hO => Rd.own_all hO (i := 0) (b := ⟨gt, τ, [.bool b]⟩) h0) (by simp [Value.oneCell']) rfl (by rw [tab_succ, hv]; rfl) (by simp only [maxLen]; omega) (by omega)
theorem xo_app1i {q : IntKind} {t e τ : TypeId} {bytes : Nat} {x y : Operand} {s : AS} {k c gt : Nat} {G : Nat → Int} {b : Int} (i : Nat) (hH : H.drop i = s.blks e (tab k (iv q G)))
    (ho : o.op = .call { callee := .builtin .append, args := #[x, y], argTypes := #[t, t] }) (ht : P.underlying t = some (.slice e)) (he : TyE P e (.int q 0) bytes)
    (hx : ev L x = some (s.val k)) (hs : s.Ok 1 k (tab k (iv q G))) (hy : ev L y = some (.slice (some ⟨gt, 0, none⟩) 1 c)) (h0 : H[0]? = some ⟨gt, τ, [.int q b]⟩) (hv : b = G k) (hk : k ≤ 1073741824) (hb : bytes ≤ 8) : XO P N X w0 o L H (RApp (H.take i) e 1 (k + 1) (tab (k + 1) (iv q G))) :=
  xo_app i hH ho ht he.toN hx hs hy (news := [.int q b]) rfl (fun W hO => Rd.own_all hO (i := 0) (b := ⟨gt, τ, [.int q b]⟩) h0) (by simp [Value.oneCell']) rfl (by rw [tab_succ, hv]; rfl) (by simp only [maxLen]; omega) (Nat.le_trans (Nat.mul_le_mul_left _ hb) (by omega))
end app
theorem AS.Ok0 {F : Nat → Value} : AS.Ok 1 0 (tab 0 F) .nil := ⟨rfl, rfl⟩
theorem re_of_as {e : TypeId} {w W : World} {H : List Blk} {a b : Int} {n k : Nat} {G : Nat → Bool} {s : AS} (i : Nat) (hO : Ow [] w W H) (hH : H.drop i = s.blks e (tab k (bv G))) (hs : s.Ok 1 k (tab k (bv G))) (hk : k = n) (hn : 0 < n) :
    ∃ v Hn, Ending.returned (.tuple #[.agg #[.int .i64 a, .int .i64 b, s.val k], .int .i64 0]) = .returned v ∧ RE e a b n G v Hn ∧ Ow [] w W Hn := by
  subst hk
  cases s with
  | nil => have := hs.1; omega
  | at_ g sp cap =>
    refine ⟨_, [⟨g, e, tab k (bv G) ++ sp⟩], rfl, ⟨g, cap, sp, rfl, rfl, hs.1⟩, ?_⟩
    have h1 := hO.sub (List.drop_sublist i H)
    rw [hH] at h1
    exact h1
theorem rei_of_as {e : TypeId} {w W : World} {H : List Blk} {a b : Int} {n k : Nat} {G : Nat → Int} {s : AS} (i : Nat) (hO : Ow [] w W H) (hH : H.drop i = s.blks e (tab k (iv .u8 G))) (hs : s.Ok 1 k (tab k (iv .u8 G))) (hk : k = n) (hn : 0 < n) :
    ∃ v Hn, Ending.returned (.tuple #[.agg #[.int .i64 a, .int .i64 b, s.val k], .int .i64 0]) = .returned v ∧ REi e a b n G v Hn ∧ Ow [] w W Hn := by
  subst hk
  cases s with
  | nil => have := hs.1; omega
  | at_ g sp cap =>
    refine ⟨_, [⟨g, e, tab k (iv .u8 G) ++ sp⟩], rfl, ⟨g, cap, sp, rfl, rfl, hs.1⟩, ?_⟩
    have h1 := hO.sub (List.drop_sublist i H)
    rw [hH] at h1
    exact h1
theorem dm {k y x B : Int} (h : k = y * B + x) (h0 : 0 ≤ x) (h1 : x < B) : k / B = y ∧ k % B = x := by
  subst h
  constructor
  · rw [Int.add_comm, Int.add_mul_ediv_right _ _ (by omega), Int.ediv_eq_zero_of_lt h0 h1, Int.zero_add]
  · rw [Int.add_comm, Int.add_mul_emod_self_right, Int.emod_eq_of_lt h0 h1]
theorem nearI_bd {m n : Int} (h : 0 ≤ m) : -m ≤ nearI m n ∧ nearI m n ≤ m := by unfold nearI; omega
theorem add1_mul {a b : Int} : (a + 1) * b = a * b + b := by rw [Int.add_mul, Int.one_mul]
/-- a crop -/
def cropF (m : Int) (W H : Int) (n : Nat) (f : Nat → Bool) (X Y BW : Int) (i : Nat) : Bool := atB W H n f (nearI m X + (i : Int) % BW) (nearI m Y + (i : Int) / BW)

theorem tab_cut {α : Type} {n k m : Nat} {f : Nat → α} (h : k + m ≤ n) : ((tab n f).drop k).take m = tab m (fun i => f (k + i)) := by rw [tab_drop, tab_take (by omega)]
theorem Rd.cutb {w : World} {A : Option Addr} {n k m : Nat} {f : Nat → Bool} (h : Rd w A (tab n (bv f))) (hk : k + m ≤ n) (hm : 0 < m) : Rd w (some ⟨bl A, of A + k, none⟩) (tab m (bv fun i => f (k + i))) := by
  have hA := (h 0 (by simp; omega)).1
  rw [hA] at h
  have := Rd.cut h k m
  rw [tab_cut hk] at this
  exact this
theorem own_ne_old {w0 W : World} {H : List Blk} {A : Option Addr} {n : Nat} {F : Nat → Value} {b : Blk} (hr : Rd w0 A (tab n F)) (hn : 0 < n) (hO : Ow [] w0 W H) (i : Nat) (hi : H[i]? = some b) : bl A ≠ b.g := by
  obtain ⟨_, h2⟩ := hr 0 (by simpa using hn)
  rw [tab_get hn] at h2
  have hlt := World.block_lt_of_cell? w0 _ h2
  rcases (hO.own b (List.mem_of_getElem? hi)).2 with h | h
  · intro e; rw [e] at hlt; simp at hlt; omega
  · simp at h
theorem own_ne_own {X : List Nat} {w0 W : World} {H : List Blk} {b c : Blk} (hO : Ow X w0 W H) (i j : Nat) (hi : H[i]? = some b) (hj : H[j]? = some c) (hij : i ≠ j) : b.g ≠ c.g := by
  intro e
  have h1 : (H.map Blk.g)[i]? = some b.g := by simp [hi]
  have h2 : (H.map Blk.g)[j]? = some c.g := by simp [hj]
  have hl : i < (H.map Blk.g).length := (List.getElem?_eq_some_iff.1 h1).1
  rw [← e] at h2
  exact hij ((List.getElem?_inj hl hO.dist).1 (h1.trans h2.symm))

/-! ### put -/
def putF (x y W pW pH : Int) (f p : Nat → Bool) (j : Nat) : Bool :=
  if x ≤ (j : Int) % W ∧ (j : Int) % W < x + pW ∧ y ≤ (j : Int) / W ∧ (j : Int) / W < y + pH then p (((j : Int) / W - y) * pW + ((j : Int) % W - x)).toNat else f j
theorem put_step {W x y pW pH : Int} {n : Nat} {f p f' : Nat → Bool} {r : Int} (hW : 1 ≤ W) (hr0 : 0 ≤ r) (hry : y ≤ r) (hrp : r < y + pH) (hpW : 1 ≤ pW) (hft : max x 0 < min (x + pW) W)
    (hf' : ∀ j, j < n → f' j = if (j : Int) / W < r then putF x y W pW pH f p j else f j) :
    ∀ j, j < n → spl f' (r * W + max x 0).toNat (min (x + pW) W - max x 0).toNat (fun i => p (((r - y) * pW + max x 0 - x).toNat + i)) j = if (j : Int) / W < r + 1 then putF x y W pW pH f p j else f j := by
  intro j hj
  have hJ : W * ((j : Int) / W) + (j : Int) % W = j := Int.mul_ediv_add_emod j W
  rw [Int.mul_comm] at hJ
  have hm0 : 0 ≤ (j : Int) % W := Int.emod_nonneg _ (by omega)
  have hm1 : (j : Int) % W < W := Int.emod_lt_of_pos _ (by omega)
  have hd0 : 0 ≤ (j : Int) / W := Int.ediv_nonneg (by omega) (by omega)
  have hrW : 0 ≤ r * W := Int.mul_nonneg hr0 (by omega)
  have hyp : 0 ≤ (r - y) * pW := Int.mul_nonneg (by omega) (by omega)
  unfold spl
  rcases Int.lt_trichotomy ((j : Int) / W) r with h | h | h
  · have h1 : ((j : Int) / W + 1) * W ≤ r * W := Int.mul_le_mul_of_nonneg_right (by omega) (by omega)
    rw [add1_mul] at h1
    rw [if_neg (by omega), hf' j hj, if_pos h, if_pos (by omega)]
  · rw [h] at hJ
    rw [if_pos (show (j : Int) / W < r + 1 by omega)]
    by_cases hin : (r * W + max x 0).toNat ≤ j ∧ j < (r * W + max x 0).toNat + (min (x + pW) W - max x 0).toNat
    · rw [if_pos hin]
      unfold putF
      rw [h, if_pos (by omega)]
      show p _ = p _
      congr 1
      omega
    · rw [if_neg hin, hf' j hj, if_neg (by omega)]
      unfold putF
      rw [h, if_neg (by omega)]
  · have h1 : (r + 1) * W ≤ (j : Int) / W * W := Int.mul_le_mul_of_nonneg_right (by omega) (by omega)
    rw [add1_mul] at h1
    rw [if_neg (by omega), hf' j hj, if_neg (by omega), if_neg (by omega)]
theorem put_done {W H x y pW pH : Int} {n : Nat} {f p f' : Nat → Bool} {r : Int} (hW : 1 ≤ W) (hn : (n : Int) = W * H) (hr : ¬ r < min (y + pH) H)
    (hf' : ∀ j, j < n → f' j = if (j : Int) / W < r then putF x y W pW pH f p j else f j) : ∀ j, j < n → f' j = putF x y W pW pH f p j := by
  intro j hj
  rw [hf' j hj]
  by_cases h : (j : Int) / W < r
  · rw [if_pos h]
  · have hlt : (j : Int) / W < H := Int.ediv_lt_of_lt_mul (by omega) (by rw [Int.mul_comm]; omega)
    rw [if_neg h]
    unfold putF
    rw [if_neg (by omega)]
theorem put_none {W x y pW pH : Int} {f p : Nat → Bool} (hW : 1 ≤ W) (h : ¬ max x 0 < min (x + pW) W) (j : Nat) : f j = putF x y W pW pH f p j := by
  unfold putF
  have hm0 : 0 ≤ (j : Int) % W := Int.emod_nonneg _ (by omega)
  have hm1 : (j : Int) % W < W := Int.emod_lt_of_pos _ (by omega)
  rw [if_neg (by omega)]
theorem put_start {W x y pW pH : Int} {f p : Nat → Bool} (j : Nat) (hW : 1 ≤ W) : f j = if (j : Int) / W < max y 0 then putF x y W pW pH f p j else f j := by
  split
  · have hd0 : 0 ≤ (j : Int) / W := Int.ediv_nonneg (by omega) (by omega)
    unfold putF
    rw [if_neg (by omega)]
  · rfl
theorem nearI_idem {m n : Int} (h1 : -m ≤ n) (h2 : n ≤ m) : nearI m n = n := by unfold nearI; omega
/-- the pixels of a crop by put -/
theorem crop_put {m X Y BW W H : Int} {n : Nat} {f : Nat → Bool} (hv : vldB W H n = true) (hm : 0 ≤ m) {j : Nat} :
    putF (nearI m (-nearI m X)) (nearI m (-nearI m Y)) BW W H (fun _ => false) f j = cropF m W H n f X Y BW j := by
  have h1 := nearI_bd (m := m) (n := X) hm
  have h2 := nearI_bd (m := m) (n := Y) hm
  rw [nearI_idem (n := -nearI m X) (by omega) (by omega), nearI_idem (n := -nearI m Y) (by omega) (by omega)]
  unfold putF cropF atB
  rw [hv, Bool.true_and]
  by_cases h : inB W H (nearI m X + (j : Int) % BW) (nearI m Y + (j : Int) / BW) = true
  · have := inB_iff.1 h
    rw [if_pos (by omega), h, Bool.true_and]
    congr 2
    rw [show (j : Int) / BW - -nearI m Y = nearI m Y + (j : Int) / BW by omega]
    omega
  · have h' : inB W H (nearI m X + (j : Int) % BW) (nearI m Y + (j : Int) / BW) = false := by simpa using h
    rw [h', Bool.false_and, if_neg]
    intro hh
    exact h (inB_iff.2 (by omega))
/-- the bound of near does not matter -/
theorem crop_near {X Y BW BH W H : Int} {n : Nat} {f : Nat → Bool} (hv : vldB W H n = true) (hf : fitsB BW BH = true) {j : Nat} (hj : j < (BW * BH).toNat) : cropF 8192 W H n f X Y BW j = cropF 10000 W H n f X Y BW j := by
  obtain ⟨f1, f2, f3, f4, f5⟩ := fitsB_iff.1 hf
  have hv' := vldB_iff.1 hv
  have hm0 : 0 ≤ (j : Int) % BW := Int.emod_nonneg _ (by omega)
  have hm1 : (j : Int) % BW < BW := Int.emod_lt_of_pos _ (by omega)
  have hd0 : 0 ≤ (j : Int) / BW := Int.ediv_nonneg (by omega) (by omega)
  have hlt : (j : Int) / BW < BH := Int.ediv_lt_of_lt_mul (by omega) (by rw [Int.mul_comm]; omega)
  unfold cropF atB
  by_cases hX : -8192 ≤ X ∧ X ≤ 8192
  · by_cases hY : -8192 ≤ Y ∧ Y ≤ 8192
    · rw [nearI_idem (m := 8192) (n := X) (by omega) (by omega), nearI_idem (m := 8192) (n := Y) (by omega) (by omega), nearI_idem (m := 10000) (n := X) (by omega) (by omega), nearI_idem (m := 10000) (n := Y) (by omega) (by omega)]
    · have e1 : inB W H (nearI 8192 X + (j : Int) % BW) (nearI 8192 Y + (j : Int) / BW) = false := by
        rw [Bool.eq_false_iff]; intro h; have := inB_iff.1 h; unfold nearI at this; omega
      have e2 : inB W H (nearI 10000 X + (j : Int) % BW) (nearI 10000 Y + (j : Int) / BW) = false := by
        rw [Bool.eq_false_iff]; intro h; have := inB_iff.1 h; unfold nearI at this; omega
      simp [e1, e2]
  · have e1 : inB W H (nearI 8192 X + (j : Int) % BW) (nearI 8192 Y + (j : Int) / BW) = false := by
      rw [Bool.eq_false_iff]; intro h; have := inB_iff.1 h; unfold nearI at this; omega
    have e2 : inB W H (nearI 10000 X + (j : Int) % BW) (nearI 10000 Y + (j : Int) / BW) = false := by
      rw [Bool.eq_false_iff]; intro h; have := inB_iff.1 h; unfold nearI at this; omega
    simp [e1, e2]

/-! ### equality -/
def eqT {α : Type} [DecidableEq α] (n : Nat) (f : Nat → α) (n' : Nat) (f' : Nat → α) : Bool := decide (n = n' ∧ ∀ i, i < n → f i = f' i)
def eqM {α : Type} [DecidableEq α] (W H : Int) (n : Nat) (f : Nat → α) (W' H' : Int) (n' : Nat) (f' : Nat → α) : Bool := decide (W = W') && decide (H = H') && eqT n f n' f'
theorem eqM_yes {α : Type} [DecidableEq α] {W H W' H' : Int} {n n' : Nat} {f f' : Nat → α} (h1 : W = W') (h2 : H = H') (h3 : n = n') (h4 : ∀ i, i < n → f i = f' i) : eqM W H n f W' H' n' f' = true := by simp [eqM, eqT, h1, h2, h3]; intro i hi; exact h4 i (by omega)
theorem eqM_test {α : Type} [DecidableEq α] {W H W' H' : Int} {n n' : Nat} {f f' : Nat → α} (h : (decide (W ≠ W') || decide (H ≠ H') || decide ((n : Int) ≠ (n' : Int))) = true) : eqM W H n f W' H' n' f' = false := by
  simp only [Bool.or_eq_true, decide_eq_true_eq] at h
  simp only [eqM, eqT, Bool.and_eq_false_iff, decide_eq_false_iff_not]
  rcases h with (h | h) | h
  · exact .inl (.inl h)
  · exact .inl (.inr h)
  · exact .inr (fun e => h (by omega))
theorem eqM_same {W H W' H' : Int} {n n' : Nat} (h : (decide (W ≠ W') || decide (H ≠ H') || decide ((n : Int) ≠ (n' : Int))) = false) : W = W' ∧ H = H' ∧ n = n' := by
  simp only [Bool.or_eq_false_iff, decide_eq_false_iff_not, Decidable.not_not] at h
  exact ⟨h.1.1, h.1.2, by omega⟩
theorem eqM_differ {α : Type} [DecidableEq α] {W H W' H' : Int} {n n' : Nat} {f f' : Nat → α} (i : Nat) (hi : i < n) (h : f i ≠ f' i) : eqM W H n f W' H' n' f' = false := by
  simp only [eqM, eqT, Bool.and_eq_false_iff, decide_eq_false_iff_not]
  exact .inr (fun e => h (e.2 i hi))
theorem eqT_differ {α : Type} [DecidableEq α] {n n' : Nat} {f f' : Nat → α} (i : Nat) (hi : i < n) (h : f i ≠ f' i) : eqT n f n' f' = false := by
  simp only [eqT, decide_eq_false_iff_not]
  exact fun e => h (e.2 i hi)
theorem eqT_yes {α : Type} [DecidableEq α] {n n' : Nat} {f f' : Nat → α} (h3 : n = n') (h4 : ∀ i, i < n → f i = f' i) : eqT n f n' f' = true := by
  simp only [eqT, decide_eq_true_eq]; exact ⟨h3, h4⟩
theorem eqT_len {α : Type} [DecidableEq α] {n n' : Nat} {f f' : Nat → α} (h3 : n ≠ n') : eqT n f n' f' = false := by
  simp only [eqT, decide_eq_false_iff_not]; exact fun e => h3 e.1
theorem upto_succ {α : Type} {f f' : Nat → α} {k : Nat} (h : ∀ i, i < k → f i = f' i) (hk : f k = f' k) : ∀ i, i < k + 1 → f i = f' i := by
  intro i hi
  rcases Nat.lt_or_ge i k with h1 | h1
  · exact h i h1
  · have : i = k := by omega
    rw [this]; exact hk

/-! ### turns -/
/-- a slice of one's own -/
def RS (e : TypeId) (n : Nat) (F : Nat → Value) (v : Value) (Hn : List Blk) : Prop := ∃ g c sp, v = .slice (some ⟨g, 0, none⟩) n c ∧ Hn = [⟨g, e, tab n F ++ sp⟩] ∧ n ≤ c
theorem tmod_bd (t : Int) : -4 < t.tmod 4 ∧ t.tmod 4 < 4 := by
  rw [Int.tmod_eq_emod]
  split <;> omega
theorem quart_eq (t : Int) : (t.tmod 4 + 4) % 4 = t % 4 := by
  rw [Int.tmod_eq_emod]
  split <;> omega
def turnF {α : Type} (w h : Int) (f : Nat → α) (j : Nat) : α := f ((h - 1 - (j : Int) % h) * w + (j : Int) / h).toNat
theorem turn_idx {h x y : Int} (hy0 : 0 ≤ y) (hy1 : y < h) : (x * h + h - 1 - y) / h = x ∧ (x * h + h - 1 - y) % h = h - 1 - y :=
  dm (by omega : x * h + h - 1 - y = x * h + (h - 1 - y)) (by omega) (by omega)
theorem turn_step {α : Type} {d : α} {w h : Int} {n : Nat} {f f1 : Nat → α} {x y : Int} (hx0 : 0 ≤ x) (hy0 : 0 ≤ y) (hy1 : y < h)
    (hI : ∀ j : Nat, j < n → f1 j = if h - 1 - (j : Int) % h < y ∨ h - 1 - (j : Int) % h = y ∧ (j : Int) / h < x then turnF w h f j else d) :
    ∀ j : Nat, j < n → upd f1 (x * h + h - 1 - y).toNat (f (y * w + x).toNat) j = if h - 1 - (j : Int) % h < y ∨ h - 1 - (j : Int) % h = y ∧ (j : Int) / h < x + 1 then turnF w h f j else d := by
  intro j hj
  have hxh : 0 ≤ x * h := Int.mul_nonneg hx0 (by omega)
  obtain ⟨e1, e2⟩ := turn_idx (x := x) hy0 hy1
  by_cases e : j = (x * h + h - 1 - y).toNat
  · have ej : (j : Int) = x * h + h - 1 - y := by omega
    rw [e, upd_eq]
    unfold turnF
    rw [← e, ej, e1, e2, if_pos (by omega)]
    congr 2
    rw [show h - 1 - (h - 1 - y) = y by omega]
  · rw [upd_ne e, hI j hj]
    have hJ : h * ((j : Int) / h) + (j : Int) % h = j := Int.mul_ediv_add_emod j h
    have key : ¬ (h - 1 - (j : Int) % h = y ∧ (j : Int) / h = x) := by
      rintro ⟨a, b⟩
      rw [b, Int.mul_comm] at hJ
      omega
    by_cases c : h - 1 - (j : Int) % h < y ∨ h - 1 - (j : Int) % h = y ∧ (j : Int) / h < x
    · rw [if_pos c, if_pos (by omega)]
    · rw [if_neg c, if_neg (by omega)]
theorem turn_in {α : Type} {d : α} {w h : Int} {n : Nat} {f f1 : Nat → α} {y : Int} (hh : 1 ≤ h) (hI : ∀ j : Nat, j < n → f1 j = if h - 1 - (j : Int) % h < y then turnF w h f j else d) :
    ∀ j : Nat, j < n → f1 j = if h - 1 - (j : Int) % h < y ∨ h - 1 - (j : Int) % h = y ∧ (j : Int) / h < ((0 : Nat) : Int) then turnF w h f j else d := by
  intro j hj
  have := Int.ediv_nonneg (show 0 ≤ (j : Int) by omega) (show 0 ≤ h by omega)
  rw [hI j hj]
  by_cases q : h - 1 - (j : Int) % h < y
  · rw [if_pos q, if_pos (.inl q)]
  · rw [if_neg q, if_neg (by omega)]
theorem turn_row {α : Type} {d : α} {w h : Int} {n : Nat} {f f1 : Nat → α} {y : Int} (hh : 1 ≤ h) (hn : (n : Int) = w * h) {x : Int} (hx : w ≤ x)
    (hI : ∀ j : Nat, j < n → f1 j = if h - 1 - (j : Int) % h < y ∨ h - 1 - (j : Int) % h = y ∧ (j : Int) / h < x then turnF w h f j else d) :
    ∀ j : Nat, j < n → f1 j = if h - 1 - (j : Int) % h < y + 1 then turnF w h f j else d := by
  intro j hj
  rw [hI j hj]
  have hlt : (j : Int) / h < w := Int.ediv_lt_of_lt_mul (by omega) (by omega)
  by_cases c : h - 1 - (j : Int) % h < y + 1
  · rw [if_pos c, if_pos (by omega)]
  · rw [if_neg c, if_neg (by omega)]
theorem turn_done {α : Type} {d : α} {w h : Int} {n : Nat} {f f1 : Nat → α} {y : Int} (hh : 1 ≤ h) (hy : h ≤ y) (hI : ∀ j : Nat, j < n → f1 j = if h - 1 - (j : Int) % h < y then turnF w h f j else d) : ∀ j : Nat, j < n → f1 j = turnF w h f j := by
  intro j hj
  have := Int.emod_nonneg (j : Int) (show h ≠ 0 by omega)
  rw [hI j hj, if_pos (by omega)]
theorem vld_swap {W H : Int} {n : Nat} (h : vldB W H n = true) : vldB H W n = true := by
  have := vldB_iff.1 h
  rw [vldB_iff, Int.mul_comm H W]
  omega
/-- the width after k turns; the height: tW k H W -/
def tW : Nat → Int → Int → Int
  | 0, W, _ => W
  | k + 1, W, H => tW k H W
def tF {α : Type} : Nat → Int → Int → (Nat → α) → (Nat → α)
  | 0, _, _, f => f
  | k + 1, W, H, f => turnF (tW k W H) (tW k H W) (tF k W H f)
theorem vld_turns {W H : Int} {n : Nat} : ∀ {k : Nat}, vldB W H n = true → vldB (tW k W H) (tW k H W) n = true
  | 0, h => h
  | k + 1, h => vld_swap (vld_turns (k := k) h)
end Go.Bs
