/-
  Lines of pixels: dilation, erosion; rows and columns of a bitmap. Plain definitions, and the operations that function values need.
  No program is named here.
-/
import Derived.Test.YtnmiljloifbjeaaSu
namespace Go.Bs
open Go.RowKit Go.Eng

/-- the last dark pixel before i, of n; -1 if there is none -/
def lastD (n : Nat) (f : Nat → Bool) : Nat → Int
  | 0 => -1
  | i + 1 => if i < n ∧ f i = true then (i : Int) else lastD n f i
/-- the last light pixel before i -/
def lastL (f : Nat → Bool) : Nat → Int
  | 0 => -1
  | i + 1 => if f i = true then lastL f i else (i : Int)
theorem lastD_bd (n : Nat) (f : Nat → Bool) : ∀ i, -1 ≤ lastD n f i ∧ lastD n f i < i
  | 0 => by simp [lastD]
  | i + 1 => by
    have := lastD_bd n f i
    unfold lastD
    split <;> push_cast <;> omega
theorem lastL_bd (f : Nat → Bool) : ∀ i, -1 ≤ lastL f i ∧ lastL f i < i
  | 0 => by simp [lastL]
  | i + 1 => by
    have := lastL_bd f i
    unfold lastL
    split <;> push_cast <;> omega
theorem lastD_yes {n i : Nat} {f : Nat → Bool} (h : i < n) (hf : f i = true) : lastD n f (i + 1) = i := by simp [lastD, h, hf]
theorem lastD_no {n i : Nat} {f : Nat → Bool} (h : ¬ i < n ∨ f i = false) : lastD n f (i + 1) = lastD n f i := by
  show (if i < n ∧ f i = true then (i : Int) else lastD n f i) = _
  rw [if_neg]
  rintro ⟨a, b⟩
  rcases h with h | h
  · exact h a
  · rw [b] at h; cases h
theorem lastL_yes {i : Nat} {f : Nat → Bool} (hf : f i = false) : lastL f (i + 1) = i := by simp [lastL, hf]
theorem lastL_no {i : Nat} {f : Nat → Bool} (hf : f i = true) : lastL f (i + 1) = lastL f i := by simp [lastL, hf]
/-- the dilation of a line, from r pixels before it on -/
def spG (n : Nat) (r : Int) (f : Nat → Bool) (j : Nat) : Bool := decide (0 ≤ lastD n f (j + 1)) && decide ((j : Int) - 2 * r ≤ lastD n f (j + 1))
/-- the erosion of a line, without its ends -/
def shG (r : Int) (f : Nat → Bool) (j : Nat) : Bool := decide (lastL f (j + (2 * r).toNat + 1) < (j : Int))
theorem sp_all {n : Nat} {f : Nat → Bool} : ∀ {i : Nat} {k : Nat}, k < i → k < n → f k = true → (k : Int) ≤ lastD n f i
  | 0, _, h, _, _ => absurd h (by omega)
  | i + 1, k, h, hn, hf => by
    unfold lastD
    by_cases e : k = i
    · subst e; rw [if_pos ⟨hn, hf⟩]; omega
    · have := sp_all (i := i) (k := k) (by omega) hn hf
      split
      · omega
      · exact this
theorem sp_ex {n : Nat} {f : Nat → Bool} : ∀ {i : Nat}, 0 ≤ lastD n f i → ∃ k : Nat, (k : Int) = lastD n f i ∧ k < i ∧ k < n ∧ f k = true
  | 0, h => by simp [lastD] at h
  | i + 1, h => by
    unfold lastD at h ⊢
    split at h
    · rename_i hc
      rw [if_pos hc]
      exact ⟨i, rfl, by omega, hc.1, hc.2⟩
    · rename_i hc
      rw [if_neg hc]
      obtain ⟨k, h1, h2, h3, h4⟩ := sp_ex h
      exact ⟨k, h1, by omega, h3, h4⟩
theorem spG_iff {n : Nat} {r : Int} {f : Nat → Bool} {j : Nat} : spG n r f j = true ↔ ∃ k : Nat, k < n ∧ f k = true ∧ k ≤ j ∧ (j : Int) ≤ k + 2 * r := by
  unfold spG
  rw [Bool.and_eq_true, decide_eq_true_eq, decide_eq_true_eq]
  constructor
  · rintro ⟨h1, h2⟩
    obtain ⟨k, e, a, b, c⟩ := sp_ex h1
    exact ⟨k, b, c, by omega, by omega⟩
  · rintro ⟨k, a, b, c, d⟩
    have := sp_all (i := j + 1) (k := k) (by omega) a b
    omega
theorem sl_all {f : Nat → Bool} : ∀ {i k : Nat}, k < i → lastL f i < (k : Int) → f k = true
  | 0, _, h, _ => absurd h (by omega)
  | i + 1, k, h, hl => by
    unfold lastL at hl
    by_cases e : k = i
    · subst e
      cases hf : f k with
      | true => rfl
      | false => rw [hf] at hl; simp at hl
    · refine sl_all (i := i) (by omega) ?_
      split at hl
      · exact hl
      · have := (lastL_bd f i).2; omega
theorem sl_ex {f : Nat → Bool} : ∀ {i : Nat}, 0 ≤ lastL f i → ∃ k : Nat, (k : Int) = lastL f i ∧ k < i ∧ f k = false
  | 0, h => by simp [lastL] at h
  | i + 1, h => by
    unfold lastL at h ⊢
    cases hf : f i with
    | true =>
      rw [hf] at h
      simp only [if_true] at h ⊢
      obtain ⟨k, h1, h2, h3⟩ := sl_ex h
      exact ⟨k, h1, by omega, h3⟩
    | false => exact ⟨i, by simp, by omega, hf⟩
theorem shG_iff {r : Int} {f : Nat → Bool} {j : Nat} (hr : 0 ≤ r) : shG r f j = true ↔ ∀ k : Nat, j ≤ k → (k : Int) ≤ j + 2 * r → f k = true := by
  unfold shG
  rw [decide_eq_true_eq]
  constructor
  · intro h k h1 h2
    exact sl_all (i := j + (2 * r).toNat + 1) (by omega) (by omega)
  · intro h
    refine Decidable.byContradiction fun hn => ?_
    obtain ⟨k, h1, h2, h3⟩ := sl_ex (f := f) (i := j + (2 * r).toNat + 1) (by omega)
    rw [h k (by omega) (by omega)] at h3
    cases h3
theorem sh_store {n i : Nat} {r : Int} {f f1 : Nat → Bool} {l : Int} (hr : 0 ≤ r) (hi : 0 ≤ (i : Int) - 2 * r) (hI : ∀ j : Nat, j < n → f1 j = if (j : Int) < i - 2 * r then shG r f j else false) (hl : l = lastL f (i + 1)) :
    ∀ j : Nat, j < n → upd f1 ((i : Int) - 2 * r).toNat (decide (l < (i : Int) - 2 * r)) j = if (j : Int) < ((i + 1 : Nat) : Int) - 2 * r then shG r f j else false := by
  intro j hj
  by_cases e : j = ((i : Int) - 2 * r).toNat
  · rw [e, upd_eq, if_pos (by push_cast; omega)]
    unfold shG
    rw [show ((i : Int) - 2 * r).toNat + (2 * r).toNat + 1 = i + 1 by omega, ← hl]
    congr 1
    rw [Int.toNat_of_nonneg hi]
  · rw [upd_ne e, hI j hj]
    by_cases h : (j : Int) < i - 2 * r
    · rw [if_pos h, if_pos (by push_cast; omega)]
    · rw [if_neg h, if_neg (by push_cast; omega)]
/-- the erosion, dilation and closing of a line of n pixels -/
def erL (n : Nat) (r : Int) (f : Nat → Bool) (i : Nat) : Bool := decide (r ≤ (i : Int)) && decide ((i : Int) + r < n) && shG r f (i - r.toNat)
def diL (n : Nat) (r : Int) (f : Nat → Bool) (i : Nat) : Bool := spG n r f (r.toNat + i)
def clL (n : Nat) (r : Int) (f : Nat → Bool) (i : Nat) : Bool := shG r (spG n r f) i
/-- rows, columns -/
def rowsF (W w : Int) (op : (Nat → Bool) → Nat → Bool) (f : Nat → Bool) (j : Nat) : Bool := op (fun i => f (((j : Int) / w * W).toNat + i)) ((j : Int) % w).toNat
def colsF (W : Int) (op : (Nat → Bool) → Nat → Bool) (f : Nat → Bool) (j : Nat) : Bool := op (fun i => f ((i : Int) * W + (j : Int) % W).toNat) ((j : Int) / W).toNat

/-- a slice that is only read -/
def RL (n : Nat) (F : Nat → Bool) (v : Value) (S : List Blk) : Prop := ∃ A c, v = .slice A n c ∧ n ≤ c ∧ Rds S A (tab n (bv F))
theorem rl_own {w W : World} {H : List Blk} {g n c : Nat} {e : TypeId} {sp : List Value} {f F : Nat → Bool} {n' : Nat} (i : Nat) (hO : Ow [] w W H) (hi : H[i]? = some ⟨g, e, tab n (bv f) ++ sp⟩) (hn : n' = n) (hf : ∀ j, j < n → f j = F j) (hc : n ≤ c) :
    ∃ v Hn, Ending.returned (.slice (some ⟨g, 0, none⟩) n c) = .returned v ∧ RL n' F v Hn ∧ Ow [] w W Hn := by
  subst hn
  refine ⟨_, _, rfl, ⟨_, c, rfl, hc, ?_⟩, hO.pick i hi⟩
  rw [tabb_ext hf]
  exact rds_own
/-- a cut of a slice of one's own -/
theorem rl_cut {w W : World} {H : List Blk} {g n m off c : Nat} {e : TypeId} {sp : List Value} {f F : Nat → Bool} {n' : Nat} (i : Nat) (hO : Ow [] w W H) (hi : H[i]? = some ⟨g, e, tab n (bv f) ++ sp⟩) (hn : n' = m) (hm : off + m ≤ n) (hf : ∀ j, j < m → f (off + j) = F j) (hc : m ≤ c) :
    ∃ v Hn, Ending.returned (.slice (some ⟨g, off, none⟩) m c) = .returned v ∧ RL n' F v Hn ∧ Ow [] w W Hn := by
  subst hn
  refine ⟨_, _, rfl, ⟨_, c, rfl, hc, fun X w0 W1 hO1 => ?_⟩, hO.pick i hi⟩
  rw [← tabb_ext hf]
  exact tabs_cutb hO1 0 rfl hm
theorem rl_pass {w W : World} {S : List Blk} {A : Option Addr} {n c n' : Nat} {F G : Nat → Bool} (hO : Ow [] w W S) (hk : n ≤ c) (hS : Rds S A (tab n (bv F))) (hn : n' = n) (hf : ∀ j, j < n → F j = G j) :
    ∃ v Hn, Ending.returned (.slice A n c) = .returned v ∧ RL n' G v Hn ∧ Ow [] w W Hn := by
  subst hn
  rw [tabb_ext hf] at hS
  exact ⟨_, S, rfl, ⟨A, c, rfl, hk, hS⟩, hO⟩
theorem cell_old {X : List Nat} {w0 w : World} {H : List Blk} {g k : Nat} {v : Value} (hO : Ow X w0 w H) (hc : w0.cell? ⟨g, k, none⟩ = some v) (hX : g ∉ X) : w.cell? ⟨g, k, none⟩ = some v := by
  have hlt := World.block_lt_of_cell? w0 _ hc
  rw [World.cell?_of_block (w := w0) (hO.old _ hlt hX)]
  exact hc
section
variable {P : Program} {N : Sz} {X : List Nat} {w0 : World} {o : Oper} {L : List (Nat × Value)} {H : List Blk}
/-- copy out of memory that is only read -/
theorem xo_cpySb {t t' e : TypeId} {x y : Operand} {g off dl dc sl sc n : Nat} {τ : TypeId} {A : Option Addr} {f q : Nat → Bool} {sp : List Value} (i : Nat) (ho : o.op = .call { callee := .builtin .copy, args := #[x, y], argTypes := #[t, t'] }) (ht : TySl P t e 1)
    (hx : ev L x = some (.slice (some ⟨g, off, none⟩) dl dc)) (hy : ev L y = some (.slice A sl sc)) (hi : H[i]? = some ⟨g, τ, tab n (bv f) ++ sp⟩) (hn : sl ≤ dl) (hr : ∀ W, Ow X w0 W H → Rd W A (tab sl (bv q))) (h0 : 0 < sl) (hfit : off + sl ≤ n) :
    XO P N X w0 o L H (RIs (.int .i64 sl) (H.set i ⟨g, τ, tab n (bv (spl f off sl q)) ++ sp⟩)) := by
  have h := xo_copy (P := P) (N := N) (X := X) (w0 := w0) (L := L) (H := H) (cs := tab sl (bv q)) i ho ht hx hy hi rfl (by simpa using (Nat.min_eq_left hn).symm) hr tab_oneb (fun h => by have := congrArg List.length h; simp at this; omega) (by simp; omega)
  rw [tab_len, tabs_spl (by simpa using hfit)] at h
  exact h
end
/-- a function value that holds one number in a box -/
def RFn (f : FuncId) (t : TypeId) (r : Int) (v : Value) (Hn : List Blk) : Prop := ∃ g, v = .func (.func f) #[] #[.pointer (some ⟨g, 0, none⟩)] ∧ Hn = [⟨g, t, [.int .i64 r]⟩]
theorem er_spl {n j : Nat} {r : Int} {f : Nat → Bool} (hr : 0 ≤ r) (hn : 2 * r < n) (hj : j < n) : spl (fun _ => false) r.toNat (max 0 ((n : Int) - 2 * r)).toNat (shG r f) j = erL n r f j := by
  unfold spl erL
  by_cases h : r.toNat ≤ j ∧ j < r.toNat + (max 0 ((n : Int) - 2 * r)).toNat
  · rw [if_pos h, decide_eq_true (show r ≤ (j : Int) by omega), decide_eq_true (show (j : Int) + r < n by omega)]; rfl
  · rw [if_neg h]
    by_cases h1 : r ≤ (j : Int)
    · rw [decide_eq_false (show ¬ (j : Int) + r < n by omega)]; simp
    · rw [decide_eq_false h1]; simp
theorem er_none {n j : Nat} {r : Int} {f : Nat → Bool} (hr : 0 ≤ r) (hn : ¬ 2 * r < n) : false = erL n r f j := by
  unfold erL
  by_cases h1 : r ≤ (j : Int)
  · rw [decide_eq_false (show ¬ (j : Int) + r < n by omega)]; simp
  · rw [decide_eq_false h1]; simp
theorem rows_at {W w y : Int} {op : (Nat → Bool) → Nat → Bool} {f : Nat → Bool} {q i : Nat} (hq : (q : Int) = y * w + i) (hi : (i : Int) < w) : op (fun k => f ((y * W).toNat + k)) i = rowsF W w op f q := by
  unfold rowsF
  rw [(dm hq (by omega) hi).1, (dm hq (by omega) hi).2]
  rfl
theorem cols_at {W x : Int} {op : (Nat → Bool) → Nat → Bool} {f : Nat → Bool} {q y : Nat} (hq : (q : Int) = (y : Int) * W + x) (hx : 0 ≤ x) (hx1 : x < W) : op (fun k => f ((k : Int) * W + x).toNat) y = colsF W op f q := by
  unfold colsF
  rw [(dm hq hx hx1).1, (dm hq hx hx1).2]
  rfl
theorem cell_b {W H : Int} {n j : Nat} (hW : 1 ≤ W) (hn : (n : Int) = W * H) (hj : j < n) : 0 ≤ (j : Int) % W ∧ (j : Int) % W < W ∧ 0 ≤ (j : Int) / W ∧ (j : Int) / W < H ∧ (j : Int) / W * W + (j : Int) % W = j := by
  refine ⟨Int.emod_nonneg _ (by omega), Int.emod_lt_of_pos _ (by omega), Int.ediv_nonneg (by omega) (by omega), Int.ediv_lt_of_lt_mul (by omega) (by rw [Int.mul_comm]; omega), ?_⟩
  have := Int.mul_ediv_add_emod j W
  rw [Int.mul_comm] at this
  exact this
theorem cols_step {α : Type} {d : α} {W H : Int} {n : Nat} {f1 G : Nat → α} {x y : Int} {q : Nat} {v : α} (hW : 1 ≤ W) (hn : (n : Int) = W * H) (hx : 0 ≤ x) (hx1 : x < W) (hq : (q : Int) = y * W + x) (hvq : v = G q)
    (hI : ∀ j, j < n → f1 j = if (j : Int) % W < x ∨ ((j : Int) % W = x ∧ (j : Int) / W < y) then G j else d) : ∀ j, j < n → upd f1 q v j = if (j : Int) % W < x ∨ ((j : Int) % W = x ∧ (j : Int) / W < y + 1) then G j else d := by
  intro j hj
  by_cases e : j = q
  · subst e
    rw [upd_eq, if_pos (by rw [(dm hq hx hx1).1, (dm hq hx hx1).2]; omega), hvq]
  · rw [upd_ne e, hI j hj]
    obtain ⟨a, b, c, d', e'⟩ := cell_b hW hn hj
    have key : ¬ ((j : Int) % W = x ∧ (j : Int) / W = y) := by
      rintro ⟨h1, h2⟩
      rw [h1, h2] at e'
      omega
    by_cases c1 : (j : Int) % W < x ∨ ((j : Int) % W = x ∧ (j : Int) / W < y)
    · rw [if_pos c1, if_pos (by omega)]
    · rw [if_neg c1, if_neg (by omega)]
theorem cols_in {α : Type} {d : α} {W H : Int} {n : Nat} {f1 G : Nat → α} {x y : Int} (hW : 1 ≤ W) (hn : (n : Int) = W * H) (hy : y ≤ 0) (hI : ∀ j : Nat, j < n → f1 j = if (j : Int) % W < x then G j else d) : ∀ j : Nat, j < n → f1 j = if (j : Int) % W < x ∨ ((j : Int) % W = x ∧ (j : Int) / W < y) then G j else d := by
  intro j hj
  obtain ⟨a, b, c, d', e'⟩ := cell_b hW hn hj
  rw [hI j hj]
  by_cases c1 : (j : Int) % W < x
  · rw [if_pos c1, if_pos (.inl c1)]
  · rw [if_neg c1, if_neg (by omega)]
theorem cols_out {α : Type} {d : α} {W H : Int} {n : Nat} {f1 G : Nat → α} {x y : Int} (hW : 1 ≤ W) (hn : (n : Int) = W * H) (hy : H ≤ y) (hI : ∀ j : Nat, j < n → f1 j = if (j : Int) % W < x ∨ ((j : Int) % W = x ∧ (j : Int) / W < y) then G j else d) : ∀ j : Nat, j < n → f1 j = if (j : Int) % W < x + 1 then G j else d := by
  intro j hj
  obtain ⟨a, b, c, d', e'⟩ := cell_b hW hn hj
  rw [hI j hj]
  by_cases c1 : (j : Int) % W < x + 1
  · rw [if_pos c1, if_pos (by omega)]
  · rw [if_neg c1, if_neg (by omega)]
/-- the error of a bitmap and radii -/
def mchk (W H : Int) (n : Nat) (rx ry : Int) : Int := if vldB W H n = true then (if rx < 0 ∨ 4096 < rx ∨ ry < 0 ∨ 4096 < ry then 3 else 0) else 1
theorem mchk_arg {W H rx ry : Int} {n : Nat} (h : vldB W H n = false) : mchk W H n rx ry = 1 := by simp [mchk, h]
theorem mchk_range {W H rx ry : Int} {n : Nat} (h : vldB W H n = true) (hr : rx < 0 ∨ 4096 < rx ∨ ry < 0 ∨ 4096 < ry) : mchk W H n rx ry = 3 := by simp [mchk, h, hr]
theorem mchk_ok {W H rx ry : Int} {n : Nat} (h : vldB W H n = true) (hr : ¬ (rx < 0 ∨ 4096 < rx ∨ ry < 0 ∨ 4096 < ry)) : mchk W H n rx ry = 0 := by simp [mchk, h, hr]
theorem mchk_zero {W H rx ry : Int} {n : Nat} (h : mchk W H n rx ry = 0) : vldB W H n = true ∧ 0 ≤ rx ∧ rx ≤ 4096 ∧ 0 ≤ ry ∧ ry ≤ 4096 := by
  unfold mchk at h
  split at h
  · rename_i hv
    split at h
    · cases h
    · exact ⟨hv, by omega⟩
  · cases h
theorem mul_up {a b : Int} (h1 : 1 ≤ a) (h2 : a ≤ 16384) (h3 : 1 ≤ b) (h4 : b ≤ 4096) : 1 ≤ a * b ∧ a * b ≤ 67108864 :=
  ⟨Int.mul_pos (by omega) (by omega), Int.le_trans (Int.mul_le_mul h2 h4 (by omega) (by omega)) (by omega)⟩
def erodeF (m : Pm Bool) (rx ry : Int) : Nat → Bool := colsF m.W (erL m.H.toNat ry) (rowsF m.W m.W (erL m.W.toNat rx) m.f)
def dilateF (m : Pm Bool) (rx ry : Int) : Nat → Bool := colsF m.W (diL m.H.toNat ry) (rowsF m.W m.W (diL m.W.toNat rx) m.f)
def closeF (m : Pm Bool) (rx ry : Int) : Nat → Bool := rowsF (m.W + 2 * rx) m.W (shG rx) (colsF (m.W + 2 * rx) (clL m.H.toNat ry) (rowsF m.W (m.W + 2 * rx) (spG m.W.toNat rx) m.f))
def Pm.chk (m : Pm Bool) (rx ry : Int) : Int := mchk m.W m.H m.n rx ry
def erodeR (m : Pm Bool) (rx ry : Int) : Pm Bool × Int := if m.chk rx ry = 0 then (⟨m.W, m.H, (m.W * m.H).toNat, erodeF m rx ry⟩, 0) else (noB, m.chk rx ry)
def dilateR (m : Pm Bool) (rx ry : Int) : Pm Bool × Int := if m.chk rx ry = 0 then (⟨m.W, m.H, (m.W * m.H).toNat, dilateF m rx ry⟩, 0) else (noB, m.chk rx ry)
def closeR (m : Pm Bool) (rx ry : Int) : Pm Bool × Int := if m.chk rx ry = 0 then (⟨m.W, m.H, (m.W * m.H).toNat, closeF m rx ry⟩, 0) else (noB, m.chk rx ry)
def openR (m : Pm Bool) (rx ry : Int) : Pm Bool × Int := if (erodeR m rx ry).2 = 0 then dilateR (erodeR m rx ry).1 rx ry else (noB, (erodeR m rx ry).2)
theorem mor_le {m : Pm Bool} {rx ry e : Int} {F : Nat → Bool} : (if m.chk rx ry = 0 then ((⟨m.W, m.H, (m.W * m.H).toNat, F⟩ : Pm Bool), (0 : Int)) else (noB, e)).1.n ≤ 4194304 := by
  split
  · rename_i h
    have := vldB_iff.1 (mchk_zero h).1
    show (m.W * m.H).toNat ≤ _
    omega
  · simp [noB]
theorem erodeR_le {m : Pm Bool} {rx ry : Int} : (erodeR m rx ry).1.n ≤ 4194304 := mor_le
theorem dilateR_le {m : Pm Bool} {rx ry : Int} : (dilateR m rx ry).1.n ≤ 4194304 := mor_le
theorem closeR_le {m : Pm Bool} {rx ry : Int} : (closeR m rx ry).1.n ≤ 4194304 := mor_le
theorem openR_le {m : Pm Bool} {rx ry : Int} : (openR m rx ry).1.n ≤ 4194304 := by
  unfold openR
  split
  · exact mor_le
  · simp [noB]
def majF (m : Pm Bool) (r : Int) (j : Nat) : Bool := decide ((2 * r + 1) * (2 * r + 1) < 2 * boxAt (bw m.f) m.W m.H ((j : Int) % m.W) ((j : Int) / m.W) r r)
def majR (m : Pm Bool) (r : Int) : Pm Bool × Int := if m.chk r r = 0 then (⟨m.W, m.H, m.n, majF m r⟩, 0) else (noB, m.chk r r)
theorem majR_le {m : Pm Bool} {r : Int} : (majR m r).1.n ≤ 4194304 := by
  unfold majR
  split
  · rename_i h; exact (vld_pos (mchk_zero h).1).2
  · simp [noB]
def innerB (m : Pm Bool) (x y : Int) : Bool := m.at_ (x - 1) y && m.at_ (x + 1) y && m.at_ x (y - 1) && m.at_ x (y + 1)
def outlF (m : Pm Bool) (j : Nat) : Bool := m.f j && !innerB m ((j : Int) % m.W) ((j : Int) / m.W)
def outlR (m : Pm Bool) : Pm Bool × Int := if m.vld = true then (⟨m.W, m.H, m.n, outlF m⟩, 0) else (noB, 1)
theorem outlR_ok {W H : Int} {n : Nat} {f : Nat → Bool} (h : vldB W H n = true) : outlR ⟨W, H, n, f⟩ = (⟨W, H, n, outlF ⟨W, H, n, f⟩⟩, 0) := if_pos h
theorem outlR_no {W H : Int} {n : Nat} {f : Nat → Bool} (h : vldB W H n = false) : outlR ⟨W, H, n, f⟩ = (noB, 1) := if_neg (by simp [Pm.vld, h])
theorem outlR_le {m : Pm Bool} : (outlR m).1.n ≤ 4194304 := by
  unfold outlR
  split
  · rename_i h; exact (vld_pos h).2
  · simp [noB]
theorem bw_t {f : Nat → Bool} {i : Nat} (h : f i = true) : bw f i = 1 := bw_one.2 h
theorem bw_f {f : Nat → Bool} {i : Nat} (h : f i = false) : bw f i = 0 := by simp [bw, h]
theorem mul_up1 {W H : Int} (v1 : 1 ≤ W) (v2 : W ≤ 4096) (v3 : 1 ≤ H) (v4 : H ≤ 4096) : 1 ≤ (W + 1) * (H + 1) ∧ (W + 1) * (H + 1) ≤ 16785409 :=
  ⟨Int.mul_pos (by omega) (by omega), Int.le_trans (Int.mul_le_mul (show W + 1 ≤ 4097 by omega) (show H + 1 ≤ 4097 by omega) (by omega) (by omega)) (by omega)⟩
theorem sum_at {g : Nat → Int} {W : Int} {y x q : Nat} {a row : Int} (ha : a = sumS g W (y : Int).toNat ((x : Int) + 1).toNat) (hx : (x : Int) < W) (hq : (q : Int) = ((y : Int) + 1) * (W + 1) + 1 + x) (hr : row = rowS g W y (x + 1)) : a + row = sumG g W q := by
  rw [sumG_at (y := y + 1) (x := x + 1) (by push_cast; omega) (by push_cast; omega), sumS_succ, hr, ha]
  rfl
theorem maj_at {W H r : Int} {n x y q : Nat} {f : Nat → Bool} {a b c d : Int} (hx : (x : Int) < W) (hq : (q : Int) = (y : Int) * W + x) (hr : 0 ≤ r)
    (e1 : a = sumS (bw f) W (min H ((y : Int) + r + 1)).toNat (min W ((x : Int) + r + 1)).toNat) (e2 : b = sumS (bw f) W (min H ((y : Int) + r + 1)).toNat (max 0 ((x : Int) - r)).toNat)
    (e3 : c = sumS (bw f) W (max 0 ((y : Int) - r)).toNat (min W ((x : Int) + r + 1)).toNat) (e4 : d = sumS (bw f) W (max 0 ((y : Int) - r)).toNat (max 0 ((x : Int) - r)).toNat) :
    decide ((2 * r + 1) * (2 * r + 1) < 2 * (a - b - c + d)) = majF ⟨W, H, n, f⟩ r q := by
  unfold majF boxAt boxS
  simp only
  rw [(dm hq (by omega) hx).1, (dm hq (by omega) hx).2, e1, e2, e3, e4]
/-! ### the document's answer -/
theorem boxS_succ {g : Nat → Int} {W : Int} {t b l r : Nat} : boxS g W t (b + 1) l r = boxS g W t b l r + (rowS g W b r - rowS g W b l) := by
  unfold boxS
  rw [sumS_succ, sumS_succ]
  omega
theorem boxS_nil {g : Nat → Int} {W : Int} {t l r : Nat} : boxS g W t t l r = 0 := by unfold boxS; omega
/-- the count of the box around a place, which need not lie within the bitmap -/
def cntAt (f : Nat → Bool) (W H x y rx ry : Int) : Int := boxS (bw f) W (max 0 (y - ry)).toNat (max (max 0 (y - ry)) (min (H - 1) (y + ry) + 1)).toNat (max 0 (x - rx)).toNat (max (max 0 (x - rx)) (min (W - 1) (x + rx) + 1)).toNat
theorem cnt_step {g : Nat → Int} {W l i : Int} {j : Int} (hj : 0 ≤ j) (hi : 0 ≤ i) : rowS g W j.toNat (i + 1).toNat = rowS g W j.toNat i.toNat + g (j * W + i).toNat := by
  rw [show (i + 1).toNat = i.toNat + 1 by omega, rowS_succ, Int.toNat_of_nonneg hj, Int.toNat_of_nonneg hi]
theorem cnt_row {g : Nat → Int} {W : Int} {t j l r : Int} (hj : 0 ≤ j) : boxS g W t.toNat (j + 1).toNat l.toNat r.toNat = boxS g W t.toNat j.toNat l.toNat r.toNat + (rowS g W j.toNat r.toNat - rowS g W j.toNat l.toNat) := by
  rw [show (j + 1).toNat = j.toNat + 1 by omega, boxS_succ]
theorem box_le {f : Nat → Bool} {W t b l r : Int} (h0 : 0 ≤ t) (h1 : t ≤ b) (h2 : b ≤ 16384) (h3 : 0 ≤ l) (h4 : l ≤ r) (h5 : r ≤ 16384) : 0 ≤ boxS (bw f) W t.toNat b.toNat l.toNat r.toNat ∧ boxS (bw f) W t.toNat b.toNat l.toNat r.toNat ≤ 268435456 := by
  have h := box_nonneg (f := f) (W := W) (t := t.toNat) (b := b.toNat) (l := l.toNat) (r := r.toNat) (by omega) (by omega)
  refine ⟨h.1, Int.le_trans h.2 ?_⟩
  exact Int.le_trans (Int.mul_le_mul (show ((b.toNat : Int) - t.toNat) ≤ 16384 by omega) (show ((r.toNat : Int) - l.toNat) ≤ 16384 by omega) (by omega) (by omega)) (by omega)
theorem row_le {f : Nat → Bool} {W l r : Int} {y : Nat} (h3 : 0 ≤ l) (h4 : l ≤ r) (h5 : r ≤ 16384) : 0 ≤ rowS (bw f) W y r.toNat - rowS (bw f) W y l.toNat ∧ rowS (bw f) W y r.toNat - rowS (bw f) W y l.toNat ≤ 16384 := by
  have h := rowS_bd (g := bw f) (W := W) (lo := 0) (hi := 1) (y := y) (l := l.toNat) (r := r.toNat) (by omega) (fun _ _ _ => bw_bd)
  rw [Int.mul_zero, Int.mul_one] at h
  omega
theorem cnt_le {f : Nat → Bool} {W H x y rx ry : Int} (h1 : W ≤ 4096) (h2 : H ≤ 4096) (h3 : x - rx ≤ 4096) (h4 : y - ry ≤ 4096) : 0 ≤ cntAt f W H x y rx ry ∧ cntAt f W H x y rx ry ≤ 268435456 :=
  box_le (by omega) (by omega) (by omega) (by omega) (by omega) (by omega)
def areaI (rx ry : Int) : Int := (2 * rx + 1) * (2 * ry + 1)
theorem area_bd {rx ry : Int} (h1 : 0 ≤ rx) (h2 : rx ≤ 4096) (h3 : 0 ≤ ry) (h4 : ry ≤ 4096) : 1 ≤ (2 * rx + 1) * (2 * ry + 1) ∧ (2 * rx + 1) * (2 * ry + 1) ≤ 67125249 :=
  ⟨Int.mul_pos (by omega) (by omega), Int.le_trans (Int.mul_le_mul (show 2 * rx + 1 ≤ 8193 by omega) (show 2 * ry + 1 ≤ 8193 by omega) (by omega) (by omega)) (by omega)⟩
def rErF (m : Pm Bool) (rx ry : Int) (j : Nat) : Bool := decide (cntAt m.f m.W m.H ((j : Int) % m.W) ((j : Int) / m.W) rx ry = areaI rx ry)
def rDiF (m : Pm Bool) (rx ry : Int) (j : Nat) : Bool := decide (0 < cntAt m.f m.W m.H ((j : Int) % m.W) ((j : Int) / m.W) rx ry)
def rMaF (m : Pm Bool) (r : Int) (j : Nat) : Bool := decide (areaI r r < 2 * cntAt m.f m.W m.H ((j : Int) % m.W) ((j : Int) / m.W) r r)
/-- all places of the box have a dark pixel in their boxes -/
def nearB (f : Nat → Bool) (W H x y rx ry : Int) : Bool := (List.range (2 * ry + 1).toNat).all fun b => (List.range (2 * rx + 1).toNat).all fun a => decide (cntAt f W H (x - rx + a) (y - ry + b) rx ry ≠ 0)
theorem nearB_iff {f : Nat → Bool} {W H x y rx ry : Int} : nearB f W H x y rx ry = true ↔ ∀ x' y' : Int, x - rx ≤ x' → x' ≤ x + rx → y - ry ≤ y' → y' ≤ y + ry → cntAt f W H x' y' rx ry ≠ 0 := by
  unfold nearB
  simp only [List.all_eq_true, List.mem_range, decide_eq_true_eq]
  constructor
  · intro h x' y' h1 h2 h3 h4
    have := h (y' - (y - ry)).toNat (by omega) (x' - (x - rx)).toNat (by omega)
    rw [show x - rx + (((x' - (x - rx)).toNat : Nat) : Int) = x' by omega, show y - ry + (((y' - (y - ry)).toNat : Nat) : Int) = y' by omega] at this
    exact this
  · intro h b hb a ha
    exact h _ _ (by omega) (by omega) (by omega) (by omega)
def rClF (m : Pm Bool) (rx ry : Int) (j : Nat) : Bool := nearB m.f m.W m.H ((j : Int) % m.W) ((j : Int) / m.W) rx ry
def rR (F : Nat → Bool) (m : Pm Bool) (rx ry : Int) : Pm Bool × Int := if m.chk rx ry = 0 then (⟨m.W, m.H, m.n, F⟩, 0) else (noB, m.chk rx ry)
def rerodeR (m : Pm Bool) (rx ry : Int) : Pm Bool × Int := if m.chk rx ry = 0 then (⟨m.W, m.H, m.n, rErF m rx ry⟩, 0) else (noB, m.chk rx ry)
def rdilateR (m : Pm Bool) (rx ry : Int) : Pm Bool × Int := if m.chk rx ry = 0 then (⟨m.W, m.H, m.n, rDiF m rx ry⟩, 0) else (noB, m.chk rx ry)
def rcloseR (m : Pm Bool) (rx ry : Int) : Pm Bool × Int := if m.chk rx ry = 0 then (⟨m.W, m.H, m.n, rClF m rx ry⟩, 0) else (noB, m.chk rx ry)
def rmajR (m : Pm Bool) (r : Int) : Pm Bool × Int := if m.chk r r = 0 then (⟨m.W, m.H, m.n, rMaF m r⟩, 0) else (noB, m.chk r r)
def ropenR (m : Pm Bool) (rx ry : Int) : Pm Bool × Int := if (rerodeR m rx ry).2 = 0 then rdilateR (rerodeR m rx ry).1 rx ry else (noB, (rerodeR m rx ry).2)
/-- all dark pixels are dark in another bitmap of the same size -/
def wiB (a b : Pm Bool) : Bool := decide (a.W = b.W ∧ a.H = b.H ∧ a.n = b.n ∧ ∀ i, i < a.n → a.f i = true → b.f i = true)
theorem wi_len {a b : Pm Bool} (h : a.W ≠ b.W ∨ a.H ≠ b.H ∨ (a.n : Int) ≠ (b.n : Int)) : wiB a b = false := by
  unfold wiB
  rw [decide_eq_false_iff_not]
  rintro ⟨h1, h2, h3, _⟩
  omega
theorem wi_no {a b : Pm Bool} (i : Nat) (hi : i < a.n) (h1 : a.f i = true) (h2 : b.f i = false) : wiB a b = false := by
  unfold wiB
  rw [decide_eq_false_iff_not]
  rintro ⟨_, _, _, h⟩
  rw [h i hi h1] at h2
  cases h2
theorem wi_yes {a b : Pm Bool} (h1 : a.W = b.W) (h2 : a.H = b.H) (h3 : a.n = b.n) (h4 : ∀ i, i < a.n → a.f i = true → b.f i = true) : wiB a b = true := by
  unfold wiB
  rw [decide_eq_true_eq]
  exact ⟨h1, h2, h3, h4⟩
theorem outl_at {W H : Int} {n x y q : Nat} {f : Nat → Bool} (hv : vldB W H n = true) (hx : (x : Int) < W) (hy : (y : Int) < H) (hq : (q : Int) = (y : Int) * W + x) :
    (atB W H n f x y && !(atB W H n f ((x : Int) - 1) y && atB W H n f ((x : Int) + 1) y && atB W H n f x ((y : Int) - 1) && atB W H n f x ((y : Int) + 1))) = outlF ⟨W, H, n, f⟩ q := by
  unfold outlF innerB Pm.at_
  simp only
  rw [(dm hq (by omega) hx).1, (dm hq (by omega) hx).2, at_in hv (by omega) hx (by omega) hy, ← hq]
  rfl
theorem mchk_bad {W H : Int} {n : Nat} (h : mchk W H n 0 0 ≠ 0) : vldB W H n = false := by
  cases hv : vldB W H n with
  | false => rfl
  | true => exact absurd (mchk_ok hv (by omega)) h
theorem outl_err {W H : Int} {n : Nat} (h : mchk W H n 0 0 ≠ 0) : 1 = mchk W H n 0 0 := (mchk_arg (mchk_bad h)).symm
end Go.Bs
