/-
  Thresholds: plain definitions and facts. No program is named here.
-/
import Derived.Test.YtcdhbikginpogaaBi
import Derived.Test.YtcdhbikginpogaaPq
import Derived.ChangeKeysEq
namespace Go.Bs
open Go.RowKit Go.Eng

theorem NS.Ok.sub {z : Int} {S T : List Blk} {p : NS} (h : p.Ok z S) (hs : S.Sublist T) : p.Ok z T := ⟨h.le, h.nm, fun _ _ _ hO => h.rd.rd (hO.sub hs)⟩
/-- a quotient -/
def RV (num den : Int) (v : Value) (S : List Blk) : Prop := ∃ p q : NS, v = .agg #[.bool (decide (num < 0)), .slice p.A p.m p.c, .bool (decide (den < 0)), .slice q.A q.m q.c] ∧ p.Ok (nab num) S ∧ q.Ok (nab den) S
theorem rv_two {w W : World} {num den num' den' : Int} {S : List Blk} {p q : NS} (hO : Ow [] w W S) (hp : p.Ok (nab num) S) (hq : q.Ok (nab den) S) (h1 : num = num') (h2 : den = den') :
    ∃ v Hn, Ending.returned (.agg #[.bool (decide (num < 0)), .slice p.A p.m p.c, .bool (decide (den < 0)), .slice q.A q.m q.c]) = .returned v ∧ RV num' den' v Hn ∧ Ow [] w W Hn := by
  subst h1
  subst h2
  exact ⟨_, S, rfl, ⟨p, q, rfl, hp, hq⟩, hO⟩
def vnum (n0 s0 n1 s1 : Int) : Int := if n0 = 0 ∨ n1 = 0 then 0 else (n1 * s0 - n0 * s1) * (n1 * s0 - n0 * s1)
def vden (n0 n1 : Int) : Int := if n0 = 0 ∨ n1 = 0 then 1 else n0 * n1
theorem mul_le2 {a b A B : Int} (a0 : 0 ≤ a) (a1 : a ≤ A) (b0 : 0 ≤ b) (b1 : b ≤ B) : 0 ≤ a * b ∧ a * b ≤ A * B := ⟨Int.mul_nonneg a0 b0, Int.mul_le_mul a1 b1 b0 (by omega)⟩
theorem nab_le {z : Int} : z ≤ nab z ∧ -z ≤ nab z ∧ 0 ≤ nab z := by unfold nab; split <;> omega
theorem nab_bd {z c : Int} (h : -c ≤ z ∧ z ≤ c) : nab z ≤ c := by unfold nab; split <;> omega
theorem sq_nn {z : Int} : 0 ≤ z * z := by
  by_cases h : z < 0
  · have := Int.mul_pos_of_neg_of_neg h h; omega
  · exact Int.mul_nonneg (by omega) (by omega)
theorem sq_le {z c : Int} (h : -c ≤ z ∧ z ≤ c) : 0 ≤ z * z ∧ z * z ≤ c * c := by
  refine ⟨sq_nn, ?_⟩
  have e : z * z = nab z * nab z := by unfold nab; split; (· rw [Int.neg_mul_neg]); rfl
  rw [e]
  have := nab_le (z := z)
  exact Int.mul_le_mul (nab_bd h) (nab_bd h) this.2.2 (by omega)
theorem var_bd {n0 s0 n1 s1 : Int} (a0 : 0 ≤ n0) (a1 : n0 ≤ 2000) (b0 : 0 ≤ s0) (b1 : s0 ≤ 510000) (c0 : 0 ≤ n1) (c1 : n1 ≤ 2000) (d0 : 0 ≤ s1) (d1 : s1 ≤ 510000) :
    (0 ≤ n1 * s0 ∧ n1 * s0 ≤ 1020000000) ∧ (0 ≤ n0 * s1 ∧ n0 * s1 ≤ 1020000000) ∧ (0 ≤ n0 * n1 ∧ n0 * n1 ≤ 4000000) ∧ (0 ≤ (n1 * s0 - n0 * s1) * (n1 * s0 - n0 * s1) ∧ (n1 * s0 - n0 * s1) * (n1 * s0 - n0 * s1) ≤ 1040400000000000000) := by
  have e1 := mul_le2 c0 c1 b0 b1
  have e2 := mul_le2 a0 a1 d0 d1
  have e3 := mul_le2 a0 a1 c0 c1
  have e4 := sq_le (z := n1 * s0 - n0 * s1) (c := 1020000000) (by omega)
  exact ⟨by omega, by omega, by omega, by omega⟩
theorem vnum_bd {n0 s0 n1 s1 : Int} (a0 : 0 ≤ n0) (a1 : n0 ≤ 2000) (b0 : 0 ≤ s0) (b1 : s0 ≤ 510000) (c0 : 0 ≤ n1) (c1 : n1 ≤ 2000) (d0 : 0 ≤ s1) (d1 : s1 ≤ 510000) :
    (0 ≤ vnum n0 s0 n1 s1 ∧ vnum n0 s0 n1 s1 ≤ 1040400000000000000) ∧ (1 ≤ vden n0 n1 ∧ vden n0 n1 ≤ 4000000) := by
  obtain ⟨-, -, e3, e4⟩ := var_bd a0 a1 b0 b1 c0 c1 d0 d1
  unfold vnum vden
  by_cases h : n0 = 0 ∨ n1 = 0
  · rw [if_pos h, if_pos h]; omega
  · rw [if_neg h, if_neg h]
    have := Int.mul_le_mul (show 1 ≤ n0 by omega) (show 1 ≤ n1 by omega) (by omega) (by omega)
    omega
theorem cmp_pos {a b : Int} : decide (0 < cmpZ a b) = decide (b < a) := by
  unfold cmpZ
  by_cases h : a < b
  · rw [if_pos h, decide_eq_false (by omega), decide_eq_false (by omega)]
  · rw [if_neg h]
    by_cases h2 : b < a
    · rw [if_pos h2, decide_eq_true h2]; rfl
    · rw [if_neg h2, decide_eq_false h2]; rfl
/-- products of a numerator and a denominator are not great -/
theorem cross_bd {a b : Int} (ha : 0 ≤ a ∧ a ≤ 1040400000000000000) (hb : 1 ≤ b ∧ b ≤ 4000000) : nab a ≤ 10000000000000000000000000000000000000000 ∧ nab b ≤ 10000000000000000000000000000000000000000 ∧ nab (a * b) ≤ 10000000000000000000000000000000000000000 := by
  have e := mul_le2 ha.1 ha.2 (show 0 ≤ b by omega) hb.2
  exact ⟨nab_bd (by omega), nab_bd (by omega), nab_bd (by omega)⟩
/-! ### how often values occur -/
def cntP (f : Nat → Int) : Nat → Nat → Int
  | 0, _ => 0
  | n + 1, v => cntP f n v + if f n = (v : Int) then 1 else 0
def nT (f : Nat → Int) : Nat → Nat → Int
  | 0, _ => 0
  | n + 1, t => nT f n t + if f n < (t : Int) then 1 else 0
def sT (f : Nat → Int) : Nat → Nat → Int
  | 0, _ => 0
  | n + 1, t => sT f n t + if f n < (t : Int) then f n else 0
theorem cnt_bd {f : Nat → Int} {n v : Nat} : 0 ≤ cntP f n v ∧ cntP f n v ≤ n := by
  induction n with
  | zero => exact ⟨Int.le_refl _, Int.le_refl _⟩
  | succ n ih => unfold cntP; split <;> omega
theorem nT_bd {f : Nat → Int} {n t : Nat} : 0 ≤ nT f n t ∧ nT f n t ≤ n := by
  induction n with
  | zero => exact ⟨Int.le_refl _, Int.le_refl _⟩
  | succ n ih => unfold nT; split <;> omega
theorem PixOk.le {n : Nat} {f : Nat → Int} (h : PixOk (n + 1) f) : PixOk n f := fun i hi => h i (by omega)
theorem sT_bd {f : Nat → Int} {n t : Nat} (h : PixOk n f) : 0 ≤ sT f n t ∧ sT f n t ≤ sT f n 256 ∧ sT f n 256 ≤ 255 * n := by
  induction n with
  | zero => exact ⟨Int.le_refl _, Int.le_refl _, Int.le_refl _⟩
  | succ n ih =>
    have i := ih h.le
    have b := h n (by omega)
    unfold sT
    rw [if_pos (show f n < ((256 : Nat) : Int) by omega)]
    split <;> omega
theorem nT_all {f : Nat → Int} {n : Nat} (h : PixOk n f) : nT f n 256 = n := by
  induction n with
  | zero => rfl
  | succ n ih =>
    have b := h n (by omega)
    unfold nT
    rw [ih h.le, if_pos (by omega)]
    omega
theorem nT_none {f : Nat → Int} {n : Nat} (h : PixOk n f) : nT f n 0 = 0 ∧ sT f n 0 = 0 := by
  induction n with
  | zero => exact ⟨rfl, rfl⟩
  | succ n ih =>
    have b := h n (by omega)
    unfold nT sT
    rw [(ih h.le).1, (ih h.le).2, if_neg (by omega), if_neg (by omega)]
    exact ⟨rfl, rfl⟩
theorem nT_succ {f : Nat → Int} {n t : Nat} : nT f n t + cntP f n t = nT f n (t + 1) := by
  induction n with
  | zero => rfl
  | succ n ih =>
    unfold nT cntP
    rw [← ih]
    by_cases a : f n < (t : Int)
    · rw [if_pos a, if_neg (by omega), if_pos (by omega)]; omega
    · by_cases b : f n = (t : Int)
      · rw [if_neg a, if_pos b, if_pos (by omega)]; omega
      · rw [if_neg a, if_neg b, if_neg (by omega)]; omega
theorem sT_succ {f : Nat → Int} {n t : Nat} : sT f n t + (t : Int) * cntP f n t = sT f n (t + 1) := by
  induction n with
  | zero => simp [sT, cntP]
  | succ n ih =>
    unfold sT cntP
    rw [← ih, Int.mul_add]
    by_cases a : f n < (t : Int)
    · rw [if_pos a, if_neg (by omega), if_pos (by omega)]; omega
    · by_cases b : f n = (t : Int)
      · rw [if_neg a, if_pos b, if_pos (by omega), b]; omega
      · rw [if_neg a, if_neg b, if_neg (by omega)]; omega
theorem his_step {f f1 : Nat → Int} {i N : Nat} {v : Nat} (hv : f i = (v : Int)) (hI : ∀ u, u < N → f1 u = cntP f i u) : ∀ u, u < N → upd f1 v (f1 v + 1) u = cntP f (i + 1) u := fun u hu => by
  unfold cntP
  by_cases e : u = v
  · subst e
    rw [upd_eq, if_pos hv, hI u hu]
  · rw [upd_ne e, if_neg (by omega), hI u hu]
    omega
/-- the counts -/
def hisR (m : Pm Int) : (Nat → Int) × Int := if vldB m.W m.H m.n = true then (cntP m.f m.n, 0) else (fun _ => 0, 1)
section
variable {W H : Int} {n : Nat} {f : Nat → Int}
theorem hisR_ok (h : vldB W H n = true) : hisR ⟨W, H, n, f⟩ = (cntP f n, 0) := if_pos h
theorem hisR_no (h : vldB W H n = false) : hisR ⟨W, H, n, f⟩ = (fun _ => 0, 1) := if_neg (by simp [h])
theorem hisR_zero (h : ¬ (hisR ⟨W, H, n, f⟩).2 ≠ 0) : vldB W H n = true := by
  cases hv : vldB W H n with
  | true => rfl
  | false => rw [hisR_no hv] at h; exact absurd (by decide) h
end
theorem his_ret {F : Nat → Int} {er : Int} {p : (Nat → Int) × Int} (h1 : ∀ v, v < 256 → F v = p.1 v) (h2 : er = p.2) :
    Ending.returned (.tuple #[.agg (tab 256 (iv .i64 F) ++ []).toArray, .int .i64 er]) = .returned (.tuple #[.agg (tab 256 (iv .i64 p.1) ++ []).toArray, .int .i64 p.2]) := by
  rw [tabi_ext h1, h2]
theorem tab_onei0 {q : IntKind} {n : Nat} {f : Nat → Int} : ∀ u ∈ tab n (iv q f) ++ [], u.oneCell' = true := by rw [List.append_nil]; exact tab_onei
section
variable {P : Program} {N : Sz} {X : List Nat} {w0 : World} {o : Oper} {L : List (Nat × Value)} {H : List Blk}
theorem eo_indexV {t e : TypeId} {len : Nat} {q k : IntKind} {x y : Operand} {i : Int} {F : Nat → Int} (ho : o.op = .index t x y) (ht : P.underlying t = some (.array len e)) (he : P.plainKey e = true) (hz : (P.info? e).map (·.size) = some 1)
    (hx : ev L x = some (.agg (tab len (iv q F) ++ []).toArray)) (hy : ev L y = some (.int k i)) (h0 : 0 ≤ i) (h1 : i < len) : EO P N X w0 o L H (.int q (F i.toNat)) :=
  eo_val fun a W hF _ => by
    have hs := Go.Eng.run_sizeOf (P := P) hz W
    have hp := run_part_plain (P := P) (w := W) he (xs := (tab len (iv q F) ++ []).toArray) (off := i.toNat * 1) (v := .int q (F i.toNat)) (by
      rw [Nat.mul_one, List.getElem?_toArray, List.append_nil]
      exact tab_geti (by omega))
    rw [Nat.mul_one, List.append_nil] at hp
    simp [execOp, ho, hF.eval hx, hF.eval hy, Instr.index, run_underlying ht, asIntOf, h0, h1, hs, hp]
end
/-! ### the threshold that divides best -/
def vN (f : Nat → Int) (n t : Nat) : Int := vnum (nT f n t) (sT f n t) ((n : Int) - nT f n t) (sT f n 256 - sT f n t)
def vD (f : Nat → Int) (n t : Nat) : Int := vden (nT f n t) ((n : Int) - nT f n t)
def bst (f : Nat → Int) (n : Nat) : Nat → Nat
  | 0 => 0
  | k + 1 => if vN f n (bst f n k) * vD f n (k + 1) < vN f n (k + 1) * vD f n (bst f n k) then k + 1 else bst f n k
theorem bst_le {f : Nat → Int} {n k : Nat} : bst f n k ≤ k := by
  induction k with
  | zero => exact Nat.le_refl _
  | succ k ih => unfold bst; split <;> omega
structure VS where
  p : NS
  q : NS
  S : List Blk
def otsR (m : Pm Int) : Int × Int := if vldB m.W m.H m.n = true then (bst m.f m.n 255, 0) else (0, 1)
section
variable {W H : Int} {n : Nat} {f : Nat → Int}
theorem otsR_ok (h : vldB W H n = true) : otsR ⟨W, H, n, f⟩ = (((bst f n 255 : Nat) : Int), 0) := if_pos h
theorem otsR_no (h : vldB W H n = false) : otsR ⟨W, H, n, f⟩ = (0, 1) := if_neg (by simp [h])
theorem hisR_err (h : (hisR ⟨W, H, n, f⟩).2 ≠ 0) : vldB W H n = false ∧ (hisR ⟨W, H, n, f⟩).2 = 1 := by
  cases hv : vldB W H n with
  | true => rw [hisR_ok hv] at h; exact absurd rfl h
  | false => exact ⟨rfl, by rw [hisR_no hv]⟩
theorem hisR_fst (h : vldB W H n = true) : (hisR ⟨W, H, n, f⟩).1 = cntP f n := by rw [hisR_ok h]
theorem parts_bd {t : Nat} (hp : PixOk n f) (hn : n ≤ 2000) : (0 ≤ nT f n t ∧ nT f n t ≤ 2000) ∧ (0 ≤ sT f n t ∧ sT f n t ≤ 510000) ∧ (0 ≤ (n : Int) - nT f n t ∧ (n : Int) - nT f n t ≤ 2000) ∧ (0 ≤ sT f n 256 - sT f n t ∧ sT f n 256 - sT f n t ≤ 510000) := by
  have a := nT_bd (f := f) (n := n) (t := t)
  have b := sT_bd (t := t) hp
  omega
theorem vNB {t : Nat} (hp : PixOk n f) (hn : n ≤ 2000) : (0 ≤ vN f n t ∧ vN f n t ≤ 1040400000000000000) ∧ (1 ≤ vD f n t ∧ vD f n t ≤ 4000000) := by
  obtain ⟨⟨a1, a2⟩, ⟨b1, b2⟩, ⟨c1, c2⟩, ⟨d1, d2⟩⟩ := parts_bd (t := t) hp hn
  exact vnum_bd a1 a2 b1 b2 c1 c2 d1 d2
theorem vN_zero (hp : PixOk n f) : vN f n 0 = 0 ∧ vD f n 0 = 1 := by
  unfold vN vD vnum vden
  have := (nT_none hp).1
  exact ⟨if_pos (.inl this), if_pos (.inl this)⟩
theorem bst_yes {k b : Nat} (hb : b = bst f n k) (h : vN f n b * vD f n (k + 1) < vN f n (k + 1) * vD f n b) : k + 1 = bst f n (k + 1) := by
  subst hb
  exact (if_pos h).symm
theorem bst_no {k b : Nat} (hb : b = bst f n k) (h : ¬ vN f n b * vD f n (k + 1) < vN f n (k + 1) * vD f n b) : b = bst f n (k + 1) := by
  subst hb
  exact (if_neg h).symm
def dT (f : Nat → Int) (n t : Nat) : Int := ((n : Int) - nT f n t) * sT f n t - nT f n t * (sT f n 256 - sT f n t)
def qT (f : Nat → Int) (n t : Nat) : Int := nT f n t * ((n : Int) - nT f n t)
theorem vN_pos {t : Nat} (h : 0 < qT f n t) : vN f n t = dT f n t * dT f n t ∧ vD f n t = qT f n t := by
  have c : ¬ (nT f n t = 0 ∨ (n : Int) - nT f n t = 0) := fun e => by
    unfold qT at h
    rcases e with e | e <;> rw [e] at h <;> simp at h
  exact ⟨if_neg c, if_neg c⟩
theorem vN_not {t : Nat} (hp : PixOk n f) (hn : n ≤ 2000) (h : ¬ 0 < qT f n t) : vN f n t = 0 ∧ vD f n t = 1 := by
  have c : nT f n t = 0 ∨ (n : Int) - nT f n t = 0 := by
    obtain ⟨⟨a1, a2⟩, -, ⟨c1, c2⟩, -⟩ := parts_bd (t := t) hp hn
    by_cases e : nT f n t = 0
    · exact .inl e
    · by_cases e2 : (n : Int) - nT f n t = 0
      · exact .inr e2
      · exact absurd (Int.mul_pos (show 0 < nT f n t by omega) (show 0 < (n : Int) - nT f n t by omega)) h
  exact ⟨if_pos c, if_pos c⟩
theorem rb_yes {k b : Nat} {a p : Int} (hb : b = bst f n k) (ha : a * a = vN f n b) (hq : p = vD f n b) (h0 : 0 < qT f n (k + 1)) (h : a * a * qT f n (k + 1) < dT f n (k + 1) * dT f n (k + 1) * p) : k + 1 = bst f n (k + 1) := by
  refine bst_yes hb ?_
  rw [(vN_pos h0).1, (vN_pos h0).2, ← ha, ← hq]
  exact h
theorem rb_no {k b : Nat} {a p : Int} (hp : PixOk n f) (hn : n ≤ 2000) (hb : b = bst f n k) (ha : a * a = vN f n b) (hq : p = vD f n b) (h : ¬ 0 < qT f n (k + 1) ∨ ¬ a * a * qT f n (k + 1) < dT f n (k + 1) * dT f n (k + 1) * p) : b = bst f n (k + 1) := by
  refine bst_no hb ?_
  by_cases h0 : 0 < qT f n (k + 1)
  · rw [(vN_pos h0).1, (vN_pos h0).2, ← ha, ← hq]
    exact h.elim (fun e => absurd h0 e) id
  · rw [(vN_not hp hn h0).1, (vN_not hp hn h0).2]
    have := (vNB (t := b) hp hn).1.1
    omega
end
theorem ret_i2 {a b a' b' : Int} (h : (a, b) = (a', b')) : Ending.returned (.tuple #[.int .i64 a, .int .i64 b]) = .returned (.tuple #[.int .i64 a', .int .i64 b']) := by
  cases h; rfl
/-! ### sums and local thresholds -/
def fx (n : Nat) (f : Nat → Int) (i : Nat) : Int := if i < n then f i else 0
theorem fx_bd {n : Nat} {f : Nat → Int} (h : PixOk n f) (i : Nat) : 0 ≤ fx n f i ∧ fx n f i ≤ 255 := by
  unfold fx
  split
  · exact h i (by assumption)
  · omega
theorem fx_in {n : Nat} {f : Nat → Int} {i : Nat} (h : i < n) : fx n f i = f i := if_pos h
def intR (m : Pm Int) : (Nat × (Nat → Int)) × Int := if vldB m.W m.H m.n = true then ((((m.W + 1) * (m.H + 1)).toNat, sumG (fx m.n m.f) m.W), 0) else (noL, 1)
def arI (W H x y r : Int) : Int := (min W (x + r + 1) - max 0 (x - r)) * (min H (y + r + 1) - max 0 (y - r))
def locF (m : Pm Int) (r p : Int) (j : Nat) : Bool := decide (100 * arI m.W m.H ((j : Int) % m.W) ((j : Int) / m.W) r * m.f j < p * boxAt (fx m.n m.f) m.W m.H ((j : Int) % m.W) ((j : Int) / m.W) r r)
def locR (m : Pm Int) (r p : Int) : Pm Bool × Int := if vldB m.W m.H m.n = true then (if r < 0 ∨ 4096 < r ∨ p < 0 ∨ 200 < p then (noB, 3) else (⟨m.W, m.H, m.n, locF m r p⟩, 0)) else (noB, 1)
def gloF (f : Nat → Int) (t : Int) (j : Nat) : Bool := decide (f j < t)
def gloR (m : Pm Int) (t : Int) : Pm Bool × Int := if vldB m.W m.H m.n = true then (if t < 0 ∨ 256 < t then (noB, 3) else (⟨m.W, m.H, m.n, gloF m.f t⟩, 0)) else (noB, 1)
def autR (m : Pm Int) : Pm Bool × Int := gloR m (otsR m).1
section
variable {W H : Int} {n : Nat} {f : Nat → Int}
theorem intR_ok (h : vldB W H n = true) : intR ⟨W, H, n, f⟩ = ((((W + 1) * (H + 1)).toNat, sumG (fx n f) W), 0) := if_pos h
theorem intR_no (h : vldB W H n = false) : intR ⟨W, H, n, f⟩ = (noL, 1) := if_neg (by simp [h])
theorem intR_zero (h : ¬ (intR ⟨W, H, n, f⟩).2 ≠ 0) : vldB W H n = true := by
  cases hv : vldB W H n with
  | true => rfl
  | false => rw [intR_no hv] at h; exact absurd (by decide) h
theorem intR_err (h : (intR ⟨W, H, n, f⟩).2 ≠ 0) : vldB W H n = false ∧ (intR ⟨W, H, n, f⟩).2 = 1 := by
  cases hv : vldB W H n with
  | true => rw [intR_ok hv] at h; exact absurd rfl h
  | false => exact ⟨rfl, by rw [intR_no hv]⟩
theorem otsR_zero (h : ¬ (otsR ⟨W, H, n, f⟩).2 ≠ 0) : vldB W H n = true := by
  cases hv : vldB W H n with
  | true => rfl
  | false => rw [otsR_no hv] at h; exact absurd (by decide) h
theorem otsR_err (h : (otsR ⟨W, H, n, f⟩).2 ≠ 0) : vldB W H n = false ∧ (otsR ⟨W, H, n, f⟩).2 = 1 := by
  cases hv : vldB W H n with
  | true => rw [otsR_ok hv] at h; exact absurd rfl h
  | false => exact ⟨rfl, by rw [otsR_no hv]⟩
theorem locR_no {r p : Int} (h : vldB W H n = false) : locR ⟨W, H, n, f⟩ r p = (noB, 1) := if_neg (by simp [h])
theorem locR_range {r p : Int} (h : vldB W H n = true) (hr : r < 0 ∨ 4096 < r ∨ p < 0 ∨ 200 < p) : locR ⟨W, H, n, f⟩ r p = (noB, 3) := by
  unfold locR; rw [if_pos h, if_pos hr]
theorem locR_ok {r p : Int} (h : vldB W H n = true) (hr : ¬ (r < 0 ∨ 4096 < r ∨ p < 0 ∨ 200 < p)) : locR ⟨W, H, n, f⟩ r p = (⟨W, H, n, locF ⟨W, H, n, f⟩ r p⟩, 0) := by
  unfold locR; rw [if_pos h, if_neg hr]
theorem gloR_no {t : Int} (h : vldB W H n = false) : gloR ⟨W, H, n, f⟩ t = (noB, 1) := if_neg (by simp [h])
theorem gloR_range {t : Int} (h : vldB W H n = true) (ht : t < 0 ∨ 256 < t) : gloR ⟨W, H, n, f⟩ t = (noB, 3) := by
  unfold gloR; rw [if_pos h, if_pos ht]
theorem gloR_ok {t : Int} (h : vldB W H n = true) (ht : ¬ (t < 0 ∨ 256 < t)) : gloR ⟨W, H, n, f⟩ t = (⟨W, H, n, gloF f t⟩, 0) := by
  unfold gloR; rw [if_pos h, if_neg ht]
theorem autR_no (h : vldB W H n = false) : autR ⟨W, H, n, f⟩ = (noB, 1) := gloR_no h
theorem ar_bd {x y r : Int} (h1 : 1 ≤ W) (h2 : W ≤ 4096) (h3 : 1 ≤ H) (h4 : H ≤ 4096) (hx : 0 ≤ x) (hx1 : x < W) (hy : 0 ≤ y) (hy1 : y < H) (hr : 0 ≤ r) : 0 ≤ arI W H x y r ∧ arI W H x y r ≤ 16777216 := by
  have := mul_le2 (a := min W (x + r + 1) - max 0 (x - r)) (b := min H (y + r + 1) - max 0 (y - r)) (A := 4096) (B := 4096) (by omega) (by omega) (by omega) (by omega)
  unfold arI
  omega
theorem loc_at {m : Pm Int} {x y q : Nat} {r p S : Int} (hx : (x : Int) < m.W) (hq : (q : Int) = (y : Int) * m.W + x) (hs : S = boxAt (fx m.n m.f) m.W m.H x y r r) : decide (100 * arI m.W m.H x y r * m.f q < p * S) = locF m r p q := by
  obtain ⟨e1, e2⟩ := dm hq (by omega) hx
  unfold locF
  rw [e1, e2, hs]
end
theorem rxs_own {w W : World} {H : List Blk} {er : Int} {g n c : Nat} {e : TypeId} {sp : List Value} {f F : Nat → Int} {p : (Nat × (Nat → Int)) × Int} (i : Nat) (hO : Ow [] w W H) (hi : H[i]? = some ⟨g, e, tab n (iv .i64 f) ++ sp⟩) (hp : p = ((n, F), er)) (hf : ∀ j, j < n → f j = F j) (hc : n ≤ c) :
    ∃ v Hn, Ending.returned (.tuple #[.slice (some ⟨g, 0, none⟩) n c, .int .i64 er]) = .returned v ∧ RXs p v Hn ∧ Ow [] w W Hn := by
  subst hp
  refine ⟨_, _, rfl, ⟨_, c, rfl, hc, ?_⟩, hO.pick i hi⟩
  rw [tabi_ext hf]
  exact rds_own
/-! ### slices that are alike -/
def eqS {α : Type} [DecidableEq α] (n : Nat) (f : Nat → α) (n1 : Nat) (f1 : Nat → α) : Bool := decide (n = n1 ∧ ∀ i, i < n → f i = f1 i)
section
variable {α : Type} [DecidableEq α] {n n1 : Nat} {f f1 : Nat → α}
theorem eqS_len (h : n ≠ n1) : eqS n f n1 f1 = false := decide_eq_false fun e => h e.1
theorem eqS_at {i : Nat} (hi : i < n) (h : f i ≠ f1 i) : eqS n f n1 f1 = false := decide_eq_false fun e => h (e.2 i hi)
theorem eqS_yes (h : n = n1) (h2 : ∀ i, i < n → f i = f1 i) : eqS n f n1 f1 = true := decide_eq_true ⟨h, h2⟩
theorem eqM_S {W H W1 H1 : Int} : ((decide (W = W1) && decide (H = H1)) && eqS n f n1 f1) = eqM W H n f W1 H1 n1 f1 := by
  rw [Bool.eq_iff_iff]
  simp [eqM, eqT, eqS, and_assoc]
theorem eqS_rf : eqS n f n f = true := eqS_yes rfl fun _ _ => rfl
end
theorem gloR_le {m : Pm Int} {t : Int} : (gloR m t).1.n ≤ 4194304 := by
  unfold gloR
  split
  · rename_i h
    have := (vld_pos h).2
    split
    · exact Nat.zero_le _
    · exact this
  · exact Nat.zero_le _
theorem autR_le {m : Pm Int} : (autR m).1.n ≤ 4194304 := gloR_le
theorem locR_le {m : Pm Int} {r p : Int} : (locR m r p).1.n ≤ 4194304 := by
  unfold locR
  split
  · rename_i h
    have := (vld_pos h).2
    split
    · exact Nat.zero_le _
    · exact this
  · exact Nat.zero_le _
theorem intR_le {m : Pm Int} : (intR m).1.1 ≤ 16785409 := by
  unfold intR
  split
  · rename_i h
    obtain ⟨v1, v2, v3, v4, v5, v6⟩ := vldB_iff.1 h
    have := mul_le2 (a := m.W + 1) (b := m.H + 1) (A := 4097) (B := 4097) (by omega) (by omega) (by omega) (by omega)
    simp only
    omega
  · exact Nat.zero_le _
theorem grow_no {v s t : Int} (hv : 0 ≤ v ∧ v ≤ 255) (_s0 : 0 ≤ s) (st : s ≤ t) (_t1 : t ≤ 256) :
    ¬ ((((decide (v < s) && !decide (v < t)) || (decide (s = 0) && decide (v < s))) || (decide (t = 256) && !decide (v < t))) = true) := by
  simp only [Bool.or_eq_true, Bool.and_eq_true, decide_eq_true_eq, Bool.not_eq_true', decide_eq_false_iff_not]
  omega
/-! ### arrays are compared; a sum from its neighbours -/
section
variable {P : Program} {N : Sz} {X : List Nat} {w0 : World} {o : Oper} {L : List (Nat × Value)} {H : List Blk}
theorem run_eq_arr (w : World) (d : Nat) {t e : TypeId} {len : Nat} {q : IntKind} {xs : Array Value} {F : Nat → Int} (ht : P.underlying t = some (.array len e)) (he : P.underlying e = some (.int q)) (hz : (P.info? e).map (·.size) = some 1) (hx : ∀ i, i < len → xs[i]? = some (.int q (F i))) (hk : P.plainKey e = true) :
    (Op.equalIn (d + 1 + 1) t (.agg xs) (.agg xs)).run P w = .ok true w := by
  have hs := Go.Eng.run_sizeOf (P := P) hz w
  rw [Op.equalIn]
  simp only [Sem.run_bind, run_underlying ht, Result.andThen_ok, hs]
  rw [Std.Legacy.Range.forIn_eq_forIn_range']
  have hl : ∀ i ∈ List.range' [0:len].start [0:len].size [0:len].step, i < len := by
    intro i hi
    have := List.mem_range'.1 hi
    simp at this
    omega
  generalize List.range' [0:len].start [0:len].size [0:len].step = l at *
  induction l with
  | nil => simp
  | cons i l ih =>
    have hp := run_part_plain (P := P) (w := w) hk (hx i (hl i (by simp)))
    simp only [List.forIn_cons, Sem.run_bind, Nat.mul_one, hp, Result.andThen_ok, run_equalIn_int _ _ _ _ _ _ _ he, Sem.run_ite, BEq.rfl, Bool.not_true, Bool.false_eq_true, if_false, Sem.run_pure]
    have := ih fun j hj => hl j (List.mem_cons_of_mem _ hj)
    simpa only [Nat.mul_one, Sem.run_bind] using this
theorem eo_eqArr {t e t2 : TypeId} {len : Nat} {q : IntKind} {x y : Operand} {F : Nat → Int} (ho : o.op = .binOp .eql t x y t2) (ht : P.underlying t = some (.array len e)) (he : P.underlying e = some (.int q)) (hz : (P.info? e).map (·.size) = some 1) (hk : P.plainKey e = true) (hg : P.eqGuardType P.depth t = false)
    (hx : ev L x = some (.agg (tab len (iv q F) ++ []).toArray)) (hy : ev L y = some (.agg (tab len (iv q F) ++ []).toArray)) : EO P N X w0 o L H (.bool true) :=
  eo_val fun a W hF _ => by
    have h := run_eq_arr (P := P) W 9998 (xs := (tab len (iv q F) ++ []).toArray) ht he hz (fun i hi => by rw [List.getElem?_toArray, List.append_nil]; exact tab_geti hi) hk
    simp only [execOp, ho, hF.eval hx, hF.eval hy, Sem.run_bind, run_eqGuard_agg _ _ _ _ _ _ _ hg, Result.andThen_ok, run_eql_struct, h, Sem.run_pure]
end
theorem int_at {g : Nat → Int} {W : Int} {y x q : Nat} {a b c d : Int} (y1 : 1 ≤ y) (x1 : 1 ≤ x) (hx : (x : Int) ≤ W) (hq : (q : Int) = (y : Int) * (W + 1) + x)
    (ha : a = sumS g W (y : Int).toNat ((x : Int) - 1).toNat) (hb : b = sumS g W ((y : Int) - 1).toNat (x : Int).toNat) (hc : c = sumS g W ((y : Int) - 1).toNat ((x : Int) - 1).toNat) (hd : d = g (((y : Int) - 1) * W + (x : Int) - 1).toNat) : a + b - c + d = sumG g W q := by
  obtain ⟨y, rfl⟩ : ∃ k, y = k + 1 := ⟨y - 1, by omega⟩
  obtain ⟨x, rfl⟩ : ∃ k, x = k + 1 := ⟨x - 1, by omega⟩
  rw [sumG_at hq hx, sumS_succ, rowS_succ]
  rw [show (((x + 1 : Nat) : Int) - 1).toNat = x by omega, show ((y + 1 : Nat) : Int).toNat = y + 1 by omega, sumS_succ] at ha
  rw [show (((y + 1 : Nat) : Int) - 1).toNat = y by omega, show ((x + 1 : Nat) : Int).toNat = x + 1 by omega] at hb
  rw [show (((y + 1 : Nat) : Int) - 1).toNat = y by omega, show (((x + 1 : Nat) : Int) - 1).toNat = x by omega] at hc
  rw [show ((y + 1 : Nat) : Int) - 1 = y by omega, show (y : Int) * W + ((x + 1 : Nat) : Int) - 1 = (y : Int) * W + (x : Int) by omega] at hd
  omega
end Go.Bs
