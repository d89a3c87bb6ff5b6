/-
  Package raster as plain functions on bitmaps. No program is named here.
-/
import Derived.Test.YtnmiljloifbjeaaBm
namespace Go.Bs
open Go.RowKit Go.Eng

theorem chk_f {W H : Int} {n : Nat} (h : chk W H n ≠ 0) : vldB W H n = false := by unfold chk at h; cases hv : vldB W H n with | false => rfl | true => simp [hv] at h
theorem chk_t {W H : Int} {n : Nat} (h : ¬ chk W H n ≠ 0) : vldB W H n = true := by unfold chk at h; cases hv : vldB W H n with | true => rfl | false => simp [hv] at h
theorem vld_pos {W H : Int} {n : Nat} (h : vldB W H n = true) : 0 < n ∧ n ≤ 4194304 := by
  obtain ⟨v1, v2, v3, v4, v5, v6⟩ := vldB_iff.1 h
  have := (mul_bd v1 v2 v3 v4).1
  omega
theorem chk_te {W H : Int} {n : Nat} (h : chk W H n = 0) : vldB W H n = true := chk_t (by omega)
theorem chk_fe {W H : Int} {n : Nat} (h : ¬ chk W H n = 0) : vldB W H n = false := chk_f h
theorem not_t {b : Bool} (h : (!b) = true) : b = false := by simpa using h
theorem not_f {b : Bool} (h : (!b) = false) : b = true := by simpa using h
theorem and_t {a b : Bool} (h : (a && b) = true) : a = true ∧ b = true := by simpa using h
theorem and_f {a b : Bool} (h : (a && b) = false) : a = false ∨ b = false := Bool.and_eq_false_iff.1 h
theorem or_t {a b : Bool} (h : (a || b) = true) : a = true ∨ b = true := by simpa using h
theorem or_f {a b : Bool} (h : (a || b) = false) : a = false ∧ b = false := by simpa using h
theorem ne_f {a b : Int} (h : decide (a ≠ b) = false) : a = b := by simpa using h
theorem own_of_ext {w w' : World} (h : Ext w w') : Ow [] w w' [] := ⟨h.os, h.tape, h.output, h.size, fun k hk _ => h.block k hk, by simp, by simp⟩
theorem re_rx {e : TypeId} {a b : Int} {n : Nat} {f : Nat → Bool} {v : Value} {Hn : List Blk} {p : Pm Bool × Int} (h : RE e a b n f v Hn) (hp : p = (⟨a, b, n, f⟩, 0)) : RX p v Hn := by
  obtain ⟨g, c, sp, rfl, rfl, hc⟩ := h
  subst hp
  exact ⟨_, c, rfl, hc, rds_own⟩
theorem re_rx' {e : TypeId} {a b : Int} {n : Nat} {f F : Nat → Bool} {v : Value} {Hn : List Blk} {p : Pm Bool × Int} (h : RE e a b n f v Hn) (hp : p = (⟨a, b, n, F⟩, 0)) (hf : ∀ j, j < n → f j = F j) : RX p v Hn := by
  obtain ⟨g, c, sp, rfl, rfl, hc⟩ := h
  subst hp
  refine ⟨_, c, rfl, hc, ?_⟩
  rw [← tabb_ext hf]
  exact rds_own
theorem rx_no {w w' : World} {p : Pm Bool × Int} {er : Int} {e : Ending} (he : e = .returned (noM er)) (hx : Ext w w') (hp : p = (noB, er)) : ∃ v Hn, e = .returned v ∧ RX p v Hn ∧ Ow [] w w' Hn := by
  subst hp
  exact ⟨_, [], he, ⟨none, 0, rfl, Nat.le_refl _, rds_nil⟩, own_of_ext hx⟩
theorem rei_rx {e : TypeId} {a b : Int} {n : Nat} {f : Nat → Int} {v : Value} {Hn : List Blk} {p : Pm Int × Int} (h : REi e a b n f v Hn) (hp : p = (⟨a, b, n, f⟩, 0)) : RXi p v Hn := by
  obtain ⟨g, c, sp, rfl, rfl, hc⟩ := h
  subst hp
  exact ⟨_, c, rfl, hc, rds_own⟩
/-- from two contracts to one -/
theorem rx_of {P : Program} {f : FuncId} {args : Array Value} {w : World} {e : TypeId} {a b er : Int} {n : Nat} {F : Nat → Bool} {p : Pm Bool × Int} (t : Bool)
    (h1 : t = true → Calls P f args w fun e' w' => ∃ v Hn, e' = .returned v ∧ RE e a b n F v Hn ∧ Ow [] w w' Hn) (h0 : t = false → Calls P f args w fun e' w' => e' = .returned (noM er) ∧ Ext w w')
    (p1 : t = true → p = (⟨a, b, n, F⟩, 0)) (p0 : t = false → p = (noB, er)) : Calls P f args w fun e' w' => ∃ v Hn, e' = .returned v ∧ RX p v Hn ∧ Ow [] w w' Hn := by
  cases t
  · exact (h0 rfl).mono fun e' w' ⟨he, hx⟩ => ⟨_, [], he, by rw [p0 rfl]; exact ⟨none, 0, rfl, Nat.le_refl _, rds_nil⟩, own_of_ext hx⟩
  · exact (h1 rfl).mono fun e' w' ⟨v, Hn, he, hR, hO⟩ => ⟨v, Hn, he, re_rx hR (p1 rfl), hO⟩
theorem rxi_of {P : Program} {f : FuncId} {args : Array Value} {w : World} {e : TypeId} {a b er : Int} {n : Nat} {F : Nat → Int} {p : Pm Int × Int} (t : Bool)
    (h1 : t = true → Calls P f args w fun e' w' => ∃ v Hn, e' = .returned v ∧ REi e a b n F v Hn ∧ Ow [] w w' Hn) (h0 : t = false → Calls P f args w fun e' w' => e' = .returned (noM er) ∧ Ext w w')
    (p1 : t = true → p = (⟨a, b, n, F⟩, 0)) (p0 : t = false → p = (noI, er)) : Calls P f args w fun e' w' => ∃ v Hn, e' = .returned v ∧ RXi p v Hn ∧ Ow [] w w' Hn := by
  cases t
  · exact (h0 rfl).mono fun e' w' ⟨he, hx⟩ => ⟨_, [], he, by rw [p0 rfl]; exact ⟨none, 0, rfl, Nat.le_refl _, rds_nil⟩, own_of_ext hx⟩
  · exact (h1 rfl).mono fun e' w' ⟨v, Hn, he, hR, hO⟩ => ⟨v, Hn, he, rei_rx hR (p1 rfl), hO⟩

/-! ### turns -/
def turnR (m : Pm Bool) (t : Int) : Pm Bool × Int := if m.vld = true then (⟨tW (t % 4).toNat m.W m.H, tW (t % 4).toNat m.H m.W, m.n, tF (t % 4).toNat m.W m.H m.f⟩, 0) else (noB, 1)
def turnRi (m : Pm Int) (t : Int) : Pm Int × Int := if m.vld = true then (⟨tW (t % 4).toNat m.W m.H, tW (t % 4).toNat m.H m.W, m.n, tF (t % 4).toNat m.W m.H m.f⟩, 0) else (noI, 1)
theorem turnR_ok {W H t : Int} {n : Nat} {f : Nat → Bool} (h : vldB W H n = true) : turnR ⟨W, H, n, f⟩ t = (⟨tW (t % 4).toNat W H, tW (t % 4).toNat H W, n, tF (t % 4).toNat W H f⟩, 0) := if_pos h
theorem turnR_no {W H t : Int} {n : Nat} {f : Nat → Bool} (h : vldB W H n = false) : turnR ⟨W, H, n, f⟩ t = (noB, 1) := if_neg (by simp [Pm.vld, h])
theorem turnRi_ok {W H t : Int} {n : Nat} {f : Nat → Int} (h : vldB W H n = true) : turnRi ⟨W, H, n, f⟩ t = (⟨tW (t % 4).toNat W H, tW (t % 4).toNat H W, n, tF (t % 4).toNat W H f⟩, 0) := if_pos h
theorem turnRi_no {W H t : Int} {n : Nat} {f : Nat → Int} (h : vldB W H n = false) : turnRi ⟨W, H, n, f⟩ t = (noI, 1) := if_neg (by simp [Pm.vld, h])

theorem rturned_bd {W H i : Int} (h1 : 1 ≤ W) (h2 : W ≤ 4096) (h3 : 1 ≤ H) (h4 : H ≤ 4096) (h5 : 0 ≤ i) (h6 : i < W * H) :
    0 ≤ i % H ∧ i % H < H ∧ 0 ≤ i / H ∧ i / H < W ∧ 0 ≤ (H - 1 - i % H) * W ∧ (H - 1 - i % H) * W + i / H < W * H ∧ W * H ≤ 16777216 := by
  have a := Int.emod_nonneg i (show H ≠ 0 by omega)
  have b := Int.emod_lt_of_pos i (show 0 < H by omega)
  have c : 0 ≤ i / H := Int.ediv_nonneg h5 (by omega)
  have d : i / H < W := Int.ediv_lt_of_lt_mul (by omega) h6
  have e := idx_bd (W := W) (H := H) (x := i / H) (y := H - 1 - i % H) c d (by omega) (by omega)
  exact ⟨a, b, c, d, e.1, e.2.1, (mul_bd h1 h2 h3 h4).2⟩

/-! ### gray -/
def grayF (f : Nat → Bool) (i : Nat) : Int := if f i = true then 0 else 255
def grayR (m : Pm Bool) : Pm Int × Int := if m.vld = true then (⟨m.W, m.H, m.n, grayF m.f⟩, 0) else (noI, 1)
theorem grayR_ok {W H : Int} {n : Nat} {f : Nat → Bool} (h : vldB W H n = true) : grayR ⟨W, H, n, f⟩ = (⟨W, H, n, grayF f⟩, 0) := if_pos h
theorem grayR_no {W H : Int} {n : Nat} {f : Nat → Bool} (h : vldB W H n = false) : grayR ⟨W, H, n, f⟩ = (noI, 1) := if_neg (by simp [Pm.vld, h])

theorem gray_dark {f : Nat → Bool} {i : Nat} (h : f i = true) : grayF f i = 0 := by simp [grayF, h]
theorem gray_light {f : Nat → Bool} {i : Nat} (h : f i = false) : grayF f i = 255 := by simp [grayF, h]

/-! ### mirror -/
def mirrorF {α : Type} (W : Int) (f : Nat → α) (j : Nat) : α := f ((j : Int) / W * W + (W - 1 - (j : Int) % W)).toNat
def mirrorR (m : Pm Bool) : Pm Bool × Int := if m.vld = true then (⟨m.W, m.H, m.n, mirrorF m.W m.f⟩, 0) else (noB, 1)
theorem mirrorR_ok {W H : Int} {n : Nat} {f : Nat → Bool} (h : vldB W H n = true) : mirrorR ⟨W, H, n, f⟩ = (⟨W, H, n, mirrorF W f⟩, 0) := if_pos h
theorem mirrorR_no {W H : Int} {n : Nat} {f : Nat → Bool} (h : vldB W H n = false) : mirrorR ⟨W, H, n, f⟩ = (noB, 1) := if_neg (by simp [Pm.vld, h])

theorem mirror_at {W H : Int} {n k : Nat} {f : Nat → Bool} (hv : vldB W H n = true) (hk : k < n) : atB W H n f (W - 1 - (k : Int) % W) ((k : Int) / W) = mirrorF W f k := by
  obtain ⟨a, b, c, d, e⟩ := cell_bd hv hk
  unfold atB mirrorF
  rw [hv, inB_iff.2 (by omega)]
  simp

/-- a part of a table in the opposite order; the first i and the last i of its elements alone -/
def revP {α : Type} (off n : Nat) (f : Nat → α) (i q : Nat) : α := if off ≤ q ∧ q < off + n ∧ (q < off + i ∨ off + n ≤ q + i) then f (off + off + n - 1 - q) else f q
def revF {α : Type} (off n : Nat) (f : Nat → α) (q : Nat) : α := if off ≤ q ∧ q < off + n then f (off + off + n - 1 - q) else f q
theorem rev_step {α : Type} {N off n i : Nat} {j : Int} {f f1 : Nat → α} (hj : (i : Int) + j = n - 1) (hij : (i : Int) < j) (hN : off + n ≤ N) (hI : ∀ q, q < N → f1 q = revP off n f i q) :
    ∀ q, q < N → upd (upd f1 (off + i) (f1 (off + j.toNat))) (off + j.toNat) (f1 (off + i)) q = revP off n f (i + 1) q := by
  intro q hq
  have e1 := hI (off + i) (by omega)
  have e2 := hI (off + j.toNat) (by omega)
  unfold revP at e1 e2 ⊢
  rw [if_neg (by omega)] at e1 e2
  by_cases a : q = off + j.toNat
  · subst a
    rw [upd_eq, if_pos (by omega), e1]
    congr 1; omega
  · rw [upd_ne a]
    by_cases b : q = off + i
    · subst b
      rw [upd_eq, if_pos (by omega), e2]
      congr 1; omega
    · rw [upd_ne b, hI q hq]
      unfold revP
      by_cases c : off ≤ q ∧ q < off + n ∧ (q < off + i ∨ off + n ≤ q + i)
      · rw [if_pos c, if_pos (by omega)]
      · rw [if_neg c, if_neg (by omega)]
theorem rev_done {α : Type} {N off n i : Nat} {j : Int} {f f1 : Nat → α} (hj : (i : Int) + j = n - 1) (hij : ¬ (i : Int) < j) (hI : ∀ q, q < N → f1 q = revP off n f i q) : ∀ q, q < N → f1 q = revF off n f q := by
  intro q hq
  rw [hI q hq]
  unfold revP revF
  by_cases c : off ≤ q ∧ q < off + n
  · rw [if_pos c]
    by_cases d : q < off + i ∨ off + n ≤ q + i
    · rw [if_pos ⟨c.1, c.2, d⟩]
    · rw [if_neg (by omega)]
      congr 1; omega
  · rw [if_neg c, if_neg (by omega)]
theorem mirror_row {α : Type} {W H : Int} {n y : Nat} {f f1 : Nat → α} (hv : vldB W H n = true) (hy : (y : Int) < H) (hI : ∀ q, q < n → f1 q = if (q : Int) / W < y then mirrorF W f q else f q) :
    ∀ q, q < n → revF ((y : Int) * W).toNat ((((y : Int) + 1) * W).toNat - ((y : Int) * W).toNat) f1 q = if (q : Int) / W < ((y + 1 : Nat) : Int) then mirrorF W f q else f q := by
  intro q hq
  obtain ⟨v1, v2, v3, v4, v5, v6⟩ := vldB_iff.1 hv
  obtain ⟨a, b, c, d, e⟩ := cell_bd hv hq
  have hyW : 0 ≤ (y : Int) * W := Int.mul_nonneg (by omega) (by omega)
  have hb := idx_bd (W := W) (H := H) (x := 0) (y := y) (by omega) (by omega) (by omega) hy
  rw [add1_mul]
  unfold revF
  rcases Int.lt_trichotomy ((q : Int) / W) y with h | h | h
  · have h1 : ((q : Int) / W + 1) * W ≤ (y : Int) * W := Int.mul_le_mul_of_nonneg_right (by omega) (by omega)
    rw [add1_mul] at h1
    rw [if_neg (by omega), hI q hq, if_pos h, if_pos (by push_cast; omega)]
  · rw [h] at e
    have hlt : ((y : Int) * W).toNat + ((y : Int) * W).toNat + (((y : Int) * W + W).toNat - ((y : Int) * W).toNat) - 1 - q < n := by omega
    have hq2 : ((((y : Int) * W).toNat + ((y : Int) * W).toNat + (((y : Int) * W + W).toNat - ((y : Int) * W).toNat) - 1 - q : Nat) : Int) = (y : Int) * W + (W - 1 - (q : Int) % W) := by omega
    have h2 := dm hq2 (by omega) (by omega)
    rw [if_pos (by omega), if_pos (by push_cast; omega), hI _ hlt, if_neg (by rw [h2.1]; omega)]
    unfold mirrorF
    rw [h]
    congr 1; omega
  · have h1 : ((y : Int) + 1) * W ≤ (q : Int) / W * W := Int.mul_le_mul_of_nonneg_right (by omega) (by omega)
    rw [add1_mul] at h1
    rw [if_neg (by omega), hI q hq, if_neg (by omega), if_neg (by push_cast; omega)]

/-! ### enlarge -/
def enlF {α : Type} (W k : Int) (f : Nat → α) (j : Nat) : α := f ((j : Int) / (k * W) / k * W + (j : Int) % (k * W) / k).toNat
def enlR (m : Pm Bool) (k : Int) : Pm Bool × Int :=
  if m.vld = true then (if k < 1 ∨ 4096 < k then (noB, 3) else if fitsB (k * m.W) (k * m.H) = true then (⟨k * m.W, k * m.H, (k * m.W * (k * m.H)).toNat, enlF m.W k m.f⟩, 0) else (noB, 4)) else (noB, 1)
theorem enlR_no {W H k : Int} {n : Nat} {f : Nat → Bool} (h : vldB W H n = false) : enlR ⟨W, H, n, f⟩ k = (noB, 1) := if_neg (by simp [Pm.vld, h])
theorem enlR_range {W H k : Int} {n : Nat} {f : Nat → Bool} (h : vldB W H n = true) (hk : k < 1 ∨ 4096 < k) : enlR ⟨W, H, n, f⟩ k = (noB, 3) := by simp [enlR, Pm.vld, h, hk]
theorem enlR_long {W H k : Int} {n : Nat} {f : Nat → Bool} (h : vldB W H n = true) (hk : ¬ (k < 1 ∨ 4096 < k)) (hf : fitsB (k * W) (k * H) = false) : enlR ⟨W, H, n, f⟩ k = (noB, 4) := by simp [enlR, Pm.vld, h, hk, hf]
theorem enlR_ok {W H k : Int} {n : Nat} {f : Nat → Bool} (h : vldB W H n = true) (hk : ¬ (k < 1 ∨ 4096 < k)) (hf : fitsB (k * W) (k * H) = true) : enlR ⟨W, H, n, f⟩ k = (⟨k * W, k * H, (k * W * (k * H)).toNat, enlF W k f⟩, 0) := by simp [enlR, Pm.vld, h, hk, hf]
theorem mul_in {a b : Int} (h1 : 1 ≤ a) (h2 : a ≤ 4096) (h3 : 1 ≤ b) (h4 : b ≤ 4096) : 1 ≤ a * b ∧ a * b ≤ 16777216 := mul_bd h1 h2 h3 h4

theorem fill_step {α : Type} {d : α} {f1 G : Nat → α} {n i : Nat} {v : α} (hI : ∀ j, j < n → f1 j = if j < i then G j else d) (hv : v = G i) : ∀ j, j < n → upd f1 i v j = if j < i + 1 then G j else d := by
  intro j hj
  by_cases e : j = i
  · subst e; rw [upd_eq, if_pos (by omega), hv]
  · rw [upd_ne e, hI j hj]
    by_cases h : j < i
    · rw [if_pos h, if_pos (by omega)]
    · rw [if_neg h, if_neg (by omega)]
theorem fill_keep {α : Type} {d : α} {f1 G : Nat → α} {n i : Nat} (hI : ∀ j, j < n → f1 j = if j < i then G j else d) (hv : d = G i) : ∀ j, j < n → f1 j = if j < i + 1 then G j else d := by
  intro j hj
  rw [hI j hj]
  by_cases e : j = i
  · subst e; rw [if_neg (by omega), if_pos (by omega), hv]
  · by_cases h : j < i
    · rw [if_pos h, if_pos (by omega)]
    · rw [if_neg h, if_neg (by omega)]
theorem fill_up {α : Type} {d : α} {f1 G : Nat → α} {n q : Nat} {p : Int} {v : α} (hI : ∀ j, j < n → f1 j = if (j : Int) < p then G j else d) (hq : (q : Int) = p) (hv : v = G q) : ∀ j, j < n → upd f1 q v j = if (j : Int) < p + 1 then G j else d := by
  subst hq
  intro j hj
  by_cases e : j = q
  · subst e; rw [upd_eq, if_pos (by omega), hv]
  · rw [upd_ne e, hI j hj]
    by_cases h : (j : Int) < q
    · rw [if_pos h, if_pos (by omega)]
    · rw [if_neg h, if_neg (by omega)]
/-- a whole part is filled -/
theorem fill_spl {α : Type} {d : α} {f1 G g : Nat → α} {n q m : Nat} {p r : Int} (hI : ∀ j, j < n → f1 j = if (j : Int) < p then G j else d) (hq : (q : Int) = p) (hr : r = p + m) (hv : ∀ i, i < m → q + i < n → g i = G (q + i)) : ∀ j, j < n → spl f1 q m g j = if (j : Int) < r then G j else d := by
  subst hq hr
  intro j hj
  unfold spl
  by_cases e : q ≤ j ∧ j < q + m
  · rw [if_pos e, if_pos (by omega), hv _ (by omega) (by omega)]
    congr 1; omega
  · rw [if_neg e, hI j hj]
    by_cases h : (j : Int) < q
    · rw [if_pos h, if_pos (by omega)]
    · rw [if_neg h, if_neg (by omega)]
theorem fill_end {α : Type} {d : α} {f1 G : Nat → α} {n : Nat} {p : Int} (hI : ∀ j, j < n → f1 j = if (j : Int) < p then G j else d) (hp : (n : Int) ≤ p) : ∀ j, j < n → f1 j = G j := by
  intro j hj
  rw [hI j hj, if_pos (by omega)]
theorem fill_to {α : Type} {d : α} {f1 G : Nat → α} {n : Nat} {p r : Int} (hI : ∀ j, j < n → f1 j = if (j : Int) < p then G j else d) (h : p = r) : ∀ j, j < n → f1 j = if (j : Int) < r then G j else d := h ▸ hI
theorem fill_new {α : Type} {d : α} {G : Nat → α} {n : Nat} {p : Int} (h : p ≤ 0) : ∀ j, j < n → (fun _ : Nat => d) j = if (j : Int) < p then G j else d := fun j _ => by rw [if_neg (by omega)]
theorem sub1_mul {a b : Int} : (a - 1) * b = a * b - b := by rw [Int.sub_mul, Int.one_mul]
theorem enl_bd {W H k y x : Int} (hk : 1 ≤ k) (hy : 0 ≤ y) (hy1 : y < k * H) (hx : 0 ≤ x) (hx1 : x < k * W) :
    0 ≤ y / k ∧ y / k < H ∧ 0 ≤ x / k ∧ x / k < W ∧ 0 ≤ y / k * W ∧ y / k * W + x / k < W * H := by
  have a1 : 0 ≤ y / k := Int.ediv_nonneg hy (by omega)
  have a2 : y / k < H := Int.ediv_lt_of_lt_mul (by omega) (by rw [Int.mul_comm]; exact hy1)
  have a3 : 0 ≤ x / k := Int.ediv_nonneg hx (by omega)
  have a4 : x / k < W := Int.ediv_lt_of_lt_mul (by omega) (by rw [Int.mul_comm]; exact hx1)
  have b := idx_bd a3 a4 a1 a2
  exact ⟨a1, a2, a3, a4, b.1, b.2.1⟩
theorem enl_at {α : Type} {W k y x : Int} {f : Nat → α} {q : Nat} (hx : 0 ≤ x) (hx1 : x < k * W) (hq : (q : Int) = y * (k * W) + x) : f (y / k * W + x / k).toNat = enlF W k f q := by
  unfold enlF
  rw [(dm hq hx hx1).1, (dm hq hx hx1).2]
theorem div_pred {y k : Int} (hk : 1 ≤ k) (h : 0 < y % k) : (y - 1) / k = y / k := by
  have h1 := Int.mul_ediv_add_emod y k
  have h2 := Int.emod_lt_of_pos y (show 0 < k by omega)
  have h3 : y - 1 = (y / k) * k + (y % k - 1) := by rw [Int.mul_comm]; omega
  exact (dm h3 (by omega) (by omega)).1
theorem enl_copy {α : Type} {W k y : Int} {f : Nat → α} {q r i : Nat} (hk : 1 ≤ k) (h : 0 < y % k) (hi : (i : Int) < k * W) (hq : (q : Int) = y * (k * W)) (hr : (r : Int) = (y - 1) * (k * W)) : enlF W k f (r + i) = enlF W k f (q + i) := by
  have e1 := enl_at (f := f) (W := W) (k := k) (y := y) (x := i) (q := q + i) (by omega) hi (by push_cast; omega)
  have e2 := enl_at (f := f) (W := W) (k := k) (y := y - 1) (x := i) (q := r + i) (by omega) hi (by push_cast; omega)
  rw [← e1, ← e2, div_pred hk h]
theorem at_in {W H x y : Int} {n : Nat} {f : Nat → Bool} (hv : vldB W H n = true) (h1 : 0 ≤ x) (h2 : x < W) (h3 : 0 ≤ y) (h4 : y < H) : atB W H n f x y = f (y * W + x).toNat := by
  unfold atB
  rw [hv, inB_iff.2 ⟨h1, h2, h3, h4⟩]
  simp
/-- rows of a table that is filled row by row -/
theorem lex_lt {W y x : Int} {j : Nat} (hW : 1 ≤ W) (hx0 : 0 ≤ x) (hx1 : x ≤ W) : ((j : Int) < y * W + x) ↔ ((j : Int) / W < y ∨ ((j : Int) / W = y ∧ (j : Int) % W < x)) := by
  have hJ : W * ((j : Int) / W) + (j : Int) % W = j := Int.mul_ediv_add_emod j W
  rw [Int.mul_comm] at hJ
  have hm0 : 0 ≤ (j : Int) % W := Int.emod_nonneg _ (by omega)
  have hm1 : (j : Int) % W < W := Int.emod_lt_of_pos _ (by omega)
  rcases Int.lt_trichotomy ((j : Int) / W) y with h | h | h
  · have h1 : ((j : Int) / W + 1) * W ≤ y * W := Int.mul_le_mul_of_nonneg_right (by omega) (by omega)
    rw [add1_mul] at h1
    constructor
    · intro _; exact .inl h
    · intro _; omega
  · rw [h] at hJ; constructor
    · intro _; exact .inr ⟨h, by omega⟩
    · rintro (h' | ⟨_, h'⟩) <;> omega
  · have h1 : (y + 1) * W ≤ (j : Int) / W * W := Int.mul_le_mul_of_nonneg_right (by omega) (by omega)
    rw [add1_mul] at h1
    constructor
    · intro _; omega
    · rintro (h' | ⟨h', _⟩) <;> omega
theorem turnR_le {m : Pm Bool} {t : Int} : (turnR m t).1.n ≤ 4194304 := by
  unfold turnR; split
  · rename_i h; exact (vld_pos h).2
  · simp [noB]
theorem turnRi_le {m : Pm Int} {t : Int} : (turnRi m t).1.n ≤ 4194304 := by
  unfold turnRi; split
  · rename_i h; exact (vld_pos h).2
  · simp [noI]
theorem grayR_le {m : Pm Bool} : (grayR m).1.n ≤ 4194304 := by
  unfold grayR; split
  · rename_i h; exact (vld_pos h).2
  · simp [noI]
theorem mirrorR_le {m : Pm Bool} : (mirrorR m).1.n ≤ 4194304 := by
  unfold mirrorR; split
  · rename_i h; exact (vld_pos h).2
  · simp [noB]
theorem enlR_le {m : Pm Bool} {k : Int} : (enlR m k).1.n ≤ 4194304 := by
  unfold enlR
  split
  · split
    · simp [noB]
    · split
      · rename_i h; have := fits_bd h; simp only; omega
      · simp [noB]
  · simp [noB]

/-! ### crop, paste -/
def cropR (m : Pm Bool) (X Y BW BH : Int) : Pm Bool × Int := if m.vld = true then (if fitsB BW BH = true then (⟨BW, BH, (BW * BH).toNat, cropF 10000 m.W m.H m.n m.f X Y BW⟩, 0) else (noB, 23)) else (noB, 1)
def pasteR (m p : Pm Bool) (x y : Int) : Pm Bool × Int := if m.vld = true ∧ p.vld = true then (⟨m.W, m.H, m.n, pasteF 10000 m.W m.H m.n m.f p.W p.H p.n p.f x y⟩, 0) else (noB, 1)
theorem cropR_le {m : Pm Bool} {X Y BW BH : Int} : (cropR m X Y BW BH).1.n ≤ 4194304 := by
  unfold cropR
  split
  · split
    · rename_i h; have := fits_bd h; simp only; omega
    · simp [noB]
  · simp [noB]
theorem pasteR_le {m p : Pm Bool} {x y : Int} : (pasteR m p x y).1.n ≤ 4194304 := by
  unfold pasteR
  split
  · rename_i h; exact (vld_pos h.1).2
  · simp [noB]
theorem cropR_ok {W H X Y BW BH : Int} {n : Nat} {f : Nat → Bool} (h : vldB W H n = true) (hf : fitsB BW BH = true) : cropR ⟨W, H, n, f⟩ X Y BW BH = (⟨BW, BH, (BW * BH).toNat, cropF 10000 W H n f X Y BW⟩, 0) := by simp [cropR, Pm.vld, h, hf]
theorem cropR_size {W H X Y BW BH : Int} {n : Nat} {f : Nat → Bool} (h : vldB W H n = true) (hf : fitsB BW BH = false) : cropR ⟨W, H, n, f⟩ X Y BW BH = (noB, 23) := by simp [cropR, Pm.vld, h, hf]
theorem cropR_no {W H X Y BW BH : Int} {n : Nat} {f : Nat → Bool} (h : vldB W H n = false) : cropR ⟨W, H, n, f⟩ X Y BW BH = (noB, 1) := by simp [cropR, Pm.vld, h]
theorem pasteR_ok {m p : Pm Bool} {x y : Int} (h : m.vld = true) (hp : p.vld = true) : pasteR m p x y = (⟨m.W, m.H, m.n, pasteF 10000 m.W m.H m.n m.f p.W p.H p.n p.f x y⟩, 0) := by simp [pasteR, h, hp]
theorem pasteR_no {m p : Pm Bool} {x y : Int} (h : (m.vld && p.vld) = false) : pasteR m p x y = (noB, 1) := by
  unfold pasteR
  rw [if_neg]
  rintro ⟨a, b⟩
  simp [a, b] at h
end Go.Bs
