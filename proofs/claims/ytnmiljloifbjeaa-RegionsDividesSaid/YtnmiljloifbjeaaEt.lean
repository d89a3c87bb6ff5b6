/-
  Enlarging twice, and the least box of an enlarged bitmap (plain laws). No program is named here.
-/
import Derived.Test.YtnmiljloifbjeaaBo
namespace Go.Bs
open Go.RowKit Go.Eng

/-- the pixel (x, y) as a truth value -/
def pxD (W : Int) (f : Nat → Bool) (x y : Int) : Bool := f (y * W + x).toNat
/-- the least box, by its property -/
structure BoxIs (W H : Int) (f : Nat → Bool) (l r t b : Int) : Prop where
  left : ∃ y, 0 ≤ y ∧ y < H ∧ 0 ≤ l ∧ l < W ∧ pxD W f l y = true
  right : ∃ y, 0 ≤ y ∧ y < H ∧ 0 ≤ r ∧ r < W ∧ pxD W f r y = true
  top : ∃ x, 0 ≤ x ∧ x < W ∧ 0 ≤ t ∧ t < H ∧ pxD W f x t = true
  bot : ∃ x, 0 ≤ x ∧ x < W ∧ 0 ≤ b ∧ b < H ∧ pxD W f x b = true
  all : ∀ x y, 0 ≤ x → x < W → 0 ≤ y → y < H → pxD W f x y = true → l ≤ x ∧ x ≤ r ∧ t ≤ y ∧ y ≤ b
theorem box_spec {W H : Int} {n : Nat} {f : Nat → Bool} (hv : vldB W H n = true) :
    ((∀ x y, 0 ≤ x → x < W → 0 ≤ y → y < H → pxD W f x y = false) ∧ topF (dotsV W H n f) = -1) ∨
    (0 ≤ topF (dotsV W H n f) ∧ BoxIs W H f (leftF (dotsV W H n f)) (rightF (dotsV W H n f)) (topF (dotsV W H n f)) (botF (dotsV W H n f))) := by
  obtain ⟨v1, v2, v3, v4, v5, v6⟩ := vldB_iff.1 hv
  have eV : dotsV W H n f = dotsL W f n := if_pos hv
  rw [eV]
  have at_ : ∀ i, i < n → f i = true → pxD W f ((i : Int) % W) ((i : Int) / W) = true ∧ 0 ≤ (i : Int) % W ∧ (i : Int) % W < W ∧ 0 ≤ (i : Int) / W ∧ (i : Int) / W < H := fun i hi h => by
    obtain ⟨a, b, c, d, e⟩ := cell_bd hv hi
    refine ⟨?_, a, b, c, d⟩
    unfold pxD
    rw [e]
    exact h
  have ix : ∀ x y, 0 ≤ x → x < W → 0 ≤ y → y < H → (y * W + x).toNat < n ∧ (((y * W + x).toNat : Nat) : Int) / W = y ∧ (((y * W + x).toNat : Nat) : Int) % W = x := fun x y a b c d => by
    have q := idx_bd a b c d
    have e := dm (k := (((y * W + x).toNat : Nat) : Int)) (y := y) (x := x) (B := W) (by omega) a b
    exact ⟨by omega, e.1, e.2⟩
  rcases top_spec (f := f) v1 n with ⟨a, b⟩ | ⟨⟨i, a1, a2, a3⟩, ⟨i', b1, b2, b3⟩, c⟩
  · exact .inl ⟨fun x y h1 h2 h3 h4 => a _ (ix x y h1 h2 h3 h4).1, b⟩
  · rcases side_spec (f := f) v1 v2 n with ⟨d, _⟩ | ⟨⟨k, d1, d2, d3⟩, ⟨k', e1, e2, e3⟩, g⟩
    · rw [d i a1] at a2; cases a2
    · have p1 := at_ i a1 a2
      have p2 := at_ i' b1 b2
      have p3 := at_ k d1 d2
      have p4 := at_ k' e1 e2
      rw [← a3] at p1
      rw [← b3] at p2
      rw [← d3] at p3
      rw [← e3] at p4
      refine .inr ⟨p1.2.2.2.1, ⟨_, p3.2.2.2.1, p3.2.2.2.2, p3.2.1, p3.2.2.1, p3.1⟩, ⟨_, p4.2.2.2.1, p4.2.2.2.2, p4.2.1, p4.2.2.1, p4.1⟩, ⟨_, p1.2.1, p1.2.2.1, p1.2.2.2.1, p1.2.2.2.2, p1.1⟩, ⟨_, p2.2.1, p2.2.2.1, p2.2.2.2.1, p2.2.2.2.2, p2.1⟩, fun x y h1 h2 h3 h4 h => ?_⟩
      obtain ⟨q1, q2, q3⟩ := ix x y h1 h2 h3 h4
      have r1 := c _ q1 h
      have r2 := g _ q1 h
      rw [q2] at r1
      rw [q3] at r2
      exact ⟨r2.1, r2.2, r1.1, r1.2⟩
theorem enl_px {W H a x y : Int} {f : Nat → Bool} (ha : 1 ≤ a) (hx : 0 ≤ x) (hx1 : x < a * W) (hy : 0 ≤ y) : pxD (a * W) (enlF W a f) x y = pxD W f (x / a) (y / a) := by
  unfold pxD
  exact (enl_at hx hx1 (by
    have : 0 ≤ y * (a * W) := Int.mul_nonneg hy (by omega)
    omega)).symm
theorem div_in {x a W : Int} (ha : 1 ≤ a) (h0 : 0 ≤ x) (h1 : x < a * W) : 0 ≤ x / a ∧ x / a < W ∧ a * (x / a) ≤ x ∧ x < a * (x / a) + a := by
  have e := Int.mul_ediv_add_emod x a
  have m0 := Int.emod_nonneg x (show a ≠ 0 by omega)
  have m1 := Int.emod_lt_of_pos x (show 0 < a by omega)
  exact ⟨Int.ediv_nonneg h0 (by omega), Int.ediv_lt_of_lt_mul (by omega) (by rw [Int.mul_comm] at h1; exact h1), by omega, by omega⟩
theorem up_in {x a W d : Int} (ha : 1 ≤ a) (h0 : 0 ≤ x) (h1 : x < W) (d0 : 0 ≤ d) (d1 : d < a) : 0 ≤ a * x + d ∧ a * x + d < a * W ∧ (a * x + d) / a = x := by
  have e0 : 0 ≤ a * x := Int.mul_nonneg (by omega) h0
  have e1 := Int.mul_le_mul_of_nonneg_left (show x + 1 ≤ W by omega) (show 0 ≤ a by omega)
  rw [Int.mul_add, Int.mul_one] at e1
  refine ⟨by omega, by omega, ?_⟩
  rw [Int.add_comm, Int.add_mul_ediv_left _ _ (by omega), Int.ediv_eq_zero_of_lt d0 d1, Int.zero_add]
theorem box_up' {W H a l r t b l' r' t' b' : Int} {f : Nat → Bool} (ha : 1 ≤ a) (h : BoxIs W H f l r t b) (k : BoxIs (a * W) (a * H) (enlF W a f) l' r' t' b') :
    l' = a * l ∧ r' = a * r + (a - 1) ∧ t' = a * t ∧ b' = a * b + (a - 1) := by
  have up : ∀ x y dx dy, 0 ≤ x → x < W → 0 ≤ y → y < H → pxD W f x y = true → 0 ≤ dx → dx < a → 0 ≤ dy → dy < a → l' ≤ a * x + dx ∧ a * x + dx ≤ r' ∧ t' ≤ a * y + dy ∧ a * y + dy ≤ b' := fun x y dx dy x0 x1 y0 y1 hp d0 d1 d2 d3 => by
    obtain ⟨p1, p2, p3⟩ := up_in ha x0 x1 d0 d1
    obtain ⟨q1, q2, q3⟩ := up_in ha y0 y1 d2 d3
    refine k.all _ _ p1 p2 q1 q2 ?_
    rw [enl_px (H := H) ha p1 p2 q1, p3, q3]
    exact hp
  have dn : ∀ x y, 0 ≤ x → x < a * W → 0 ≤ y → y < a * H → pxD (a * W) (enlF W a f) x y = true → l ≤ x / a ∧ x / a ≤ r ∧ t ≤ y / a ∧ y / a ≤ b := fun x y x0 x1 y0 y1 hp => by
    rw [enl_px (H := H) ha x0 x1 y0] at hp
    have p := div_in ha x0 x1
    have q := div_in ha y0 y1
    exact h.all _ _ p.1 p.2.1 q.1 q.2.1 hp
  have mono : ∀ {u v : Int}, u ≤ v → a * u ≤ a * v := fun h => Int.mul_le_mul_of_nonneg_left h (by omega)
  refine ⟨?_, ?_, ?_, ?_⟩
  · obtain ⟨y, a1, a2, a3, a4, a5⟩ := h.left
    obtain ⟨y', b1, b2, b3, b4, b5⟩ := k.left
    have e1 := (up l y 0 0 a3 a4 a1 a2 a5 (by omega) (by omega) (by omega) (by omega)).1
    have e2 := mono (dn _ _ b3 b4 b1 b2 b5).1
    have e3 := div_in ha b3 b4
    omega
  · obtain ⟨y, a1, a2, a3, a4, a5⟩ := h.right
    obtain ⟨y', b1, b2, b3, b4, b5⟩ := k.right
    have e1 := (up r y (a - 1) 0 a3 a4 a1 a2 a5 (by omega) (by omega) (by omega) (by omega)).2.1
    have e2 := mono (dn _ _ b3 b4 b1 b2 b5).2.1
    have e3 := div_in ha b3 b4
    omega
  · obtain ⟨x, a1, a2, a3, a4, a5⟩ := h.top
    obtain ⟨x', b1, b2, b3, b4, b5⟩ := k.top
    have e1 := (up x t 0 0 a1 a2 a3 a4 a5 (by omega) (by omega) (by omega) (by omega)).2.2.1
    have e2 := mono (dn _ _ b1 b2 b3 b4 b5).2.2.1
    have e3 := div_in ha b3 b4
    omega
  · obtain ⟨x, a1, a2, a3, a4, a5⟩ := h.bot
    obtain ⟨x', b1, b2, b3, b4, b5⟩ := k.bot
    have e1 := (up x b 0 (a - 1) a1 a2 a3 a4 a5 (by omega) (by omega) (by omega) (by omega)).2.2.2
    have e2 := mono (dn _ _ b1 b2 b3 b4 b5).2.2.2
    have e3 := div_in ha b3 b4
    omega
/-- the box of an enlarged bitmap -/
theorem enl_box {W H a : Int} {n n' : Nat} {f : Nat → Bool} (hv : vldB W H n = true) (hv' : vldB (a * W) (a * H) n' = true) (ha : 1 ≤ a) :
    bxB (dotsV W H n f) = bxB (dotsV (a * W) (a * H) n' (enlF W a f)) ∧ bxX (dotsV (a * W) (a * H) n' (enlF W a f)) = a * bxX (dotsV W H n f) ∧ bxY (dotsV (a * W) (a * H) n' (enlF W a f)) = a * bxY (dotsV W H n f) ∧
      bxW (dotsV (a * W) (a * H) n' (enlF W a f)) = a * bxW (dotsV W H n f) ∧ bxH (dotsV (a * W) (a * H) n' (enlF W a f)) = a * bxH (dotsV W H n f) := by
  rcases box_spec (f := f) hv with ⟨h1, h2⟩ | ⟨h1, h2⟩
  · rcases box_spec (f := enlF W a f) hv' with ⟨k1, k2⟩ | ⟨k1, k2⟩
    · unfold bxB bxX bxY bxW bxH
      rw [h2, k2]
      simp
    · obtain ⟨y, b1, b2, b3, b4, b5⟩ := k2.left
      rw [enl_px (H := H) ha b3 b4 b1] at b5
      have p := div_in ha b3 b4
      have q := div_in ha b1 b2
      rw [h1 _ _ p.1 p.2.1 q.1 q.2.1] at b5
      cases b5
  · rcases box_spec (f := enlF W a f) hv' with ⟨k1, k2⟩ | ⟨k1, k2⟩
    · obtain ⟨y, b1, b2, b3, b4, b5⟩ := h2.left
      obtain ⟨p1, p2, p3⟩ := up_in ha b3 b4 (show 0 ≤ (0 : Int) by omega) (by omega)
      obtain ⟨q1, q2, q3⟩ := up_in ha b1 b2 (show 0 ≤ (0 : Int) by omega) (by omega)
      have := k1 _ _ p1 p2 q1 q2
      rw [enl_px (H := H) ha p1 p2 q1, p3, q3, b5] at this
      cases this
    · obtain ⟨e1, e2, e3, e4⟩ := box_up' ha h2 k2
      unfold bxB bxX bxY bxW bxH
      rw [if_neg (by omega), if_neg (by omega), if_neg (by omega), if_neg (by omega), if_neg (by omega), if_neg (by omega), if_neg (by omega), if_neg (by omega)]
      refine ⟨by rw [decide_eq_true (by omega), decide_eq_true (by omega)], e1, e3, ?_, ?_⟩
      · rw [Int.mul_add, Int.mul_sub, Int.mul_one]; omega
      · rw [Int.mul_add, Int.mul_sub, Int.mul_one]; omega
/-- **Enlarging twice.** -/
theorem enl_twice {W H a b : Int} {n : Nat} {f : Nat → Bool} (hv : vldB W H n = true) (a1 : 1 ≤ a) (a2 : a ≤ 8) (b1 : 1 ≤ b) (b2 : b ≤ 8) (hl : ¬ (enlR ⟨W, H, n, f⟩ (a * b)).2 = 4) :
    enlR ⟨W, H, n, f⟩ a = (⟨a * W, a * H, (a * W * (a * H)).toNat, enlF W a f⟩, 0) ∧ vldB (a * W) (a * H) (a * W * (a * H)).toNat = true ∧
    (enlR (enlR ⟨W, H, n, f⟩ a).1 b).2 = 0 ∧ (enlR ⟨W, H, n, f⟩ (a * b)).2 = 0 ∧ eqP (enlR (enlR ⟨W, H, n, f⟩ a).1 b).1 (enlR ⟨W, H, n, f⟩ (a * b)).1 = true := by
  obtain ⟨v1, v2, v3, v4, v5, v6⟩ := vldB_iff.1 hv
  have c1 := Int.mul_le_mul a2 b2 (by omega) (by omega)
  have c0 := Int.mul_pos (show 0 < a by omega) (show 0 < b by omega)
  have hf : fitsB (a * b * W) (a * b * H) = true := by
    cases e : fitsB (a * b * W) (a * b * H) with
    | true => rfl
    | false => exact absurd (by rw [enlR_long hv (by omega) e]) hl
  obtain ⟨f1, f2, f3, f4, f5⟩ := fitsB_iff.1 hf
  have eW : b * (a * W) = a * b * W := by rw [← Int.mul_assoc, Int.mul_comm b]
  have eH : b * (a * H) = a * b * H := by rw [← Int.mul_assoc, Int.mul_comm b]
  have w0 := Int.mul_pos (show 0 < a by omega) (show 0 < W by omega)
  have h0 := Int.mul_pos (show 0 < a by omega) (show 0 < H by omega)
  have wl := Int.mul_le_mul_of_nonneg_right b1 (show 0 ≤ a * W by omega)
  have hl' := Int.mul_le_mul_of_nonneg_right b1 (show 0 ≤ a * H by omega)
  have wh := Int.mul_le_mul (show a * W ≤ a * b * W by omega) (show a * H ≤ a * b * H by omega) (by omega) (by omega)
  have wp := Int.mul_pos w0 h0
  have hfa : fitsB (a * W) (a * H) = true := fitsB_iff.2 (by omega)
  have hva : vldB (a * W) (a * H) (a * W * (a * H)).toNat = true := vldB_iff.2 (by omega)
  have ea := enlR_ok (f := f) hv (show ¬ (a < 1 ∨ 4096 < a) by omega) hfa
  have eb := enlR_ok (f := enlF W a f) hva (show ¬ (b < 1 ∨ 4096 < b) by omega) (by rw [eW, eH]; exact hf)
  have ec := enlR_ok (f := f) hv (show ¬ (a * b < 1 ∨ 4096 < a * b) by omega) hf
  rw [ea, eb, ec]
  refine ⟨rfl, hva, rfl, rfl, eqP_of ⟨eW, eH, by simp only; rw [eW, eH], fun j hj => ?_⟩⟩
  simp only
  unfold enlF
  have hj' : j < (b * (a * W) * (b * (a * H))).toNat := hj
  generalize hY : (j : Int) / (b * (a * W)) = Y
  generalize hX : (j : Int) % (b * (a * W)) = X
  have bw : 0 < b * (a * W) := Int.mul_pos (by omega) w0
  have x0 : 0 ≤ X := by rw [← hX]; exact Int.emod_nonneg _ (by omega)
  have x1 : X < b * (a * W) := by rw [← hX]; exact Int.emod_lt_of_pos _ bw
  have y0 : 0 ≤ Y := by rw [← hY]; exact Int.ediv_nonneg (by omega) (by omega)
  have p := div_in b1 x0 x1
  have m0 : 0 ≤ Y / b * (a * W) := Int.mul_nonneg (Int.ediv_nonneg y0 (by omega)) (by omega)
  have q := dm (k := (((Y / b * (a * W) + X / b).toNat : Nat) : Int)) (y := Y / b) (x := X / b) (B := a * W) (by omega) p.1 p.2.1
  rw [q.1, q.2, ← eW, hY, hX, Int.mul_comm a b, Int.ediv_ediv_of_nonneg (by omega), Int.ediv_ediv_of_nonneg (by omega)]
theorem enl_prod {n : Nat} {a b : Int} (a1 : 1 ≤ a) (a2 : a ≤ 8) (b1 : 1 ≤ b) (b2 : b ≤ 8) (hn : (n : Int) ≤ 40000) :
    (0 ≤ (n : Int) * a ∧ (n : Int) * a ≤ 320000) ∧ (0 ≤ (n : Int) * a * a ∧ (n : Int) * a * a ≤ 2560000) ∧ (0 ≤ (n : Int) * a * a * b ∧ (n : Int) * a * a * b ≤ 20480000) ∧ (0 ≤ (n : Int) * a * a * b * b ∧ (n : Int) * a * a * b * b ≤ 163840000) := by
  have s : ∀ {z c M : Int}, 0 ≤ z → z ≤ M → 1 ≤ c → c ≤ 8 → 0 ≤ z * c ∧ z * c ≤ M * 8 := fun z0 z1 c0 c1 => ⟨Int.mul_nonneg z0 (by omega), Int.mul_le_mul z1 c1 (by omega) (by omega)⟩
  have h1 := s (show 0 ≤ (n : Int) by omega) hn a1 a2
  have h2 := s h1.1 h1.2 a1 a2
  have h3 := s h2.1 h2.2 b1 b2
  have h4 := s h3.1 h3.2 b1 b2
  omega
theorem bx_bd {W H : Int} {n : Nat} {f : Nat → Bool} : (0 ≤ bxX (dotsV W H n f) ∧ bxX (dotsV W H n f) ≤ 4097) ∧ (0 ≤ bxY (dotsV W H n f) ∧ bxY (dotsV W H n f) ≤ 4097) ∧ (-8192 ≤ bxW (dotsV W H n f) ∧ bxW (dotsV W H n f) ≤ 8192) ∧ (-8192 ≤ bxH (dotsV W H n f) ∧ bxH (dotsV W H n f) ≤ 8192) := by
  obtain ⟨b1, b2, b3, b4, b5, b6, b7, b8⟩ := inBox_dotsV (f := f) (W := W) (H := H) (n := n)
  unfold bxX bxY bxW bxH
  refine ⟨?_, ?_, ?_, ?_⟩ <;> split <;> omega
theorem mul_eight {a z : Int} (a1 : 1 ≤ a) (a2 : a ≤ 8) (z0 : -8192 ≤ z) (z1 : z ≤ 8192) : -65536 ≤ a * z ∧ a * z ≤ 65536 := by
  have e1 := Int.mul_le_mul_of_nonneg_left z1 (show 0 ≤ a by omega)
  have e2 := Int.mul_le_mul_of_nonneg_left z0 (show 0 ≤ a by omega)
  omega
end Go.Bs
