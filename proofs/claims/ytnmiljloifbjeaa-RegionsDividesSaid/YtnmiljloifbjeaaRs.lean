/-
  Plain laws of smoothing: light runs between dark pixels of a row. No program is named here.
-/
import Derived.Test.YtnmiljloifbjeaaRo
namespace Go.Bs
open Go.RowKit Go.Eng

/-- dark, or between two dark pixels of its row before column x with at most gap pixels between them -/
def smQ (f : Nat → Bool) (W gap x : Int) (j : Nat) : Bool := f j || (List.range W.toNat).any fun a => (List.range W.toNat).any fun b =>
  decide ((b : Int) < x) && decide ((a : Int) < (j : Int) % W) && decide ((j : Int) % W < (b : Int)) && pxD W f (a : Int) ((j : Int) / W) && pxD W f (b : Int) ((j : Int) / W) && decide ((b : Int) - (a : Int) - 1 ≤ gap)
def smO (f : Nat → Bool) (W gap y x : Int) (j : Nat) : Bool := if (j : Int) / W < y then smQ f W gap W j else if (j : Int) / W = y then smQ f W gap x j else f j
def smI (f : Nat → Bool) (W gap y x last i : Int) (j : Nat) : Bool := smO f W gap y x j || (decide ((j : Int) / W = y) && decide (last < (j : Int) % W) && decide ((j : Int) % W < i))
def smR (m : Pm Bool) (gap : Int) : Pm Bool × Int := if m.vld = true then (if 0 ≤ gap ∧ gap ≤ 4096 then (⟨m.W, m.H, m.n, smQ m.f m.W gap m.W⟩, 0) else (noB, 3)) else (noB, 1)
/-- what lies between the last dark pixel and column x -/
def LastD (f : Nat → Bool) (W y x last : Int) : Prop := (last = -1 ∨ (0 ≤ last ∧ last < x ∧ pxD W f last y = true)) ∧ ∀ c, last < c → c < x → pxD W f c y = false
section
variable {f : Nat → Bool} {W H gap y x last i : Int} {n j : Nat}
theorem smR_ok (h : vldB W H n = true) (k : 0 ≤ gap ∧ gap ≤ 4096) : smR ⟨W, H, n, f⟩ gap = (⟨W, H, n, smQ f W gap W⟩, 0) := by simp [smR, Pm.vld, h, k]
theorem smR_range (h : vldB W H n = true) (k : ¬ (0 ≤ gap ∧ gap ≤ 4096)) : smR ⟨W, H, n, f⟩ gap = (noB, 3) := by simp [smR, Pm.vld, h, k]
theorem smR_no (h : vldB W H n = false) : smR ⟨W, H, n, f⟩ gap = (noB, 1) := by simp [smR, Pm.vld, h]
theorem smR_le {m : Pm Bool} : (smR m gap).1.n ≤ 4194304 := by
  unfold smR
  split
  · rename_i h
    split
    · exact (vld_pos h).2
    · exact Nat.zero_le _
  · exact Nat.zero_le _
/-- between two dark pixels -/
def Btw (f : Nat → Bool) (W gap x : Int) (c y : Int) : Prop := ∃ a b : Int, 0 ≤ a ∧ a < c ∧ c < b ∧ b < x ∧ b < W ∧ pxD W f a y = true ∧ pxD W f b y = true ∧ b - a - 1 ≤ gap
theorem smQ_iff : smQ f W gap x j = true ↔ f j = true ∨ Btw f W gap x ((j : Int) % W) ((j : Int) / W) := by
  unfold smQ Btw
  simp only [Bool.or_eq_true, List.any_eq_true, List.mem_range, Bool.and_eq_true, decide_eq_true_eq]
  constructor
  · rintro (h | ⟨a, ha, b, hb, ⟨⟨⟨⟨h1, h2⟩, h3⟩, h4⟩, h5⟩, h6⟩)
    · exact .inl h
    · exact .inr ⟨a, b, by omega, h2, h3, h1, by omega, h4, h5, h6⟩
  · rintro (h | ⟨a, b, h0, h2, h3, h1, hb, h4, h5, h6⟩)
    · exact .inl h
    · refine .inr ⟨a.toNat, by omega, b.toNat, by omega, ?_⟩
      rw [Int.toNat_of_nonneg h0, Int.toNat_of_nonneg (show 0 ≤ b by omega)]
      exact ⟨⟨⟨⟨⟨h1, h2⟩, h3⟩, h4⟩, h5⟩, h6⟩
theorem bool_ext {a b : Bool} (h : a = true ↔ b = true) : a = b := Bool.eq_iff_iff.2 h
theorem smQ_pre (h : x ≤ (j : Int) % W + 1) : smQ f W gap x j = f j := bool_ext (by
  rw [smQ_iff]
  exact ⟨fun k => k.elim id fun ⟨a, b, h0, h1, h2, h3, _⟩ => by omega, .inl⟩)
theorem sm_new (hW : 1 ≤ W) : smO f W gap 0 0 j = f j := by
  have h1 := Int.emod_nonneg (j : Int) (show W ≠ 0 by omega)
  have h2 := Int.ediv_nonneg (show 0 ≤ (j : Int) by omega) (show 0 ≤ W by omega)
  unfold smO
  rw [if_neg (by omega)]
  split
  · exact smQ_pre (by omega)
  · rfl
theorem sm_row (hW : 1 ≤ W) : smO f W gap y W j = smO f W gap (y + 1) 0 j := by
  have h1 := Int.emod_nonneg (j : Int) (show W ≠ 0 by omega)
  unfold smO
  by_cases c : (j : Int) / W < y
  · rw [if_pos c, if_pos (by omega)]
  · rw [if_neg c]
    by_cases d : (j : Int) / W = y
    · rw [if_pos d, if_pos (by omega)]
    · rw [if_neg d, if_neg (by omega)]
      split
      · exact (smQ_pre (by omega)).symm
      · rfl
theorem sm_end (h : (j : Int) / W < y) : smO f W gap y x j = smQ f W gap W j := if_pos h
theorem px_j : pxD W f ((j : Int) % W) ((j : Int) / W) = f j := by
  unfold pxD
  rw [Int.mul_comm, Int.mul_ediv_add_emod]
  rfl
theorem sm_light (h : pxD W f x y = false) : smO f W gap y (x + 1) j = smO f W gap y x j := by
  unfold smO
  split
  · rfl
  · split
    · rename_i d
      refine bool_ext ?_
      rw [smQ_iff, smQ_iff]
      refine or_congr Iff.rfl ⟨fun ⟨a, b, h0, h1, h2, h3, h4, h5, h6, h7⟩ => ?_, fun ⟨a, b, h0, h1, h2, h3, h4⟩ => ⟨a, b, h0, h1, h2, by omega, h4⟩⟩
      refine ⟨a, b, h0, h1, h2, ?_, h4, h5, h6, h7⟩
      have : b ≠ x := fun e => by rw [e, d, h] at h6; cases h6
      omega
    · rfl
theorem sm_at {q : Nat} (hx0 : 0 ≤ x) (hx : x < W) (hq : (q : Int) = y * W + x) : smO f W gap y x q = f q := by
  obtain ⟨e1, e2⟩ := dm hq hx0 hx
  unfold smO
  rw [e1, if_neg (by omega), if_pos rfl]
  exact smQ_pre (by omega)
theorem ld_new : LastD f W y 0 (-1) := ⟨.inl rfl, fun c h1 h2 => by omega⟩
theorem ld_light (h : LastD f W y x last) (hp : pxD W f x y = false) : LastD f W y (x + 1) last := by
  refine ⟨h.1.imp id fun ⟨a, b, c⟩ => ⟨a, by omega, c⟩, fun c h1 h2 => ?_⟩
  by_cases e : c = x
  · rw [e]; exact hp
  · exact h.2 c h1 (by omega)
theorem ld_dark (hx : 0 ≤ x) (hp : pxD W f x y = true) : LastD f W y (x + 1) x := ⟨.inr ⟨hx, by omega, hp⟩, fun c h1 h2 => by omega⟩
theorem ld_bd (h : LastD f W y x last) : -1 ≤ last ∧ (last = -1 ∨ last < x) := by
  rcases h.1 with e | ⟨a, b, _⟩
  · exact ⟨by omega, .inl e⟩
  · exact ⟨by omega, .inr b⟩
theorem sm_skip (hx : 0 ≤ x) (h : LastD f W y x last) (hg : ¬ (0 ≤ last ∧ x - last - 1 ≤ gap)) : smO f W gap y (x + 1) j = smO f W gap y x j := by
  unfold smO
  split
  · rfl
  · split
    · rename_i d
      refine bool_ext ?_
      rw [smQ_iff, smQ_iff]
      refine ⟨fun k => k.elim .inl fun ⟨a, b, h0, h1, h2, h3, h4, h5, h6, h7⟩ => ?_, fun k => k.imp id fun ⟨a, b, h0, h1, h2, h3, h4⟩ => ⟨a, b, h0, h1, h2, by omega, h4⟩⟩
      by_cases e : b = x
      · subst e
        rw [d] at h5 h6
        have hal : a ≤ last := Int.not_lt.1 fun c => by rw [h.2 a c (by omega)] at h5; cases h5
        have hl0 : 0 ≤ last := by omega
        exact absurd ⟨hl0, by omega⟩ hg
      · exact .inr ⟨a, b, h0, h1, h2, by omega, h4, h5, h6, h7⟩
    · rfl
theorem sm_fill (hx : 0 ≤ x) (hxW : x < W) (h : LastD f W y x last) (hp : pxD W f x y = true) (hl : 0 ≤ last) (hg : x - last - 1 ≤ gap) : smO f W gap y (x + 1) j = smI f W gap y x last x j := by
  have hl2 : last < x ∧ pxD W f last y = true := by
    rcases h.1 with e | ⟨_, b, c⟩
    · omega
    · exact ⟨b, c⟩
  unfold smI smO
  by_cases c1 : (j : Int) / W < y
  · rw [if_pos c1, if_pos c1, show decide ((j : Int) / W = y) = false from decide_eq_false (by omega)]
    simp
  · rw [if_neg c1, if_neg c1]
    by_cases d : (j : Int) / W = y
    · rw [if_pos d, if_pos d]
      refine bool_ext ?_
      rw [Bool.or_eq_true, smQ_iff, smQ_iff, Bool.and_eq_true, Bool.and_eq_true, decide_eq_true_eq, decide_eq_true_eq, decide_eq_true_eq]
      constructor
      · rintro (k | ⟨a, b, h0, h1, h2, h3, h4, h5, h6, h7⟩)
        · exact .inl (.inl k)
        · by_cases e : b = x
          · subst e
            rw [d] at h5 h6
            have hal : a ≤ last := Int.not_lt.1 fun c => by rw [h.2 a c (by omega)] at h5; cases h5
            by_cases c2 : last < (j : Int) % W
            · exact .inr ⟨⟨d, c2⟩, h2⟩
            · by_cases c3 : (j : Int) % W = last
              · have pj := px_j (f := f) (W := W) (j := j)
                rw [c3, d, hl2.2] at pj
                exact .inl (.inl pj.symm)
              · exact .inl (.inr ⟨a, last, h0, h1, by omega, by omega, by omega, by rw [d]; exact h5, by rw [d]; exact hl2.2, by omega⟩)
          · exact .inl (.inr ⟨a, b, h0, h1, h2, by omega, h4, h5, h6, h7⟩)
      · rintro ((k | ⟨a, b, h0, h1, h2, h3, h4⟩) | ⟨⟨_, k1⟩, k2⟩)
        · exact .inl k
        · exact .inr ⟨a, b, h0, h1, h2, by omega, h4⟩
        · exact .inr ⟨last, x, hl, k1, k2, by omega, hxW, by rw [d]; exact hl2.2, by rw [d]; exact hp, hg⟩
    · rw [if_neg d, if_neg d, show decide ((j : Int) / W = y) = false from decide_eq_false d]
      simp
theorem si_new (hi : i = last + 1) : smI f W gap y x last i j = smO f W gap y x j := by
  unfold smI
  have : (decide ((j : Int) / W = y) && decide (last < (j : Int) % W) && decide ((j : Int) % W < i)) = false := by
    rw [Bool.and_assoc, show (decide (last < (j : Int) % W) && decide ((j : Int) % W < i)) = false from by
      rw [Bool.and_eq_false_iff, decide_eq_false_iff_not, decide_eq_false_iff_not]; omega]
    simp
  rw [this]
  simp
theorem si_step {f1 : Nat → Bool} {q : Nat} (hi : last < i) (hi0 : 0 ≤ i) (hiW : i < W) (hq : (q : Int) = y * W + i) (hI : ∀ j, j < n → f1 j = smI f W gap y x last i j) : ∀ j, j < n → upd f1 q true j = smI f W gap y x last (i + 1) j := by
  intro j hj
  obtain ⟨e1, e2⟩ := dm hq hi0 hiW
  by_cases e : j = q
  · subst e
    rw [upd_eq]
    unfold smI
    rw [e1, e2, show (decide (y = y) && decide (last < i) && decide (i < i + 1)) = true from by simp; omega]
    simp
  · rw [upd_ne e, hI j hj]
    unfold smI
    have ne : ¬ ((j : Int) / W = y ∧ (j : Int) % W = i) := fun ⟨a, b⟩ => e (by
      have h1 := Int.mul_ediv_add_emod (j : Int) W
      rw [a, b, Int.mul_comm] at h1
      omega)
    congr 1
    refine bool_ext ?_
    rw [Bool.and_eq_true, Bool.and_eq_true, Bool.and_eq_true, Bool.and_eq_true, decide_eq_true_eq, decide_eq_true_eq, decide_eq_true_eq, decide_eq_true_eq]
    constructor
    · rintro ⟨⟨a, b⟩, c⟩
      exact ⟨⟨a, b⟩, by omega⟩
    · rintro ⟨⟨a, b⟩, c⟩
      refine ⟨⟨a, b⟩, ?_⟩
      have : (j : Int) % W ≠ i := fun d => ne ⟨a, d⟩
      omega
/-- a second smoothing changes nothing -/
theorem sm_twice (hW : 1 ≤ W) (j : Nat) : smQ (smQ f W gap W) W gap W j = smQ f W gap W j := by
  refine bool_ext ⟨fun k => ?_, fun k => smQ_iff.2 (.inl k)⟩
  rcases smQ_iff.1 k with k | ⟨a, b, h0, h1, h2, h3, h4, h5, h6, h7⟩
  · exact k
  · have hm := Int.emod_nonneg (j : Int) (show W ≠ 0 by omega)
    have hd := Int.ediv_nonneg (show 0 ≤ (j : Int) by omega) (show 0 ≤ W by omega)
    refine Classical.byContradiction fun nk => ?_
    have ix : ∀ c, 0 ≤ c → c < W → ((((j : Int) / W * W + c).toNat : Nat) : Int) / W = (j : Int) / W ∧ ((((j : Int) / W * W + c).toNat : Nat) : Int) % W = c := fun c c0 c1 =>
      dm (k := ((((j : Int) / W * W + c).toNat : Nat) : Int)) (y := (j : Int) / W) (x := c) (B := W) (by have := Int.mul_nonneg hd (show 0 ≤ W by omega); omega) c0 c1
    -- dark pixels of f on both sides
    have L : ∃ p, a ≤ p ∧ p < (j : Int) % W ∧ pxD W f p ((j : Int) / W) = true := by
      have q := ix a h0 (by omega)
      have h5' : smQ f W gap W ((j : Int) / W * W + a).toNat = true := h5
      rcases smQ_iff.1 h5' with s | ⟨p1, p2, s0, s1, s2, s3, s4, s5, s6, s7⟩
      · exact ⟨a, by omega, h1, s⟩
      · rw [q.1] at s5 s6
        rw [q.2] at s1 s2
        by_cases c : p2 < (j : Int) % W
        · exact ⟨p2, by omega, c, s6⟩
        · by_cases c2 : p2 = (j : Int) % W
          · rw [c2, px_j] at s6
            exact absurd (smQ_iff.2 (.inl s6)) nk
          · exact absurd (smQ_iff.2 (.inr ⟨p1, p2, s0, by omega, by omega, s3, s4, s5, s6, s7⟩)) nk
    have R : ∃ p, p ≤ b ∧ (j : Int) % W < p ∧ pxD W f p ((j : Int) / W) = true := by
      have q := ix b (by omega) h4
      have h6' : smQ f W gap W ((j : Int) / W * W + b).toNat = true := h6
      rcases smQ_iff.1 h6' with s | ⟨p1, p2, s0, s1, s2, s3, s4, s5, s6, s7⟩
      · exact ⟨b, by omega, h2, s⟩
      · rw [q.1] at s5 s6
        rw [q.2] at s1 s2
        by_cases c : (j : Int) % W < p1
        · exact ⟨p1, by omega, c, s5⟩
        · by_cases c2 : p1 = (j : Int) % W
          · rw [c2, px_j] at s5
            exact absurd (smQ_iff.2 (.inl s5)) nk
          · exact absurd (smQ_iff.2 (.inr ⟨p1, p2, s0, by omega, by omega, s3, s4, s5, s6, s7⟩)) nk
    obtain ⟨p, p1, p2, p3⟩ := L
    obtain ⟨q, q1, q2, q3⟩ := R
    exact nk (smQ_iff.2 (.inr ⟨p, q, by omega, p2, q2, by omega, by omega, p3, q3, by omega⟩))
theorem sm_keep (h : f j = true) : smQ f W gap x j = true := smQ_iff.2 (.inl h)
theorem sm_zero : smQ f W 0 x j = f j := bool_ext (by
  rw [smQ_iff]
  exact ⟨fun k => k.elim id fun ⟨a, b, h0, h1, h2, h3, h4, h5, h6, h7⟩ => by omega, .inl⟩)
end

/-! ### for the walks -/
theorem mul_le2 {a b A B : Int} (a0 : 0 ≤ a) (a1 : a ≤ A) (b0 : 0 ≤ b) (b1 : b ≤ B) : 0 ≤ a * b ∧ a * b ≤ A * B := ⟨Int.mul_nonneg a0 b0, Int.mul_le_mul a1 b1 b0 (by omega)⟩
def eqS {α : Type} [DecidableEq α] (n : Nat) (f : Nat → α) (n1 : Nat) (f1 : Nat → α) : Bool := decide (n = n1 ∧ ∀ i, i < n → f i = f1 i)
section
variable {α : Type} [DecidableEq α] {n n1 : Nat} {f f1 : Nat → α}
theorem eqS_len (h : n ≠ n1) : eqS n f n1 f1 = false := decide_eq_false fun e => h e.1
theorem eqS_at {i : Nat} (hi : i < n) (h : f i ≠ f1 i) : eqS n f n1 f1 = false := decide_eq_false fun e => h (e.2 i hi)
theorem eqS_yes (h : n = n1) (h2 : ∀ i, i < n → f i = f1 i) : eqS n f n1 f1 = true := decide_eq_true ⟨h, h2⟩
theorem eqM_S {W H W1 H1 : Int} : ((decide (W = W1) && decide (H = H1)) && eqS n f n1 f1) = eqM W H n f W1 H1 n1 f1 := by
  rw [Bool.eq_iff_iff]
  simp [eqM, eqT, eqS, and_assoc]
theorem eqS_rf : eqS n f n f = true := eqS_yes rfl fun _ _ => rfl
end
/-- a box of at least one pixel inside of a bitmap -/
def insB (W H X Y w h : Int) : Bool := decide (0 ≤ X ∧ 0 ≤ Y ∧ 1 ≤ w ∧ 1 ≤ h ∧ X + w ≤ W ∧ Y + h ≤ H)
theorem insB_iff {W H X Y w h : Int} : insB W H X Y w h = true ↔ (0 ≤ X ∧ 0 ≤ Y ∧ 1 ≤ w ∧ 1 ≤ h ∧ X + w ≤ W ∧ Y + h ≤ H) := decide_eq_true_iff
theorem insB_in {W H X Y w h : Int} (k : insB W H X Y w h = true) : BIn W H ⟨X, Y, w, h⟩ := by
  obtain ⟨a, b, c, d, e, g⟩ := insB_iff.1 k
  exact ⟨a, b, by show 0 ≤ w; omega, by show 0 ≤ h; omega, e, g⟩

theorem bin_mk {X Y w h W H : Int} (h1 : 0 ≤ X) (h2 : 0 ≤ Y) (h3 : 0 ≤ w) (h4 : 0 ≤ h) (h5 : X + w ≤ W) (h6 : Y + h ≤ H) : BIn W H ⟨X, Y, w, h⟩ := ⟨h1, h2, h3, h4, h5, h6⟩
theorem bin_nums {X Y w h W H : Int} (k : BIn W H ⟨X, Y, w, h⟩) : 0 ≤ X ∧ 0 ≤ Y ∧ 0 ≤ w ∧ 0 ≤ h ∧ X + w ≤ W ∧ Y + h ≤ H := ⟨k.x0, k.y0, k.w0, k.h0, k.xw, k.yh⟩
theorem ln_in {X Y w h W H k : Int} {v : Bool} (b : BIn W H ⟨X, Y, w, h⟩) (hk : (if v = true then X else Y) ≤ k ∧ k < (if v = true then X + w else Y + h)) : BIn W H (lnB ⟨X, Y, w, h⟩ v k) := by
  cases v
  · exact lnR_in b hk.1 hk.2
  · exact lnC_in b hk.1 hk.2
theorem hk_t {X Y k p q : Int} (h : X ≤ k ∧ k < p) : (if true = true then X else Y) ≤ k ∧ k < (if true = true then p else q) := h
theorem hk_f {X Y k p q : Int} (h : Y ≤ k ∧ k < q) : (if false = true then X else Y) ≤ k ∧ k < (if false = true then p else q) := h
/-- the gaps of a box -/
def gpV (f : Nat → Bool) (W : Int) (b : Bx) (v : Bool) : List (Int × Int) := gpL (emL f W b v) (if v = true then b.X else b.Y) (if v = true then b.W else b.H).toNat
theorem gpV_len {f : Nat → Bool} {W H : Int} {b : Bx} {v : Bool} (h : BIn W H b) (w2 : W ≤ 4096) (h2 : H ≤ 4096) : (gpV f W b v).length ≤ 4096 := by
  obtain ⟨a1, a2, a3, a4, a5, a6⟩ := h
  refine Nat.le_trans gp_len ?_
  cases v
  · show b.H.toNat ≤ 4096; omega
  · show b.W.toNat ≤ 4096; omega
/-- the table of the numbers of dark pixels -/
def RC (W H : Int) (f : Nat → Bool) (v : Value) (S : List Blk) : Prop := ∃ A c, v = .agg #[.int .i64 (W + 1), .slice A ((W + 1) * (H + 1)).toNat c] ∧ ((W + 1) * (H + 1)).toNat ≤ c ∧ Rds S A (tab ((W + 1) * (H + 1)).toNat (iv .i32 (sumG (bw f) W)))
theorem rc_own {W H : Int} {f : Nat → Bool} {w w1 : World} {Hb : List Blk} {g c n : Nat} {e : TypeId} {f1 : Nat → Int} {sp : List Value} (i : Nat) (hO : Ow [] w w1 Hb) (hi : Hb[i]? = some ⟨g, e, tab n (iv .i32 f1) ++ sp⟩) (hn : n = ((W + 1) * (H + 1)).toNat) (hf : ∀ j, j < n → f1 j = sumG (bw f) W j) (hc : n ≤ c) :
    ∃ v Hn, Ending.returned (.agg #[.int .i64 (W + 1), .slice (some ⟨g, 0, none⟩) n c]) = .returned v ∧ RC W H f v Hn ∧ Ow [] w w1 Hn := by
  subst hn
  refine ⟨_, [⟨g, e, tab ((W + 1) * (H + 1)).toNat (iv .i32 f1) ++ sp⟩], rfl, ⟨_, c, rfl, hc, ?_⟩, hO.pick i hi⟩
  rw [← tabi_ext hf]
  exact rds_own
theorem gp_bd {e : Int → Bool} {a : Int} {i k : Nat} {f1 : Nat → Int} (hk : k = (gpL e a i).length) (hI : ∀ j, j < k * 2 → f1 j = ptG (gpL e a i) j) (h0 : 0 < k) : a ≤ f1 ((k - 1) * 2 + 0) ∧ 1 ≤ f1 ((k - 1) * 2 + 1) ∧ f1 ((k - 1) * 2 + 0) + f1 ((k - 1) * 2 + 1) ≤ a + i := by
  have h := gp_ok (e := e) (a := a) (n := i) _ (getD_mem (i := k - 1) (by omega))
  rw [hI _ (by omega), hI _ (by omega), ptG_x, ptG_y]
  exact ⟨h.1, h.2.1, h.2.2.1⟩
theorem gp_ext {e : Int → Bool} {a : Int} {i k q : Nat} {f1 : Nat → Int} (hk : k = (gpL e a i).length) (hI : ∀ j, j < k * 2 → f1 j = ptG (gpL e a i) j) (he : e (a + i) = true) (h0 : 0 < k) (h1 : f1 ((k - 1) * 2) + f1 ((k - 1) * 2 + 1) = a + i) (hq : q = (k - 1) * 2 + 1) :
    k = (gpL e a (i + 1)).length ∧ ∀ j, j < k * 2 → upd f1 q (f1 q + 1) j = ptG (gpL e a (i + 1)) j := by
  have o2 : ((gpL e a i).getD ((gpL e a i).length - 1) (0, 0)).1 + ((gpL e a i).getD ((gpL e a i).length - 1) (0, 0)).2 = a + i := by
    rw [hI _ (by omega), hI _ (by omega), hk] at h1
    rw [← ptG_x, ← ptG_y]
    exact h1
  obtain ⟨m1, m2⟩ := gp_more he (by omega) o2
  refine ⟨by omega, fun j hj => ?_⟩
  rw [m2 j (by omega)]
  by_cases c : j = q
  · subst c
    rw [upd_eq, if_pos (by omega), hI _ (by omega)]
  · rw [upd_ne c, if_neg (by omega), hI _ hj]
theorem gp_app {e : Int → Bool} {a : Int} {i k : Nat} {f1 : Nat → Int} (hk : k = (gpL e a i).length) (hI : ∀ j, j < k * 2 → f1 j = ptG (gpL e a i) j) (he : e (a + i) = true) (hn : ¬ (0 < k ∧ f1 ((k - 1) * 2) + f1 ((k - 1) * 2 + 1) = a + i)) :
    k + 1 = (gpL e a (i + 1)).length ∧ (∀ j, j < k * 2 → f1 j = ptG (gpL e a (i + 1)) j) ∧ ∀ j, j < 2 → [a + i, 1].getD j 0 = ptG (gpL e a (i + 1)) (k * 2 + j) := by
  have n2 : ¬ (0 < (gpL e a i).length ∧ ((gpL e a i).getD ((gpL e a i).length - 1) (0, 0)).1 + ((gpL e a i).getD ((gpL e a i).length - 1) (0, 0)).2 = a + i) := fun ⟨c1, c2⟩ => hn ⟨by omega, by
    rw [hI _ (by omega), hI _ (by omega), hk]
    rw [← ptG_x, ← ptG_y] at c2
    exact c2⟩
  rw [gp_new he n2]
  refine ⟨by simp [hk], fun j hj => ?_, fun j hj => ?_⟩
  · rw [hI j hj]; exact ptG_pre j (by omega)
  · rw [hk]; exact ptG_new (p := (a + i, 1)) j hj
/-- is the last gap still open? -/
theorem gp_op {e : Int → Bool} {a : Int} {i k : Nat} {f1 : Nat → Int} (hk : k = (gpL e a i).length) (hI : ∀ j, j < k * 2 → f1 j = ptG (gpL e a i) j) : (0 < k ∧ f1 ((k - 1) * 2) + f1 ((k - 1) * 2 + 1) = a + i) ↔ (1 ≤ i ∧ e (a + i - 1) = true) := by
  rw [← gp_open, ← ptG_x, ← ptG_y, ← hk]
  refine and_congr_right fun h => ?_
  rw [hI _ (by omega), hI _ (by omega)]
  rfl
theorem wid_yes {least : Int} {l : List (Int × Int)} {i : Nat} (hi : i < l.length) (c : least ≤ ptG l (i * 2 + 1) ∧ (widL least (l.take i)).2 < ptG l (i * 2 + 1)) : widL least (l.take (i + 1)) = (ptG l (i * 2 + 0), ptG l (i * 2 + 1)) := by
  rw [ptG_x, ptG_y] at *
  rw [take_snoc hi, wid_snoc, if_pos c]
theorem wid_no {least : Int} {l : List (Int × Int)} {i : Nat} (hi : i < l.length) (c : ¬ (least ≤ ptG l (i * 2 + 1) ∧ (widL least (l.take i)).2 < ptG l (i * 2 + 1))) : widL least (l.take (i + 1)) = widL least (l.take i) := by
  rw [ptG_y] at c
  rw [take_snoc hi, wid_snoc, if_neg c]
theorem wid_end {least : Int} {l : List (Int × Int)} {i : Nat} (hi : i = l.length) : widL least (l.take i) = widL least l := by rw [hi, List.take_length]
/-- the kind of a region -/
def clsI (f : Nat → Bool) (W : Int) (b : Bx) : Int :=
  if max b.W b.H ≤ 4 ∨ bxS f W b = 0 then 5
  else if bxS f W b = b.W * b.H ∧ 8 * min b.W b.H ≤ max b.W b.H then 4
  else if 8 ≤ min b.W b.H ∧ bxS f W ⟨b.X, b.Y, b.W, 1⟩ = b.W ∧ bxS f W ⟨b.X, b.Y + b.H - 1, b.W, 1⟩ = b.W ∧ bxS f W ⟨b.X, b.Y, 1, b.H⟩ = b.H ∧ bxS f W ⟨b.X + b.W - 1, b.Y, 1, b.H⟩ = b.H then 2
  else if 21 ≤ min b.W b.H ∧ 4 * max b.W b.H ≤ 5 * min b.W b.H ∧ 3 * (b.W * b.H) ≤ 10 * bxS f W b ∧ 10 * bxS f W b ≤ 7 * (b.W * b.H) then 3 else 1
def clsR (m : Pm Bool) (b : Bx) : Int × Int := if m.vld = true then (if insB m.W m.H b.X b.Y b.W b.H = true then (clsI m.f m.W b, 0) else (0, 3)) else (0, 1)
def gapR (m : Pm Bool) (b : Bx) (v : Bool) : List (Int × Int) × Int := if m.vld = true then (if insB m.W m.H b.X b.Y b.W b.H = true then (gpV m.f m.W b v, 0) else ([], 3)) else ([], 1)
section
variable {W H : Int} {n : Nat} {f : Nat → Bool} {b : Bx} {v : Bool}
theorem clsR_ok (h : vldB W H n = true) (k : insB W H b.X b.Y b.W b.H = true) : clsR ⟨W, H, n, f⟩ b = (clsI f W b, 0) := by simp [clsR, Pm.vld, h, k]
theorem clsR_range (h : vldB W H n = true) (k : insB W H b.X b.Y b.W b.H = false) : clsR ⟨W, H, n, f⟩ b = (0, 3) := by simp [clsR, Pm.vld, h, k]
theorem clsR_no (h : vldB W H n = false) : clsR ⟨W, H, n, f⟩ b = (0, 1) := by simp [clsR, Pm.vld, h]
theorem gapR_ok (h : vldB W H n = true) (k : insB W H b.X b.Y b.W b.H = true) : gapR ⟨W, H, n, f⟩ b v = (gpV f W b v, 0) := by simp [gapR, Pm.vld, h, k]
theorem gapR_range (h : vldB W H n = true) (k : insB W H b.X b.Y b.W b.H = false) : gapR ⟨W, H, n, f⟩ b v = ([], 3) := by simp [gapR, Pm.vld, h, k]
theorem gapR_no (h : vldB W H n = false) : gapR ⟨W, H, n, f⟩ b v = ([], 1) := by simp [gapR, Pm.vld, h]
end
theorem ret_ipair {a b c d : Int} (h1 : a = c) (h2 : b = d) : Ending.returned (.tuple #[.int .i64 a, .int .i64 b]) = .returned (.tuple #[.int .i64 c, .int .i64 d]) := by rw [h1, h2]
theorem ret_agg2 {a b : Int} {p : Int × Int} (h : (a, b) = p) : Ending.returned (.agg #[.int .i64 a, .int .i64 b]) = .returned (.agg #[.int .i64 p.1, .int .i64 p.2]) := by rw [← h]
theorem ret_aggB {X Y w h : Int} {b : Bx} (e : ⟨X, Y, w, h⟩ = b) : Ending.returned (.agg #[.int .i64 X, .int .i64 Y, .int .i64 w, .int .i64 h]) = .returned (.agg #[.int .i64 b.X, .int .i64 b.Y, .int .i64 b.W, .int .i64 b.H]) := by rw [← e]
/-- the boxes of a bitmap -/
def divL (f : Nat → Bool) (W gx gy : Int) (k : Nat) (b : Bx) : List Bx := if bxS f W b = 0 then [] else (cutT f W gx gy k (redB f W b)).lvs
def gxy (gx gy : Int) : Bool := decide (1 ≤ gx ∧ gx ≤ 4096 ∧ 1 ≤ gy ∧ gy ≤ 4096)
theorem gxy_iff {gx gy : Int} : gxy gx gy = true ↔ (1 ≤ gx ∧ gx ≤ 4096 ∧ 1 ≤ gy ∧ gy ≤ 4096) := decide_eq_true_iff
def cutR (m : Pm Bool) (gx gy : Int) : List Bx × Int := if m.vld = true then (if gxy gx gy = true then (divL m.f m.W gx gy (m.W + m.H).toNat ⟨0, 0, m.W, m.H⟩, 0) else ([], 3)) else ([], 1)
section
variable {W H gx gy : Int} {n k : Nat} {f : Nat → Bool} {b : Bx}
theorem cutR_ok (h : vldB W H n = true) (q : gxy gx gy = true) : cutR ⟨W, H, n, f⟩ gx gy = (divL f W gx gy (W + H).toNat ⟨0, 0, W, H⟩, 0) := by simp [cutR, Pm.vld, h, q]
theorem cutR_range (h : vldB W H n = true) (q : gxy gx gy = false) : cutR ⟨W, H, n, f⟩ gx gy = ([], 3) := by simp [cutR, Pm.vld, h, q]
theorem cutR_no (h : vldB W H n = false) : cutR ⟨W, H, n, f⟩ gx gy = ([], 1) := by simp [cutR, Pm.vld, h]
theorem hasD_of (h : BIn W H b) (c : bxS f W b ≠ 0) : HasD f W b := by
  have := (bxS_bd (f := f) h).1
  exact (bxS_pos h).1 (by omega)
theorem hasD_no (h : BIn W H b) (d : HasD f W b) : bxS f W b ≠ 0 := by
  have := (bxS_pos h).2 d
  omega
theorem div_nil (c : bxS f W b = 0) : divL f W gx gy k b = [] := if_pos c
theorem div_some (c : bxS f W b ≠ 0) : divL f W gx gy k b = (cutT f W gx gy k (redB f W b)).lvs := if_neg c
/-- what the parts of a box are -/
structure Dv (f : Nat → Bool) (W H gx gy : Int) (b : Bx) (l : List Bx) : Prop where
  tg : ∀ t ∈ l, Tg f W H t
  lf : ∀ t ∈ l, isLf f W gx gy t
  all : ∀ x y, BHas b x y → pxD W f x y = true → ∃ t, t ∈ l ∧ BHas t x y
  apart : l.Pairwise fun s t => ∀ x y, BHas s x y → BHas t x y → False
  num : (l.length : Int) ≤ b.W * b.H
theorem dv_spec (h : BIn W H b) (hk : b.W + b.H ≤ k) : Dv f W H gx gy b (divL f W gx gy k b) := by
  have ar := Int.mul_nonneg h.w0 h.h0
  by_cases c : bxS f W b = 0
  · rw [div_nil c]
    refine ⟨by simp, by simp, fun x y a d => ?_, by simp, by simpa using ar⟩
    rw [(bxS_zero h).1 c x y a] at d
    cases d
  · rw [div_some c]
    have d := hasD_of h c
    have r := redB_spec h d
    have n1 := red_len h d
    have L := lv_spec (gx := gx) (gy := gy) k (tg_red h d) (by omega)
    have a1 := area_sub r.sub (by have := r.pos; omega) h.w0
    exact ⟨fun t ht => (L.tg t ht).1, L.lf, fun x y a e => L.all x y (r.all x y a e) e, L.apart, Int.le_trans L.num a1⟩
/-- one step of the division -/
theorem div_leaf (h : isLf f W gx gy b) : cutT f W gx gy (k + 1) b = .leaf b := if_pos h
theorem div_node (h : ¬ isLf f W gx gy b) : cutT f W gx gy (k + 1) b = .node b (cutT f W gx gy k (redB f W (spl1 f W gx gy b))) (cutT f W gx gy k (redB f W (spl2 f W gx gy b))) := if_neg h
theorem node_len {l r : BT} : (((BT.node b l r).lvs.length : Nat) : Int) = (l.lvs.length : Int) + (r.lvs.length : Int) := by
  show (((l.lvs ++ r.lvs).length : Nat) : Int) = _
  rw [List.length_append]
  push_cast
  rfl
/-- the facts for both parts -/
structure Sq (f : Nat → Bool) (W H gx gy : Int) (k : Nat) (b p q : Bx) : Prop where
  sp : Sp f W H b p q
  pt : Tg f W H (redB f W p)
  qt : Tg f W H (redB f W q)
  pk : (redB f W p).W + (redB f W p).H ≤ k
  qk : (redB f W q).W + (redB f W q).H ≤ k
  pn : ((cutT f W gx gy k (redB f W p)).lvs.length : Int) ≤ (redB f W p).W * (redB f W p).H
  qn : ((cutT f W gx gy k (redB f W q)).lvs.length : Int) ≤ (redB f W q).W * (redB f W q).H
  ar : 1 ≤ (redB f W p).W * (redB f W p).H ∧ 1 ≤ (redB f W q).W * (redB f W q).H ∧ (redB f W p).W * (redB f W p).H + (redB f W q).W * (redB f W q).H ≤ b.W * b.H
  cut : cutT f W gx gy (k + 1) b = .node b (cutT f W gx gy k (redB f W p)) (cutT f W gx gy k (redB f W q))
theorem sq_spec {p q : Bx} (h : Tg f W H b) (hl : ¬ isLf f W gx gy b) (hk : b.W + b.H ≤ (k : Int) + 1) (hp : spl1 f W gx gy b = p) (hq : spl2 f W gx gy b = q) : Sq f W H gx gy k b p q := by
  have sp := split_spec h hl
  have c := div_node (k := k) hl
  rw [hp, hq] at sp c
  have r1 := red_len sp.pin sp.pd
  have r2 := red_len sp.qin sp.qd
  have s1 := sp.pl
  have s2 := sp.ql
  exact ⟨sp, tg_red sp.pin sp.pd, tg_red sp.qin sp.qd, by omega, by omega, (lv_spec k (tg_red sp.pin sp.pd) (by omega)).num, (lv_spec k (tg_red sp.qin sp.qd) (by omega)).num, sp.areas, c⟩
theorem sp1_co (h : isCo f W gx gy b) : spl1 f W gx gy b = ⟨b.X, b.Y, (wC f W gx b).1 - b.X, b.H⟩ := if_pos h
theorem sp1_ro (h : ¬ isCo f W gx gy b) : spl1 f W gx gy b = ⟨b.X, b.Y, b.W, (wR f W gy b).1 - b.Y⟩ := if_neg h
theorem sp2_co (h : isCo f W gx gy b) : spl2 f W gx gy b = ⟨(wC f W gx b).1 + (wC f W gx b).2, b.Y, b.X + b.W - ((wC f W gx b).1 + (wC f W gx b).2), b.H⟩ := if_pos h
theorem sp2_ro (h : ¬ isCo f W gx gy b) : spl2 f W gx gy b = ⟨b.X, (wR f W gy b).1 + (wR f W gy b).2, b.W, b.Y + b.H - ((wR f W gy b).1 + (wR f W gy b).2)⟩ := if_neg h
/-- where a widest gap lies -/
theorem wC_bd (h : BIn W H b) : 0 ≤ (wC f W gx b).2 ∧ (wC f W gx b).2 ≤ W ∧ 0 ≤ (wC f W gx b).1 ∧ (wC f W gx b).1 ≤ W := by
  obtain ⟨i1, i2, i3, i4, i5, i6⟩ := h
  have s := wid_spec (least := gx) (l := gpC f W b) gp_pos
  change 0 ≤ (wC f W gx b).2 ∧ ((wC f W gx b).2 ≠ 0 → wC f W gx b ∈ gpC f W b ∧ gx ≤ (wC f W gx b).2) ∧ ((wC f W gx b).2 = 0 → wC f W gx b = (0, 0) ∧ _) at s
  by_cases c : (wC f W gx b).2 = 0
  · rw [(s.2.2 c).1]
    exact ⟨Int.le_refl _, by show 0 ≤ W; omega, Int.le_refl _, by show 0 ≤ W; omega⟩
  · obtain ⟨g1, g2, g3, _⟩ := gp_ok _ (s.2.1 c).1
    omega
theorem wR_bd (h : BIn W H b) : 0 ≤ (wR f W gy b).2 ∧ (wR f W gy b).2 ≤ H ∧ 0 ≤ (wR f W gy b).1 ∧ (wR f W gy b).1 ≤ H := by
  obtain ⟨i1, i2, i3, i4, i5, i6⟩ := h
  have s := wid_spec (least := gy) (l := gpR f W b) gp_pos
  change 0 ≤ (wR f W gy b).2 ∧ ((wR f W gy b).2 ≠ 0 → wR f W gy b ∈ gpR f W b ∧ gy ≤ (wR f W gy b).2) ∧ ((wR f W gy b).2 = 0 → wR f W gy b = (0, 0) ∧ _) at s
  by_cases c : (wR f W gy b).2 = 0
  · rw [(s.2.2 c).1]
    exact ⟨Int.le_refl _, by show 0 ≤ H; omega, Int.le_refl _, by show 0 ≤ H; omega⟩
  · obtain ⟨g1, g2, g3, _⟩ := gp_ok _ (s.2.1 c).1
    omega
end
end Go.Bs
