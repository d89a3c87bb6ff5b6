/-
  Correcting a skew, and trimming, in plain Lean. No program is named here.
-/
import Derived.Test.YtmgkpdpmjhgekaaSl
import Derived.Test.YtmgkpdpmjhgekaaBo
namespace Go.Bs
open Go.RowKit Go.Eng

/-! ### sums of squares -/
theorem sum_hit {c : Int} : ∀ {N : Nat}, 0 ≤ c → c < N → sumN (fun y : Nat => if c = (y : Int) then (1 : Int) else 0) N = 1
  | 0, _, h => by omega
  | N + 1, h0, h1 => by
    show sumN _ N + (if c = (N : Int) then (1 : Int) else 0) = 1
    by_cases e : c = (N : Int)
    · rw [if_pos e, (sum_one (c := c) (N := N)).2.1 (by omega)]; omega
    · rw [if_neg e, sum_hit h0 (by omega)]; omega
theorem hist_total {p : Nat → Bool} {key : Nat → Int} {N : Nat} : ∀ {n : Nat}, (∀ j, j < n → p j = true → 0 ≤ key j ∧ key j < N) → sumN (fun y => histN p key n y) N = sumN (fun j => if p j = true then 1 else 0) n
  | 0, _ => by
    have : ∀ N : Nat, sumN (fun y : Nat => histN p key 0 (y : Int)) N = 0 := fun N => by
      induction N with
      | zero => rfl
      | succ N ih => show sumN _ N + 0 = 0; rw [ih]; rfl
    exact this N
  | n + 1, h => by
    have ih := hist_total (p := p) (key := key) (N := N) (n := n) (fun j hj => h j (by omega))
    show _ = sumN _ n + (if p n = true then (1 : Int) else 0)
    rw [← ih]
    cases hp : p n with
    | false =>
      rw [if_neg (by decide)]
      rw [show (fun y : Nat => histN p key (n + 1) (y : Int)) = fun y : Nat => histN p key n (y : Int) from funext fun y => hist_no hp]
      omega
    | true =>
      obtain ⟨k0, k1⟩ := h n (by omega) hp
      rw [if_pos rfl, ← sum_hit k0 k1, sumN_add]
      exact sumN_congr fun y _ => hist_yes hp
theorem sq_all {h : Nat → Int} {B : Int} : ∀ {N : Nat}, (∀ y, y < N → h y = 0 ∨ h y = B) → sumN (fun y => h y * h y) N = B * sumN h N
  | 0, _ => by simp [sumN]
  | N + 1, hb => by
    have ih := sq_all (N := N) (fun y hy => hb y (by omega))
    show sumN _ N + h N * h N = B * (sumN h N + h N)
    rw [Int.mul_add, ih]
    rcases hb N (by omega) with e | e <;> rw [e] <;> simp
theorem sq_eq {h : Nat → Int} {B : Int} (hB : 0 ≤ B) : ∀ {N : Nat}, (∀ y, y < N → 0 ≤ h y ∧ h y ≤ B) → B * sumN h N ≤ sumN (fun y => h y * h y) N → ∀ y, y < N → h y = 0 ∨ h y = B
  | 0, _, _ => fun y hy => by omega
  | N + 1, hb, he => by
    have h1 := (sq_sum hB (N := N) (fun y hy => hb y (by omega))).2.1
    obtain ⟨a, b⟩ := hb N (by omega)
    have c : h N * h N ≤ B * h N := Int.mul_le_mul_of_nonneg_right b a
    have he' : B * (sumN h N + h N) ≤ sumN (fun y => h y * h y) N + h N * h N := he
    rw [Int.mul_add] at he'
    have ih := sq_eq hB (N := N) (fun y hy => hb y (by omega)) (by omega)
    intro y hy
    by_cases e : y = N
    · subst e
      have z : (B - h y) * h y = 0 := by rw [Int.sub_mul]; omega
      rcases Int.mul_eq_zero.1 z with z | z
      · right; omega
      · left; exact z
    · exact ih y (by omega)
/-! ### rows that are full or empty -/
theorem row_const {W H : Int} {n : Nat} {g : Nat → Bool} {y : Nat} (hv : vldB W H n = true) (hy : (y : Int) < H) (h : histN g (fun j => (j : Int) / W) n y = 0 ∨ histN g (fun j => (j : Int) / W) n y = W) {x : Nat} (hx : (x : Int) < W) :
    g ((y : Int) * W + (x : Int)).toNat = g ((y : Int) * W + ((0 : Nat) : Int)).toNat := by
  obtain ⟨v1, v2, v3, v4, v5, v6⟩ := vldB_iff.1 hv
  rw [prof_row hv hy] at h
  have z0 : sumN (fun k => bw g ((y : Int) * W + (k : Int)).toNat) 0 = 0 := rfl
  rcases h with h | h
  · have np : ¬ ∃ k, 0 ≤ k ∧ k < W.toNat ∧ 0 < bw g ((y : Int) * W + (k : Int)).toNat := fun hk => by
      have := (sumN_pos (h := fun k => bw g ((y : Int) * W + (k : Int)).toNat) (L := 0) (R := W.toNat) (by omega) (fun k _ _ => bw_bd.1)).2 hk
      rw [z0] at this
      unfold rowS at h
      omega
    have q : ∀ k : Nat, (k : Int) < W → g ((y : Int) * W + (k : Int)).toNat = false := fun k hk => by
      cases hg : g ((y : Int) * W + (k : Int)).toNat with
      | false => rfl
      | true => exact absurd ⟨k, by omega, by omega, bw_pos.2 hg⟩ np
    rw [q x hx, q 0 (by omega)]
  · have ha := (sumN_full (h := fun k => bw g ((y : Int) * W + (k : Int)).toNat) (c := 1) (L := 0) (R := W.toNat) (by omega) (fun k _ _ => bw_bd.2)).1 (by
      rw [z0]; unfold rowS at h; omega)
    rw [bw_one.1 (ha x (by omega) (by omega)), bw_one.1 (ha 0 (by omega) (by omega))]
theorem const_row {W H : Int} {n : Nat} {g : Nat → Bool} {y : Nat} {b : Bool} (hv : vldB W H n = true) (hy : (y : Int) < H) (h : ∀ x : Nat, (x : Int) < W → g ((y : Int) * W + (x : Int)).toNat = b) :
    histN g (fun j => (j : Int) / W) n y = 0 ∨ histN g (fun j => (j : Int) / W) n y = W := by
  obtain ⟨v1, v2, v3, v4, v5, v6⟩ := vldB_iff.1 hv
  rw [prof_row hv hy]
  have z0 : sumN (fun k => bw g ((y : Int) * W + (k : Int)).toNat) 0 = 0 := rfl
  cases b with
  | true =>
    right
    have := (sumN_full (h := fun k => bw g ((y : Int) * W + (k : Int)).toNat) (c := 1) (L := 0) (R := W.toNat) (by omega) (fun k _ _ => bw_bd.2)).2 (fun k _ hk => bw_one.2 (h k (by omega)))
    rw [z0] at this
    unfold rowS
    omega
  | false =>
    left
    unfold rowS
    rw [sumN_congr (h' := fun _ => 0) (fun k hk => bw_f (h k (by omega)))]
    have : ∀ N : Nat, sumN (fun _ => (0 : Int)) N = 0 := fun N => by
      induction N with
      | zero => rfl
      | succ N ih => show sumN _ N + 0 = 0; rw [ih]; rfl
    exact this _
/-- a pixel of a shear -/
theorem shear_px {W H num den : Int} {n : Nat} {f : Nat → Bool} (hv : vldB W H n = true) {x Y : Int} (hx0 : 0 ≤ x) (hx : x < W) (hY : 0 ≤ Y) :
    shP W num den f n (Y * W + x).toNat = (decide (0 ≤ Y - shI W num den x ∧ Y - shI W num den x < H) && f ((Y - shI W num den x) * W + x).toNat) := by
  obtain ⟨v1, v2, v3, v4, v5, v6⟩ := vldB_iff.1 hv
  have p0 : 0 ≤ Y * W := Int.mul_nonneg hY (by omega)
  have q := dm (k := (((Y * W + x).toNat : Nat) : Int)) (y := Y) (x := x) (B := W) (by omega) hx0 hx
  have e : srcI W num den (Y * W + x).toNat = (Y - shI W num den x) * W + x := by unfold srcI; rw [q.1, q.2]
  unfold shP
  rw [e]
  generalize Y - shI W num den x = z
  congr 1
  refine decide_eq_decide.2 ⟨fun ⟨a, b⟩ => ?_, fun ⟨a, b⟩ => ?_⟩
  · constructor
    · refine Decidable.byContradiction fun c => ?_
      have := Int.mul_le_mul_of_nonneg_right (show z ≤ -1 by omega) (show 0 ≤ W by omega)
      omega
    · refine Decidable.byContradiction fun c => ?_
      have := Int.mul_le_mul_of_nonneg_right (show H ≤ z by omega) (show 0 ≤ W by omega)
      rw [Int.mul_comm H W] at this
      omega
  · have := idx_bd (W := W) (H := H) (x := x) (y := z) hx0 hx a b
    omega
/-- rows, and nothing above and below -/
def inR (R : Nat) (ρ : Nat → Bool) (z : Int) : Bool := (decide (0 ≤ z) && decide (z < (R : Int))) && ρ z.toNat
theorem inR_in {R : Nat} {ρ : Nat → Bool} {z : Int} (h : inR R ρ z = true) : 0 ≤ z ∧ z < R := by
  unfold inR at h
  simp only [Bool.and_eq_true, decide_eq_true_eq] at h
  exact h.1
theorem inR_no {R : Nat} {ρ : Nat → Bool} {z : Int} (h : ¬ (0 ≤ z ∧ z < R)) : inR R ρ z = false := by
  cases e : inR R ρ z with
  | false => rfl
  | true => exact absurd (inR_in e) h
theorem inR_at {R : Nat} {ρ : Nat → Bool} {z : Int} (h0 : 0 ≤ z) (h1 : z < R) : inR R ρ z = ρ z.toNat := by unfold inR; simp [h0, h1]
def origF (W : Int) (ρ : Nat → Bool) (j : Nat) : Bool := ρ ((j : Int) / W).toNat
def movF (W : Int) (R : Nat) (mx num den : Int) (ρ : Nat → Bool) (j : Nat) : Bool := inR R ρ ((j : Int) / W - mx + shI W num den ((j : Int) % W))
theorem sh_small {W num d x : Int} (w2 : W ≤ 40) (n1 : -12 ≤ num) (n2 : num ≤ 12) (d1 : 1 ≤ d) (h0 : 0 ≤ x) (h1 : x < W) : 0 ≤ shI W num d x ∧ shI W num d x ≤ 936 := by
  have a1 := Int.mul_le_mul_of_nonneg_left n2 h0
  have a2 := Int.mul_le_mul_of_nonneg_left n1 h0
  have b1 := Int.mul_le_mul_of_nonneg_left n2 (show 0 ≤ W - 1 by omega)
  have b2 := Int.mul_le_mul_of_nonneg_left n1 (show 0 ≤ W - 1 by omega)
  have c := ediv_bd (a := x * num) (b := d) (A := 468) d1 (by omega) (by omega) (by omega)
  have e := ediv_bd (a := (W - 1) * num) (b := d) (A := 468) d1 (by omega) (by omega) (by omega)
  refine ⟨shI_nonneg d1 h0 h1, ?_⟩
  unfold shI
  omega
theorem shm_small {W num d : Int} (w1 : 1 ≤ W) (w2 : W ≤ 40) (n1 : -12 ≤ num) (n2 : num ≤ 12) (d1 : 1 ≤ d) : 0 ≤ shMax W num d ∧ shMax W num d ≤ 936 := by
  have a := sh_small (x := 0) w2 n1 n2 d1 (by omega) (by omega)
  have b := sh_small (x := W - 1) w2 n1 n2 d1 (by omega) (by omega)
  unfold shMax
  omega
theorem vld_small {W H : Int} (w1 : 1 ≤ W) (w2 : W ≤ 40) (h1 : 1 ≤ H) (h2 : H ≤ 4096) : vldB W H (W * H).toNat = true := by
  have a := Int.mul_le_mul w2 h2 (by omega) (by omega)
  have b : 0 ≤ W * H := Int.mul_nonneg (by omega) (by omega)
  exact vldB_iff.2 ⟨w1, by omega, h1, h2, by omega, by omega⟩
theorem vld_fit {W H : Int} {n : Nat} (h : vldB W H n = true) : fitsB W H = true := by
  simp only [vldB, Bool.and_eq_true] at h
  exact h.1
/-- the columns moved by b -/
theorem moved_px {W d num b : Int} {R : Nat} {ρ : Nat → Bool} (w1 : 1 ≤ W) (w2 : W ≤ 40) (r1 : 1 ≤ R) (r2 : R ≤ 30) (d1 : 1 ≤ d) (n1 : -12 ≤ num) (n2 : num ≤ 12) (b1 : -12 ≤ b) (b2 : b ≤ 12) {x Y : Int} (hx0 : 0 ≤ x) (hx : x < W) (hY : 0 ≤ Y) :
    shP W b d (movF W R (shMax W num d) num d ρ) (W * ((R : Int) + shMax W num d)).toNat (Y * W + x).toNat = inR R ρ (Y - shI W b d x - shMax W num d + shI W num d x) := by
  have m := shm_small w1 w2 n1 n2 d1
  have hv := vld_small (H := (R : Int) + shMax W num d) w1 w2 (by omega) (by omega)
  rw [shear_px hv hx0 hx hY]
  have s := sh_small (x := x) w2 n1 n2 d1 hx0 hx
  have sm := shI_le (W := W) (num := num) d1 hx0 hx
  by_cases c : 0 ≤ Y - shI W b d x ∧ Y - shI W b d x < (R : Int) + shMax W num d
  · rw [decide_eq_true c, Bool.true_and]
    have i := idx_bd (W := W) (H := (R : Int) + shMax W num d) hx0 hx c.1 c.2
    have q := dm (k := ((((Y - shI W b d x) * W + x).toNat : Nat) : Int)) (y := Y - shI W b d x) (x := x) (B := W) (by omega) hx0 hx
    unfold movF
    rw [q.1, q.2]
  · rw [decide_eq_false c, Bool.false_and, inR_no (by omega)]
/-- the rows of the result are full or empty -/
theorem desk_rows {W d num : Int} {R : Nat} {ρ : Nat → Bool} (w1 : 1 ≤ W) (w2 : W ≤ 40) (r1 : 1 ≤ R) (r2 : R ≤ 30) (d1 : 1 ≤ d) (d2 : d ≤ 40) (n1 : -12 ≤ num) (n2 : num ≤ 12) :
    ∃ (H2 δ : Int) (g : Nat → Bool), deskR ⟨W, (R : Int) + shMax W num d, (W * ((R : Int) + shMax W num d)).toNat, movF W R (shMax W num d) num d ρ⟩ 12 d = (⟨W, H2, (W * H2).toNat, g⟩, ((estR ⟨W, (R : Int) + shMax W num d, (W * ((R : Int) + shMax W num d)).toNat, movF W R (shMax W num d) num d ρ⟩ 12 d).1, 0)) ∧
      vldB W H2 (W * H2).toNat = true ∧ 0 ≤ δ ∧ δ + R ≤ H2 ∧ ∀ Y x : Int, 0 ≤ Y → Y < H2 → 0 ≤ x → x < W → g (Y * W + x).toNat = inR R ρ (Y - δ) := by
  have m := shm_small w1 w2 n1 n2 d1
  have hv := vld_small (H := (R : Int) + shMax W num d) w1 w2 (by omega) (by omega)
  have px := @moved_px W d num
  generalize hH : (R : Int) + shMax W num d = H at *
  generalize hF : movF W R (shMax W num d) num d ρ = F at *
  generalize hN : (W * H).toNat = N at *
  generalize hb : (estR ⟨W, H, N, F⟩ 12 d).1 = b
  obtain ⟨e0, eb, en, b1, b2, le, _⟩ := maximal (f := F) (K := 12) (d := d) (n := num) hv (by omega) (by omega) d1 (by omega) (by omega) (by omega) hb.symm
  rw [energyR_ok hv (slopeB_iff.2 ⟨d1, by omega, by omega, by omega⟩), energyR_ok hv (slopeB_iff.2 ⟨d1, by omega, by omega, by omega⟩)] at le
  have mb := shm_small w1 w2 b1 b2 d1
  have hvb := vld_small (H := H + shMax W b d) w1 w2 (by omega) (by omega)
  have hvn := vld_small (H := H + shMax W num d) w1 w2 (by omega) (by omega)
  have hs : shearR ⟨W, H, N, F⟩ b d = (⟨W, H + shMax W b d, (W * (H + shMax W b d)).toNat, shP W b d F N⟩, 0) := shearR_ok hv (slopeB_iff.2 ⟨d1, by omega, by omega, by omega⟩) (vld_fit hvb)
  -- the profiles
  have key : ∀ {q : Int}, (∀ j, j < N → F j = true → 0 ≤ keyI W q d j ∧ keyI W q d j < ((H + shMax W q d).toNat : Nat)) := fun {q} j hj _ => by
    obtain ⟨c1, c2, c3, c4, c5⟩ := cell_bd hv hj
    have s1 := shI_nonneg (num := q) d1 c1 c2
    have s2 := shI_le (num := q) d1 c1 c2
    unfold keyI
    omega
  have tot : ∀ q : Int, sumN (fun y => histN F (keyI W q d) N y) (H + shMax W q d).toNat = sumN (fun j => if F j = true then 1 else 0) N := fun q => hist_total key
  have pn : ∀ y : Nat, y < (H + shMax W num d).toNat → histN F (keyI W num d) N y = 0 ∨ histN F (keyI W num d) N y = W := fun y hy => by
    have e := shear_prof (num := num) (f := F) (y := (y : Int)) hv d1
    rw [← e]
    refine const_row (b := inR R ρ ((y : Int) - shMax W num d)) hvn (by omega) fun x hx => ?_
    have := px (b := num) (R := R) (ρ := ρ) w1 w2 r1 r2 d1 n1 n2 n1 n2 (x := (x : Int)) (Y := (y : Int)) (by omega) hx (by omega)
    rw [hF, hH, hN] at this
    rw [this]
    congr 1
    omega
  have an : enI ⟨W, H, N, F⟩ num d = W * sumN (fun j => if F j = true then 1 else 0) N := by
    rw [← tot num]
    exact sq_all pn
  have pb : ∀ y : Nat, y < (H + shMax W b d).toNat → 0 ≤ histN F (keyI W b d) N y ∧ histN F (keyI W b d) N y ≤ W := fun y hy => by
    rw [← shear_prof (num := b) (f := F) (y := (y : Int)) hv d1, prof_row hvb (by omega)]
    have := rowS_z (g := bw (shP W b d F N)) (W := W) (hi := 1) (y := y) (x := W.toNat) (fun _ => bw_bd)
    omega
  have cb := sq_eq (B := W) (by omega) pb (by
    rw [tot b, ← an]
    exact le)
  have s0 := sh_small (x := 0) w2 n1 n2 d1 (by omega) (by omega)
  have s0b := sh_small (x := 0) w2 b1 b2 d1 (by omega) (by omega)
  have s0m := shI_le (W := W) (num := num) (x := 0) d1 (by omega) (by omega)
  have s0bm := shI_le (W := W) (num := b) (x := 0) d1 (by omega) (by omega)
  refine ⟨H + shMax W b d, shI W b d 0 + shMax W num d - shI W num d 0, shP W b d F N, ?_, hvb, by omega, by omega, fun Y x hY0 hY hx0 hx => ?_⟩
  · have := deskR_ok (m := ⟨W, H, N, F⟩) (most := 12) (den := d) (by rw [e0]; decide) (by rw [hb, hs]; simp)
    rw [this, hb, hs]
  · have c := row_const (y := Y.toNat) (x := x.toNat) (g := shP W b d F N) hvb (by omega) (by
      rw [shear_prof hv d1]
      exact cb Y.toNat (by omega)) (by omega)
    rw [show ((Y.toNat : Nat) : Int) = Y by omega, show ((x.toNat : Nat) : Int) = x by omega] at c
    rw [c]
    have := px (b := b) (R := R) (ρ := ρ) w1 w2 r1 r2 d1 n1 n2 b1 b2 (x := ((0 : Nat) : Int)) (Y := Y) (by omega) (by omega) hY0
    rw [hF, hH, hN] at this
    rw [this]
    congr 1
    simp only [Int.ofNat_zero, Int.natCast_zero]
    omega
/-! ### trimming -/
def trimR (m : Pm Bool) : Pm Bool × Bool :=
  if bxB (dotsV m.W m.H m.n m.f) = true then ((cropR m 0 (bxY (dotsV m.W m.H m.n m.f)) m.W (bxH (dotsV m.W m.H m.n m.f))).1, decide ((cropR m 0 (bxY (dotsV m.W m.H m.n m.f)) m.W (bxH (dotsV m.W m.H m.n m.f))).2 = 0)) else (noB, false)
theorem trimR_le {m : Pm Bool} : (trimR m).1.n ≤ 4194304 := by
  unfold trimR
  split
  · exact cropR_le
  · simp [noB]
/-- a bitmap whose rows are full or empty, trimmed -/
theorem trim_rows {W H : Int} {n : Nat} {f : Nat → Bool} {σ : Int → Bool} (hv : vldB W H n = true) (hr : ∀ Y x : Int, 0 ≤ Y → Y < H → 0 ≤ x → x < W → f (Y * W + x).toNat = σ Y) :
    ((∀ Y, 0 ≤ Y → Y < H → σ Y = false) ∧ trimR ⟨W, H, n, f⟩ = (noB, false)) ∨
    ∃ t b : Int, 0 ≤ t ∧ t ≤ b ∧ b < H ∧ σ t = true ∧ σ b = true ∧ (∀ Y, 0 ≤ Y → Y < H → σ Y = true → t ≤ Y ∧ Y ≤ b) ∧
      ∃ g : Nat → Bool, trimR ⟨W, H, n, f⟩ = (⟨W, b - t + 1, (W * (b - t + 1)).toNat, g⟩, true) ∧ ∀ j, j < (W * (b - t + 1)).toNat → g j = σ (t + (j : Int) / W) := by
  obtain ⟨v1, v2, v3, v4, v5, v6⟩ := vldB_iff.1 hv
  have px : ∀ i, i < n → f i = σ ((i : Int) / W) ∧ 0 ≤ (i : Int) / W ∧ (i : Int) / W < H := fun i hi => by
    obtain ⟨a, b, c, d, e⟩ := cell_bd hv hi
    have := hr _ _ c d a b
    rw [e] at this
    exact ⟨by simpa using this, c, d⟩
  have cell : ∀ Y : Int, 0 ≤ Y → Y < H → ∃ i, i < n ∧ (i : Int) / W = Y ∧ f i = σ Y := fun Y h0 h1 => by
    have q := idx_bd (W := W) (H := H) (x := 0) (y := Y) (by omega) (by omega) h0 h1
    have e := dm (k := (((Y * W + 0).toNat : Nat) : Int)) (y := Y) (x := 0) (B := W) (by omega) (by omega) (by omega)
    exact ⟨(Y * W + 0).toNat, by omega, e.1, hr Y 0 h0 h1 (by omega) (by omega)⟩
  have eV : dotsV W H n f = dotsL W f n := if_pos hv
  rcases top_spec (f := f) v1 n with ⟨a, b⟩ | ⟨⟨i, a1, a2, a3⟩, ⟨i', b1, b2, b3⟩, c⟩
  · refine .inl ⟨fun Y h0 h1 => ?_, ?_⟩
    · obtain ⟨i, hi, _, h⟩ := cell Y h0 h1
      rw [← h]; exact a i hi
    · unfold trimR
      rw [if_neg]
      simp only [eV, bxB, b]
      decide
  · obtain ⟨p1, p2, p3⟩ := px i a1
    obtain ⟨q1, q2, q3⟩ := px i' b1
    rw [← a3] at p1 p2 p3
    rw [← b3] at q1 q2 q3
    have tb : topF (dotsL W f n) ≤ botF (dotsL W f n) := by have := c i a1 a2; rw [← a3] at this; exact this.2
    generalize ht : topF (dotsL W f n) = t at *
    generalize hb : botF (dotsL W f n) = b at *
    refine .inr ⟨t, b, p2, tb, q3, by rw [← p1]; exact a2, by rw [← q1]; exact b2, fun Y h0 h1 hs => ?_, cropF 10000 W H n f 0 t W, ?_, fun j hj => ?_⟩
    · obtain ⟨k, hk, e, h⟩ := cell Y h0 h1
      have := c k hk (by rw [h]; exact hs)
      rw [e] at this
      exact this
    · have m1 := Int.mul_le_mul_of_nonneg_left (show b - t + 1 ≤ H by omega) (show 0 ≤ W by omega)
      have hf : fitsB W (b - t + 1) = true := fitsB_iff.2 ⟨v1, v2, by omega, by omega, by omega⟩
      have k1 : bxB (dotsV W H n f) = true := by unfold bxB; rw [eV, ht]; exact decide_eq_true (by omega)
      have k2 : bxY (dotsV W H n f) = t := by unfold bxY; rw [eV, ht, if_neg (by omega)]
      have k3 : bxH (dotsV W H n f) = b - t + 1 := by unfold bxH; rw [eV, ht, hb, if_neg (by omega)]
      unfold trimR
      simp only
      rw [if_pos k1, k2, k3, cropR_ok hv hf]
      rfl
    · have m1 : 0 ≤ W * (b - t + 1) := Int.mul_nonneg (by omega) (by omega)
      have x0 := Int.emod_nonneg (j : Int) (show W ≠ 0 by omega)
      have x1 := Int.emod_lt_of_pos (j : Int) (show 0 < W by omega)
      have y0 : 0 ≤ (j : Int) / W := Int.ediv_nonneg (by omega) (by omega)
      have y1 : (j : Int) / W < b - t + 1 := Int.ediv_lt_of_lt_mul (by omega) (by rw [Int.mul_comm]; omega)
      have n0 : nearI 10000 0 = 0 := by decide
      have n1 : nearI 10000 t = t := by unfold nearI; omega
      unfold cropF atB
      rw [n0, n1, hv, inB_iff.2 (by omega), Int.zero_add, hr _ _ (by omega) (by omega) x0 x1]
      rfl
theorem trimR_no {W H : Int} {n : Nat} {f : Nat → Bool} (h : bxB (dotsV W H n f) = false) : trimR ⟨W, H, n, f⟩ = (noB, false) := if_neg (by rw [h]; decide)
theorem trimR_yes {W H : Int} {n : Nat} {f : Nat → Bool} (h : bxB (dotsV W H n f) = true) : trimR ⟨W, H, n, f⟩ = ((cropR ⟨W, H, n, f⟩ 0 (bxY (dotsV W H n f)) W (bxH (dotsV W H n f))).1, decide ((cropR ⟨W, H, n, f⟩ 0 (bxY (dotsV W H n f)) W (bxH (dotsV W H n f))).2 = 0)) := if_pos h
/-- a bitmap and a truth value, in memory that is only read -/
def RXt (p : Pm Bool × Bool) (v : Value) (S : List Blk) : Prop := ∃ A c, v = .tuple #[.agg #[.int .i64 p.1.W, .int .i64 p.1.H, .slice A p.1.n c], .bool p.2] ∧ p.1.n ≤ c ∧ Rds S A (tab p.1.n (bv p.1.f))
theorem rxt_nil {w W : World} {H : List Blk} {b : Bool} {p : Pm Bool × Bool} (hO : Ow [] w W H) (hp : p = (noB, b)) : ∃ v Hn, Ending.returned (.tuple #[.agg #[.int .i64 0, .int .i64 0, .slice none 0 0], .bool b]) = .returned v ∧ RXt p v Hn ∧ Ow [] w W Hn := by
  subst hp
  exact ⟨_, [], rfl, ⟨none, 0, rfl, Nat.le_refl _, rds_nil⟩, hO.sub (List.nil_sublist _)⟩
theorem rxt_give {w W : World} {c : Nat} {S : List Blk} {b : Bool} {A : Option Addr} {m : Pm Bool} {p : Pm Bool × Bool} (hO : Ow [] w W S) (hk : m.n ≤ c) (hS : Rds S A (tab m.n (bv m.f))) (hp : p = (m, b)) :
    ∃ v Hn, Ending.returned (.tuple #[.agg #[.int .i64 m.W, .int .i64 m.H, .slice A m.n c], .bool b]) = .returned v ∧ RXt p v Hn ∧ Ow [] w W Hn := by
  subst hp
  exact ⟨_, S, rfl, ⟨A, c, rfl, hk, hS⟩, hO⟩
theorem orig_at {W : Int} {ρ : Nat → Bool} {y x q : Nat} (hq : (q : Int) = (y : Int) * W + x) (hx : (x : Int) < W) : ρ y = origF W ρ q := by
  unfold origF
  rw [(dm hq (by omega) hx).1]
  rfl
theorem mov_at {W mx num den : Int} {R : Nat} {ρ : Nat → Bool} {y x q : Nat} (hq : (q : Int) = (y : Int) * W + x) (hx : (x : Int) < W) :
    ((decide (0 ≤ (y : Int) - mx + shI W num den (x : Int)) && decide ((y : Int) - mx + shI W num den (x : Int) < (R : Int))) && ρ ((y : Int) - mx + shI W num den (x : Int)).toNat) = movF W R mx num den ρ q := by
  unfold movF inR
  rw [(dm hq (by omega) hx).1, (dm hq (by omega) hx).2]
/-- **Correcting a skew.** -/
theorem corrects {W d num : Int} {R : Nat} {ρ : Nat → Bool} (w1 : 1 ≤ W) (w2 : W ≤ 40) (r1 : 1 ≤ R) (r2 : R ≤ 30) (d1 : 1 ≤ d) (d2 : d ≤ 40) (n1 : -12 ≤ num) (n2 : num ≤ 12)
    (ht : (trimR ⟨W, (R : Int), (W * (R : Int)).toNat, origF W ρ⟩).2 = true) :
    (deskR ⟨W, (R : Int) + shMax W num d, (W * ((R : Int) + shMax W num d)).toNat, movF W R (shMax W num d) num d ρ⟩ 12 d).2.2 = 0 ∧
    (trimR (deskR ⟨W, (R : Int) + shMax W num d, (W * ((R : Int) + shMax W num d)).toNat, movF W R (shMax W num d) num d ρ⟩ 12 d).1).2 = true ∧
    eqP (trimR (deskR ⟨W, (R : Int) + shMax W num d, (W * ((R : Int) + shMax W num d)).toNat, movF W R (shMax W num d) num d ρ⟩ 12 d).1).1 (trimR ⟨W, (R : Int), (W * (R : Int)).toNat, origF W ρ⟩).1 = true := by
  obtain ⟨H2, δ, g, e1, hv2, δ0, δ1, hg⟩ := desk_rows (ρ := ρ) w1 w2 r1 r2 d1 d2 n1 n2
  rw [e1]
  have hv1 := vld_small (H := (R : Int)) w1 w2 (by omega) (by omega)
  have o := trim_rows (f := origF W ρ) (σ := inR R ρ) hv1 (fun Y x h0 h1 hx0 hx => by
    have q := dm (k := (((Y * W + x).toNat : Nat) : Int)) (y := Y) (x := x) (B := W) (by have := Int.mul_nonneg h0 (show 0 ≤ W by omega); omega) hx0 hx
    unfold origF
    rw [q.1, inR_at h0 h1])
  have r := trim_rows (f := g) (σ := fun Y => inR R ρ (Y - δ)) hv2 hg
  rcases o with ⟨_, o2⟩ | ⟨t, b, t0, tb, bR, st, sb, all, g1, o1, o2⟩
  · rw [o2] at ht; cases ht
  · rcases r with ⟨r1', _⟩ | ⟨t', b', t0', tb', bR', st', sb', all', g2, p1, p2⟩
    · have := r1' (t + δ) (by omega) (by omega)
      simp only [Int.add_sub_cancel] at this
      rw [this] at st; cases st
    · have i1 := all' (t + δ) (by omega) (by omega) (by simp only [Int.add_sub_cancel]; exact st)
      have i2 := all' (b + δ) (by omega) (by omega) (by simp only [Int.add_sub_cancel]; exact sb)
      have j1 := inR_in st'
      have j2 := inR_in sb'
      have i3 := all (t' - δ) j1.1 j1.2 st'
      have i4 := all (b' - δ) j2.1 j2.2 sb'
      obtain rfl : t' = t + δ := by omega
      obtain rfl : b' = b + δ := by omega
      refine ⟨rfl, ?_⟩
      show (trimR ⟨W, H2, (W * H2).toNat, g⟩).2 = true ∧ eqP (trimR ⟨W, H2, (W * H2).toNat, g⟩).1 _ = true
      rw [p1, o1]
      have e : b + δ - (t + δ) + 1 = b - t + 1 := by omega
      refine ⟨rfl, eqP_of ⟨rfl, e, by simp only; rw [e], fun j hj => ?_⟩⟩
      simp only at hj ⊢
      rw [p2 j hj, o2 j (by rw [← e]; exact hj)]
      congr 1
      omega
end Go.Bs
