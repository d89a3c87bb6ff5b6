/-
  Joining lines of text, and enlarging them (plain laws). No program is named here.
-/
import Derived.Test.YtjndoanhkfdngaaFo
import Derived.Laws.Concat
namespace Go.Bs
open Go.RowKit Go.Eng

section
variable {P : Program} {N : Sz} {X : List Nat} {w0 : World} {L : List (Nat × Value)} {H : List Blk}
theorem eo_sadd {t t2 : TypeId} {x y : Operand} {a b : ByteArray} {o : Oper} (ho : o.op = .binOp .add t x y t2) (hx : ev L x = some (.string a)) (hy : ev L y = some (.string b)) (hs : a.size + b.size ≤ 9223372036854775807) : EO P N X w0 o L H (.string (a ++ b)) :=
  eo_val fun c W hF _ => by
    have hg : eqGuard .add t x y (.string a) (.string b) = pure () := rfl
    simp only [execOp, ho, hF.eval hx, hF.eval hy, hg, binOp_string_add, Sem.run_bind, Sem.run_pure, Result.andThen_ok, run_string_add_sum W a b hs]
end
theorem byI_app {a b : ByteArray} {p : Nat} (h : p < a.size + b.size) : byI (a ++ b) p = if p < a.size then byI a p else byI b (p - a.size) := by
  have hs : (a ++ b).size = a.size + b.size := ByteArray.size_append
  rw [byI_at (by omega)]
  have e : (a ++ b)[p]'(by omega) = (a.data ++ b.data)[p]'(by simp [Array.size_append]; exact h) := by
    show (a ++ b).data[p]'(by show p < (a ++ b).size; omega) = _
    simp only [ByteArray.data_append]
  rw [e, Array.getElem_append]
  by_cases c : p < a.size
  · rw [if_pos c, dif_pos (show p < a.data.size from c), byI_at c]
    rfl
  · rw [if_neg c, dif_neg (show ¬ p < a.data.size from c), byI_at (show p - a.size < b.size by omega)]
    rfl
theorem drw_err {s : ByteArray} {k : Int} : (drwR s k).2 = (widR s k).2 := by
  by_cases h : (widR s k).2 ≠ 0
  · rw [drwR_no h]
  · rw [drwR_ok h]
    exact (Decidable.not_not.1 h).symm
theorem wid_small {s : ByteArray} {k : Int} (hs : s.size ≤ 40) (k1 : 1 ≤ k) (k4 : k ≤ 4) : (6 * (s.size : Int) - 1) * k ≤ 956 ∧ ((widR s k).2 = 0 ∨ (widR s k).2 = 5 ∨ (widR s k).2 = 6) := by
  have b : (6 * (s.size : Int) - 1) * k ≤ 956 := by
    rcases (show k = 1 ∨ k = 2 ∨ k = 3 ∨ k = 4 by omega) with rfl | rfl | rfl | rfl <;> omega
  refine ⟨b, ?_⟩
  by_cases h : s.size = 0
  · rw [widR_0 h]; exact .inr (.inl rfl)
  · cases ha : allK s with
    | false => rw [widR_c h ha]; exact .inr (.inr rfl)
    | true => rw [widR_ok h ha (by omega) (by omega)]; exact .inl rfl
theorem drw_vld {s : ByteArray} {k : Int} (h : ¬ (widR s k).2 ≠ 0) : vldB (widR s k).1 (7 * k) ((widR s k).1 * 7 * k).toNat = true := by
  obtain ⟨a, b, c, d, e, f⟩ := widR_zero h
  obtain ⟨y1, y2, y3, y4, y5, y6⟩ := wid_sz h
  have hN : (widR s k).1 * (7 * k) = (widR s k).1 * 7 * k := by rw [Int.mul_assoc]
  exact vldB_iff.2 ⟨by omega, y2, by omega, by omega, by omega, by omega⟩
/-- a pixel of a line, by its place -/
theorem drw_at {s : ByteArray} {k w x y : Int} {j : Nat} (hx : 0 ≤ x) (hx1 : x < w) (hj : (j : Int) = y * w + x) : drwF s k w j = (decide (x % (6 * k) < 5 * k) && gpx (byI s (x / (6 * k)).toNat) (y / k * 5 + x % (6 * k) / k).toNat) := by
  obtain ⟨e1, e2⟩ := dm hj hx hx1
  unfold drwF
  rw [e1, e2]
theorem joins {s t : ByteArray} {k : Int} (ha : ¬ (drwR s k).2 ≠ 0) (hb : ¬ (drwR t k).2 ≠ 0) (hs : s.size ≤ 20) (ht : t.size ≤ 20) (k1 : 1 ≤ k) (k4 : k ≤ 4) :
    (drwR (s ++ t) k).2 = 0 ∧ (widR (s ++ t) k).2 = 0 ∧ (widR (s ++ t) k).1 = (drwR s k).1.W + k + (drwR t k).1.W ∧ (drwR (s ++ t) k).1.W = (widR (s ++ t) k).1 ∧ (drwR (s ++ t) k).1.H = 7 * k ∧ (drwR s k).1.H = 7 * k ∧ (drwR t k).1.H = 7 * k ∧
    (((drwR (s ++ t) k).1.n : Nat) : Int) = (drwR (s ++ t) k).1.W * (drwR (s ++ t) k).1.H ∧
    (1 ≤ (drwR s k).1.W ∧ (drwR s k).1.W ≤ 956 ∧ 1 ≤ (drwR t k).1.W ∧ (drwR t k).1.W ≤ 956 ∧ (drwR (s ++ t) k).1.W ≤ 956) ∧
    ∀ i, i < (drwR (s ++ t) k).1.n → (drwR (s ++ t) k).1.f i = (atB (drwR s k).1.W (drwR s k).1.H (drwR s k).1.n (drwR s k).1.f ((i : Int) % (drwR (s ++ t) k).1.W) ((i : Int) / (drwR (s ++ t) k).1.W) ||
      atB (drwR t k).1.W (drwR t k).1.H (drwR t k).1.n (drwR t k).1.f ((i : Int) % (drwR (s ++ t) k).1.W - (drwR s k).1.W - k) ((i : Int) / (drwR (s ++ t) k).1.W)) := by
  rw [drw_err] at ha hb
  obtain ⟨a1, a2, a3, a4, a5, a6⟩ := widR_zero ha
  obtain ⟨b1, b2, b3, b4, b5, b6⟩ := widR_zero hb
  have hsz : (s ++ t).size = s.size + t.size := ByteArray.size_append
  have hall : allK (s ++ t) = true := allK_iff.2 fun j hj => by
    rw [byI_app (by omega)]
    split
    · exact allK_iff.1 a2 j (by assumption)
    · exact allK_iff.1 b2 _ (by omega)
  have hsm := (wid_small (s := s ++ t) (k := k) (by omega) k1 k4).1
  have hc := widR_ok (s := s ++ t) (k := k) (by omega) hall (by omega) (by omega)
  have hcz : ¬ (widR (s ++ t) k).2 ≠ 0 := by rw [hc]; simp
  have hW : (widR (s ++ t) k).1 = (widR s k).1 + k + (widR t k).1 := by
    rw [hc, a5, b5, hsz]
    show (6 * ((s.size + t.size : Nat) : Int) - 1) * k = _
    have e : 6 * ((s.size + t.size : Nat) : Int) - 1 = (6 * (s.size : Int) - 1) + (6 * (t.size : Int) - 1) + 1 := by omega
    rw [e, Int.add_mul, Int.add_mul, Int.one_mul]
    omega
  have va := drw_vld ha
  have vb := drw_vld hb
  have sa := (wid_small (s := s) (k := k) (by omega) k1 k4).1
  have sb := (wid_small (s := t) (k := k) (by omega) k1 k4).1
  obtain ⟨z1, z2, z3, z4, z5, z6⟩ := wid_sz hcz
  obtain ⟨p1, p2, p3, p4, p5, p6⟩ := wid_sz ha
  obtain ⟨q1, q2, q3, q4, q5, q6⟩ := wid_sz hb
  have hN : (widR (s ++ t) k).1 * (7 * k) = (widR (s ++ t) k).1 * 7 * k := by rw [Int.mul_assoc]
  have hsc : (widR (s ++ t) k).1 ≤ 956 := by rw [hc]; exact hsm
  rw [drwR_ok ha, drwR_ok hb, drwR_ok hcz]
  refine ⟨rfl, by rw [hc], hW, rfl, rfl, rfl, rfl, ?_, ⟨by simp only; omega, by simp only; omega, by simp only; omega, by simp only; omega, hsc⟩, fun i hi => ?_⟩
  · show ((((widR (s ++ t) k).1 * 7 * k).toNat : Nat) : Int) = (widR (s ++ t) k).1 * (7 * k)
    omega
  simp only at hi ⊢
  generalize hw : (widR (s ++ t) k).1 = w at *
  generalize hwa : (widR s k).1 = wa at *
  generalize hwb : (widR t k).1 = wb at *
  have x0 := Int.emod_nonneg (i : Int) (show w ≠ 0 by omega)
  have x1 := Int.emod_lt_of_pos (i : Int) z1
  have y0 : 0 ≤ (i : Int) / w := Int.ediv_nonneg (by omega) (by omega)
  have y1 : (i : Int) / w < 7 * k := Int.ediv_lt_of_lt_mul z1 (by rw [Int.mul_comm, hN]; omega)
  have ei := Int.mul_ediv_add_emod (i : Int) w
  rw [Int.mul_comm] at ei
  generalize hx : (i : Int) % w = x at *
  generalize hy : (i : Int) / w = y at *
  rw [drw_at (x := x) (y := y) x0 x1 (by omega)]
  -- where the first line ends
  have hu : 6 * (s.size : Int) * k = wa + k := by
    rw [a5, Int.sub_mul, Int.one_mul]
    omega
  have at_no : ∀ {W' : Int} {n' : Nat} {f' : Nat → Bool} {x' : Int}, ¬ (0 ≤ x' ∧ x' < W') → atB W' (7 * k) n' f' x' y = false := fun h => by
    unfold atB
    cases e : inB _ (7 * k) _ y with
    | false => simp
    | true => exact absurd (by have := inB_iff.1 e; omega) h
  have at_yes : ∀ {r : ByteArray} {W' : Int} {x' : Int} (_ : vldB W' (7 * k) (W' * 7 * k).toNat = true), 0 ≤ x' → x' < W' → atB W' (7 * k) (W' * 7 * k).toNat (drwF r k W') x' y = (decide (x' % (6 * k) < 5 * k) && gpx (byI r (x' / (6 * k)).toNat) (y / k * 5 + x' % (6 * k) / k).toNat) := fun {r W' x'} v h0 h1 => by
    have q := idx_bd (W := W') (H := 7 * k) h0 h1 y0 y1
    unfold atB
    rw [v, inB_iff.2 (by omega), Bool.true_and, Bool.true_and]
    exact drw_at h0 h1 (by omega)
  by_cases c1 : x < wa
  · rw [at_yes va x0 c1, at_no (by omega), Bool.or_false]
    have d := div_in (x := x) (a := 6 * k) (W := (s.size : Int)) (by omega) x0 (by rw [Int.mul_comm, ← Int.mul_assoc, Int.mul_comm (s.size : Int)]; omega)
    rw [byI_app (by omega), if_pos (by omega)]
  · by_cases c2 : x < wa + k
    · rw [at_no (by omega), at_no (by omega), Bool.or_false]
      have hm : 6 * (s.size : Int) * k = (s.size : Int) * (6 * k) := by rw [← Int.mul_assoc, Int.mul_comm 6]
      have d := dm (k := x) (y := (s.size : Int) - 1) (x := x - ((s.size : Int) - 1) * (6 * k)) (B := 6 * k) (by omega) (by rw [Int.sub_mul, Int.one_mul]; omega) (by rw [Int.sub_mul, Int.one_mul]; omega)
      rw [d.2, decide_eq_false (by rw [Int.sub_mul, Int.one_mul]; omega), Bool.false_and]
    · have hm : 6 * (s.size : Int) * k = (s.size : Int) * (6 * k) := by rw [← Int.mul_assoc, Int.mul_comm 6]
      have hx' : x - wa - k = x - (s.size : Int) * (6 * k) := by omega
      rw [at_no (x' := x) (by omega), Bool.false_or, at_yes vb (by omega) (by omega), hx']
      have e1 : (x - (s.size : Int) * (6 * k)) % (6 * k) = x % (6 * k) := by rw [Int.sub_mul_emod_self_right]
      have e2 : (x - (s.size : Int) * (6 * k)) / (6 * k) = x / (6 * k) - (s.size : Int) := by rw [Int.sub_mul_ediv_right _ _ (by omega)]
      have hub : 6 * (t.size : Int) * k = wb + k := by
        rw [b5, Int.sub_mul, Int.one_mul]
        omega
      have hm1 : 6 * k * (t.size : Int) = 6 * (t.size : Int) * k := by rw [Int.mul_assoc, Int.mul_assoc, Int.mul_comm k]
      have hm2 : (t.size : Int) * (6 * k) = 6 * k * (t.size : Int) := Int.mul_comm _ _
      have d := div_in (x := x - (s.size : Int) * (6 * k)) (a := 6 * k) (W := (t.size : Int)) (by omega) (by omega) (by omega)
      rw [e2] at d
      rw [e1, e2, byI_app (by omega), if_neg (by omega), show (x / (6 * k)).toNat - s.size = (x / (6 * k) - (s.size : Int)).toNat by omega]
/-- a line with a scale is the enlarged one -/
theorem joins_big {s : ByteArray} {k : Int} (ha : ¬ (drwR s k).2 ≠ 0) (hs : s.size ≤ 20) (k1 : 1 ≤ k) (k4 : k ≤ 4) :
    (drwR s 1).2 = 0 ∧ (enlR (drwR s 1).1 k).2 = 0 ∧ eqP (enlR (drwR s 1).1 k).1 (drwR s k).1 = true := by
  rw [drw_err] at ha
  obtain ⟨a1, a2, a3, a4, a5, a6⟩ := widR_zero ha
  have h1 := widR_ok (s := s) (k := 1) a1 a2 (by omega) (by have := (wid_small (s := s) (k := 1) (by omega) (by omega) (by omega)).1; omega)
  have h1z : ¬ (widR s 1).2 ≠ 0 := by rw [h1]; simp
  have hw1 : (widR s 1).1 = 6 * (s.size : Int) - 1 := by rw [h1]; simp
  have v1 := drw_vld h1z
  have vk := drw_vld ha
  have eW : k * (widR s 1).1 = (widR s k).1 := by rw [a5, hw1, Int.mul_comm]
  have eH : k * (7 * 1) = 7 * k := by omega
  have hf : fitsB (k * (widR s 1).1) (k * (7 * 1)) = true := by
    rw [eW, eH]
    have := vldB_iff.1 vk
    exact fitsB_iff.2 (by omega)
  rw [drwR_ok h1z, drwR_ok ha, enlR_ok v1 (by omega) hf]
  obtain ⟨y1, y2, y3, y4, y5, y6⟩ := wid_sz ha
  have hN : (widR s k).1 * (7 * k) = (widR s k).1 * 7 * k := by rw [Int.mul_assoc]
  refine ⟨rfl, rfl, eqP_of ⟨eW, eH, by simp only; rw [eW, eH, hN], fun j hj => ?_⟩⟩
  simp only at hj ⊢
  rw [eW, eH, hN] at hj
  generalize hw : (widR s k).1 = w at *
  generalize hv : (widR s 1).1 = v at *
  have x0 := Int.emod_nonneg (j : Int) (show w ≠ 0 by omega)
  have x1 := Int.emod_lt_of_pos (j : Int) y1
  have p0 : 0 ≤ (j : Int) / w := Int.ediv_nonneg (by omega) (by omega)
  have ei := Int.mul_ediv_add_emod (j : Int) w
  rw [Int.mul_comm] at ei
  unfold enlF
  rw [eW]
  generalize hx : (j : Int) % w = x at *
  generalize hy : (j : Int) / w = y at *
  have d := div_in (x := x) (a := k) (W := v) k1 x0 (by omega)
  have yk : 0 ≤ y / k := Int.ediv_nonneg p0 (by omega)
  have m0 : 0 ≤ y / k * v := Int.mul_nonneg yk (by omega)
  rw [drw_at (x := x / k) (y := y / k) (w := v) d.1 d.2.1 (by omega), drw_at (x := x) (y := y) (w := w) x0 x1 (by omega)]
  -- a column by the character and the place in it
  have q0 := Int.emod_nonneg x (show 6 * k ≠ 0 by omega)
  have q1 := Int.emod_lt_of_pos x (show 0 < 6 * k by omega)
  have eq := Int.mul_ediv_add_emod x (6 * k)
  have dk := div_in (x := x % (6 * k)) (a := k) (W := 6) k1 q0 (by omega)
  have e1 : x / k = x / (6 * k) * 6 + x % (6 * k) / k := by
    have r := Int.mul_ediv_add_emod (x % (6 * k)) k
    have r0 := Int.emod_nonneg (x % (6 * k)) (show k ≠ 0 by omega)
    have r1 := Int.emod_lt_of_pos (x % (6 * k)) (show 0 < k by omega)
    refine (dm (k := x) (y := x / (6 * k) * 6 + x % (6 * k) / k) (x := x % (6 * k) % k) (B := k) ?_ r0 r1).1
    rw [Int.add_mul, Int.mul_assoc, Int.mul_comm (x / (6 * k)), Int.mul_comm (x % (6 * k) / k)]
    omega
  have e2 := dm (k := x / k) (y := x / (6 * k)) (x := x % (6 * k) / k) (B := 6) e1 dk.1 (by omega)
  rw [show (6 : Int) * 1 = 6 by rfl, show (5 : Int) * 1 = 5 by rfl, e2.1, e2.2, Int.ediv_one, Int.ediv_one]
  congr 1
  refine decide_eq_decide.2 ⟨fun h => ?_, fun h => ?_⟩
  · have := Int.mul_le_mul_of_nonneg_left (show x % (6 * k) / k ≤ 4 by omega) (show 0 ≤ k by omega)
    omega
  · exact Int.ediv_lt_of_lt_mul (by omega) (by omega)
end Go.Bs
