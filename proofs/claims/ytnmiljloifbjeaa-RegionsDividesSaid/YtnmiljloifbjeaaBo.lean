/-
  The least box of the dark pixels, the document's way. No program is named here.
-/
import Derived.Test.YtnmiljloifbjeaaNe
import Derived.Test.YtnmiljloifbjeaaPd
namespace Go.Bs
open Go.RowKit Go.Eng

/-- the cells of a list of points -/
def ptG (l : List (Int × Int)) (i : Nat) : Int := if i % 2 = 0 then (l.getD (i / 2) (0, 0)).1 else (l.getD (i / 2) (0, 0)).2
theorem ptG_x {l : List (Int × Int)} {i : Nat} : ptG l (i * 2 + 0) = (l.getD i (0, 0)).1 := by unfold ptG; rw [if_pos (by omega), show (i * 2 + 0) / 2 = i by omega]
theorem ptG_y {l : List (Int × Int)} {i : Nat} : ptG l (i * 2 + 1) = (l.getD i (0, 0)).2 := by unfold ptG; rw [if_neg (by omega), show (i * 2 + 1) / 2 = i by omega]
theorem dots_at {W : Int} {f : Nat → Bool} {n i : Nat} (hi : i < n) (h : f i = true) : (dotsL W f n).getD (dotsL W f i).length (0, 0) = ((i : Int) % W, (i : Int) / W) := by
  obtain ⟨r, hr⟩ := dotsL_pre W f (i := i + 1) (k := n) (by omega)
  rw [hr, dotsL_yes h, List.append_assoc]
  simp
theorem dots_new {W : Int} {f : Nat → Bool} {n i : Nat} (hi : i < n) (h : f i = true) : ∀ j, j < 2 → [(i : Int) % W, (i : Int) / W].getD j 0 = ptG (dotsL W f n) ((dotsL W f i).length * 2 + j) := fun j hj => by
  have e := dots_at (W := W) hi h
  rcases j with _ | _ | j
  · rw [ptG_x, e]; rfl
  · rw [ptG_y, e]; rfl
  · omega
theorem dots_mem {W : Int} {f : Nat → Bool} {p : Int × Int} : ∀ {k : Nat}, p ∈ dotsL W f k → ∃ i, i < k ∧ f i = true ∧ p = ((i : Int) % W, (i : Int) / W)
  | 0, h => by simp [dotsL] at h
  | k + 1, h => by
    unfold dotsL at h
    split at h
    · rename_i hf
      rcases List.mem_append.1 h with h | h
      · obtain ⟨i, a, b, c⟩ := dots_mem h; exact ⟨i, by omega, b, c⟩
      · exact ⟨k, by omega, hf, List.mem_singleton.1 h⟩
    · obtain ⟨i, a, b, c⟩ := dots_mem h; exact ⟨i, by omega, b, c⟩
theorem mem_dots {W : Int} {f : Nat → Bool} {i : Nat} (hf : f i = true) : ∀ {k : Nat}, i < k → ((i : Int) % W, (i : Int) / W) ∈ dotsL W f k
  | 0, h => by omega
  | k + 1, h => by
    unfold dotsL
    by_cases e : i = k
    · subst e; rw [if_pos hf]; simp
    · have := mem_dots (W := W) hf (k := k) (by omega)
      split
      · exact List.mem_append.2 (.inl this)
      · exact this
theorem dotsV_in {W H : Int} {n : Nat} {f : Nat → Bool} {p : Int × Int} (h : p ∈ dotsV W H n f) : 0 ≤ p.1 ∧ p.1 < W ∧ W ≤ 4096 ∧ 0 ≤ p.2 ∧ p.2 < H ∧ H ≤ 4096 := by
  unfold dotsV at h
  split at h
  · rename_i hv
    obtain ⟨i, a, b, rfl⟩ := dots_mem h
    obtain ⟨v1, v2, v3, v4, v5, v6⟩ := vldB_iff.1 hv
    obtain ⟨c1, c2, c3, c4, c5⟩ := cell_bd hv a
    exact ⟨c1, c2, v2, c3, c4, v4⟩
  · simp at h
theorem dotsV_le {W H : Int} {n : Nat} {f : Nat → Bool} : (dotsV W H n f).length ≤ 4194304 := by
  unfold dotsV
  split
  · rename_i hv
    have := dotsL_len W f n
    have := (vld_pos hv).2
    omega
  · simp
theorem getD_mem {l : List (Int × Int)} {i : Nat} (h : i < l.length) : l.getD i (0, 0) ∈ l := by
  rw [List.getD_eq_getElem?_getD, List.getElem?_eq_getElem h]
  exact List.getElem_mem h
theorem leftF_le {p : Int × Int} : ∀ {l : List (Int × Int)} {t : Int}, (p ∈ l → l.foldl (fun t p => min t p.1) t ≤ p.1) ∧ l.foldl (fun t p => min t p.1) t ≤ t
  | [], t => ⟨fun h => by simp at h, by simp⟩
  | q :: r, t => by
    have ih := leftF_le (p := p) (l := r) (t := min t q.1)
    refine ⟨fun h => ?_, ?_⟩
    · rcases List.mem_cons.1 h with rfl | h
      · have := ih.2; simp only [List.foldl_cons]; omega
      · exact ih.1 h
    · have := ih.2; simp only [List.foldl_cons]; omega
theorem rightF_ge {p : Int × Int} : ∀ {l : List (Int × Int)} {t : Int}, (p ∈ l → p.1 ≤ l.foldl (fun t p => max t p.1) t) ∧ t ≤ l.foldl (fun t p => max t p.1) t
  | [], t => ⟨fun h => by simp at h, by simp⟩
  | q :: r, t => by
    have ih := rightF_ge (p := p) (l := r) (t := max t q.1)
    refine ⟨fun h => ?_, ?_⟩
    · rcases List.mem_cons.1 h with rfl | h
      · have := ih.2; simp only [List.foldl_cons]; omega
      · exact ih.1 h
    · have := ih.2; simp only [List.foldl_cons]; omega
theorem topF_hold : ∀ {l : List (Int × Int)} {t : Int}, 0 ≤ t → l.foldl (fun t p => if t < 0 then p.2 else t) t = t
  | [], _, _ => rfl
  | q :: r, t, h => by simp only [List.foldl_cons]; rw [if_neg (by omega)]; exact topF_hold h
theorem topF_first {l : List (Int × Int)} (h : 0 < l.length) (h0 : 0 ≤ (l.getD 0 (0, 0)).2) : topF l = (l.getD 0 (0, 0)).2 := by
  cases l with
  | nil => simp at h
  | cons p r => exact topF_hold (t := p.2) h0
theorem topF_nil {l : List (Int × Int)} (h : l.length = 0) : topF l = -1 := by
  cases l with
  | nil => rfl
  | cons p r => simp at h
theorem botF_last {l : List (Int × Int)} (h : 0 < l.length) : botF l = (l.getD (l.length - 1) (0, 0)).2 := by
  obtain ⟨r, p, rfl⟩ : ∃ r p, l = r ++ [p] := ⟨l.dropLast, l.getLast (by intro e; simp [e] at h), (List.dropLast_concat_getLast _).symm⟩
  rw [botF_snoc]
  simp
def minG (l : List (Int × Int)) (i : Nat) : Int := min (l.getD 0 (0, 0)).1 (leftF (l.take i))
def maxG (l : List (Int × Int)) (i : Nat) : Int := max (l.getD 0 (0, 0)).1 (rightF (l.take i))
theorem take_snoc {l : List (Int × Int)} {i : Nat} (h : i < l.length) : l.take (i + 1) = l.take i ++ [l.getD i (0, 0)] := by
  rw [List.take_add_one, List.getD_eq_getElem?_getD, List.getElem?_eq_getElem h]
  rfl
theorem minG_step {l : List (Int × Int)} {i : Nat} (h : i < l.length) : minG l (i + 1) = min (minG l i) (l.getD i (0, 0)).1 := by unfold minG; rw [take_snoc h, leftF_snoc]; omega
theorem maxG_step {l : List (Int × Int)} {i : Nat} (h : i < l.length) : maxG l (i + 1) = max (maxG l i) (l.getD i (0, 0)).1 := by unfold maxG; rw [take_snoc h, rightF_snoc]; omega
theorem minG_0 {l : List (Int × Int)} (h : (l.getD 0 (0, 0)).1 ≤ 4096) : minG l 0 = (l.getD 0 (0, 0)).1 := by unfold minG; rw [List.take_zero]; show min _ (4096 : Int) = _; omega
theorem maxG_0 {l : List (Int × Int)} (h : 0 ≤ (l.getD 0 (0, 0)).1) : maxG l 0 = (l.getD 0 (0, 0)).1 := by unfold maxG; rw [List.take_zero]; show max _ (-1 : Int) = _; omega
theorem minG_end {l : List (Int × Int)} (h : 0 < l.length) : minG l l.length = leftF l := by
  have : leftF l ≤ (l.getD 0 (0, 0)).1 := (leftF_le (l := l) (t := 4096)).1 (getD_mem h)
  unfold minG
  rw [List.take_length]
  omega
theorem maxG_end {l : List (Int × Int)} (h : 0 < l.length) : maxG l l.length = rightF l := by
  have : (l.getD 0 (0, 0)).1 ≤ rightF l := (rightF_ge (l := l) (t := -1)).1 (getD_mem h)
  unfold maxG
  rw [List.take_length]
  omega
/-- the parts of the least box -/
def bxB (l : List (Int × Int)) : Bool := decide (¬ topF l < 0)
def bxX (l : List (Int × Int)) : Int := if topF l < 0 then 0 else leftF l
def bxY (l : List (Int × Int)) : Int := if topF l < 0 then 0 else topF l
def bxW (l : List (Int × Int)) : Int := if topF l < 0 then 0 else rightF l - leftF l + 1
def bxH (l : List (Int × Int)) : Int := if topF l < 0 then 0 else botF l - topF l + 1
theorem boxOf_eq (l : List (Int × Int)) : boxOf l = .tuple #[.agg #[.int .i64 (bxX l), .int .i64 (bxY l), .int .i64 (bxW l), .int .i64 (bxH l)], .bool (bxB l)] := by
  unfold boxOf bxX bxY bxW bxH bxB
  by_cases h : topF l < 0
  · simp [h]
  · simp [h]
theorem top_spec {W : Int} {f : Nat → Bool} (hw : 1 ≤ W) : ∀ k : Nat, ((∀ i, i < k → f i = false) ∧ topF (dotsL W f k) = -1) ∨
    ((∃ i, i < k ∧ f i = true ∧ topF (dotsL W f k) = (i : Int) / W) ∧ (∃ i, i < k ∧ f i = true ∧ botF (dotsL W f k) = (i : Int) / W) ∧ (∀ i : Nat, i < k → f i = true → topF (dotsL W f k) ≤ (i : Int) / W ∧ (i : Int) / W ≤ botF (dotsL W f k)))
  | 0 => .inl ⟨fun i h => by omega, rfl⟩
  | k + 1 => by
    have nn : ∀ i : Nat, 0 ≤ (i : Int) / W := fun i => Int.ediv_nonneg (by omega) (by omega)
    have ih := top_spec (f := f) hw k
    cases hf : f k with
    | false =>
      rw [dotsL_no hf]
      rcases ih with ⟨a, b⟩ | ⟨⟨i, a1, a2, a3⟩, ⟨i', b1, b2, b3⟩, c⟩
      · refine .inl ⟨fun i hi => ?_, b⟩
        by_cases e : i = k
        · subst e; exact hf
        · exact a i (by omega)
      · refine .inr ⟨⟨i, by omega, a2, a3⟩, ⟨i', by omega, b2, b3⟩, fun j hj hfj => c j ?_ hfj⟩
        by_cases e : j = k
        · subst e; rw [hf] at hfj; cases hfj
        · omega
    | true =>
      rw [dotsL_yes hf, topF_snoc, botF_snoc]
      rcases ih with ⟨a, b⟩ | ⟨⟨i, a1, a2, a3⟩, ⟨i', b1, b2, b3⟩, c⟩
      · rw [b, if_pos (by decide)]
        refine .inr ⟨⟨k, by omega, hf, rfl⟩, ⟨k, by omega, hf, rfl⟩, fun j hj hfj => ?_⟩
        by_cases e : j = k
        · subst e; exact ⟨Int.le_refl _, Int.le_refl _⟩
        · rw [a j (by omega)] at hfj; cases hfj
      · rw [if_neg (by rw [a3]; have := nn i; omega)]
        refine .inr ⟨⟨i, by omega, a2, a3⟩, ⟨k, by omega, hf, rfl⟩, fun j hj hfj => ?_⟩
        have mono : ∀ j : Nat, j ≤ k → (j : Int) / W ≤ (k : Int) / W := fun j hj => Int.ediv_le_ediv (by omega) (by omega)
        refine ⟨?_, mono j (by omega)⟩
        by_cases e : j = k
        · subst e; rw [a3]; exact mono i (by omega)
        · exact (c j (by omega) hfj).1
theorem side_spec {W : Int} {f : Nat → Bool} (hw : 1 ≤ W) (hw2 : W ≤ 4096) : ∀ k : Nat, ((∀ i, i < k → f i = false) ∧ leftF (dotsL W f k) = 4096 ∧ rightF (dotsL W f k) = -1) ∨
    ((∃ i, i < k ∧ f i = true ∧ leftF (dotsL W f k) = (i : Int) % W) ∧ (∃ i, i < k ∧ f i = true ∧ rightF (dotsL W f k) = (i : Int) % W) ∧ (∀ i : Nat, i < k → f i = true → leftF (dotsL W f k) ≤ (i : Int) % W ∧ (i : Int) % W ≤ rightF (dotsL W f k)))
  | 0 => .inl ⟨fun i h => by omega, rfl, rfl⟩
  | k + 1 => by
    have k0 := Int.emod_nonneg (k : Int) (show W ≠ 0 by omega)
    have k1 := Int.emod_lt_of_pos (k : Int) (show 0 < W by omega)
    have ih := side_spec (f := f) hw hw2 k
    cases hf : f k with
    | false =>
      rw [dotsL_no hf]
      rcases ih with ⟨a, b⟩ | ⟨⟨i, a1, a2, a3⟩, ⟨i', b1, b2, b3⟩, c⟩
      · refine .inl ⟨fun i hi => ?_, b⟩
        by_cases e : i = k
        · subst e; exact hf
        · exact a i (by omega)
      · refine .inr ⟨⟨i, by omega, a2, a3⟩, ⟨i', by omega, b2, b3⟩, fun j hj hfj => c j ?_ hfj⟩
        by_cases e : j = k
        · subst e; rw [hf] at hfj; cases hfj
        · omega
    | true =>
      rw [dotsL_yes hf, leftF_snoc, rightF_snoc]
      rcases ih with ⟨a, b, b'⟩ | ⟨⟨i, a1, a2, a3⟩, ⟨i', b1, b2, b3⟩, c⟩
      · refine .inr ⟨⟨k, by omega, hf, by simp only; omega⟩, ⟨k, by omega, hf, by simp only; omega⟩, fun j hj hfj => ?_⟩
        by_cases e : j = k
        · subst e; simp only; omega
        · rw [a j (by omega)] at hfj; cases hfj
      · refine .inr ⟨?_, ?_, fun j hj hfj => ?_⟩
        · by_cases e : leftF (dotsL W f k) ≤ (k : Int) % W
          · exact ⟨i, by omega, a2, by simp only; omega⟩
          · exact ⟨k, by omega, hf, by simp only; omega⟩
        · by_cases e : (k : Int) % W ≤ rightF (dotsL W f k)
          · exact ⟨i', by omega, b2, by simp only; omega⟩
          · exact ⟨k, by omega, hf, by simp only; omega⟩
        · by_cases e : j = k
          · subst e; simp only; omega
          · have := c j (by omega) hfj; simp only; omega
theorem ret_box {l : List (Int × Int)} {a b c d : Int} (h : ¬ topF l < 0) (h1 : a = leftF l) (h2 : b = topF l) (h3 : c = rightF l - leftF l + 1) (h4 : d = botF l - topF l + 1) :
    Ending.returned (.tuple #[.agg #[.int .i64 a, .int .i64 b, .int .i64 c, .int .i64 d], .bool true]) = .returned (boxOf l) := by
  subst h1 h2 h3 h4
  rw [boxOf, if_neg h]
theorem ret_nobox {l : List (Int × Int)} (h : l.length = 0) : Ending.returned (.tuple #[.agg #[.int .i64 0, .int .i64 0, .int .i64 0, .int .i64 0], .bool false]) = .returned (boxOf l) := by
  rw [boxOf, if_pos (by rw [topF_nil h]; decide)]
theorem calls_v {P : Program} {f : FuncId} {args : Array Value} {w : World} {v v' : Value} (e : v = v') (h : Calls P f args w fun e w' => e = .returned v ∧ Ext w w') : Calls P f args w fun e w' => e = .returned v' ∧ Ext w w' := e ▸ h
end Go.Bs
