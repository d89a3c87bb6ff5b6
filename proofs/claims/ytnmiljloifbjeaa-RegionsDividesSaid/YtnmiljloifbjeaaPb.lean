/-
  The dark pixels of a bitmap in order, and the least box that holds them: plain facts, and the ghost loop of an iterator.
  No program is named here.
-/
import Derived.Test.YtnmiljloifbjeaaPu
import Derived.Test.YtnmiljloifbjeaaRng
import Derived.Laws.StructEq
namespace Go.Bs
open Go.RowKit Go.Eng

theorem eqM_rf {α : Type} [DecidableEq α] (W H : Int) (n : Nat) (f : Nat → α) : eqM W H n f W H n f = true := eqM_yes rfl rfl rfl (fun _ _ => rfl)
def dotsL (W : Int) (f : Nat → Bool) : Nat → List (Int × Int)
  | 0 => []
  | k + 1 => if f k = true then dotsL W f k ++ [((k : Int) % W, (k : Int) / W)] else dotsL W f k
def dotsV (W H : Int) (n : Nat) (f : Nat → Bool) : List (Int × Int) := if vldB W H n = true then dotsL W f n else []
theorem dotsL_len (W : Int) (f : Nat → Bool) : ∀ k, (dotsL W f k).length ≤ k
  | 0 => by simp [dotsL]
  | k + 1 => by
    have := dotsL_len W f k
    unfold dotsL
    split
    · simp; omega
    · omega
theorem dotsL_ext {W : Int} {f g : Nat → Bool} : ∀ {k : Nat}, (∀ j, j < k → f j = g j) → dotsL W f k = dotsL W g k
  | 0, _ => rfl
  | k + 1, h => by
    unfold dotsL
    rw [h k (by omega), dotsL_ext (k := k) fun j hj => h j (by omega)]
theorem dotsL_pre (W : Int) (f : Nat → Bool) {i : Nat} : ∀ {k : Nat}, i ≤ k → ∃ r, dotsL W f k = dotsL W f i ++ r
  | 0, h => ⟨[], by have : i = 0 := by omega
                    subst this; simp⟩
  | k + 1, h => by
    by_cases e : i = k + 1
    · subst e; exact ⟨[], by simp⟩
    · obtain ⟨r, hr⟩ := dotsL_pre W f (i := i) (k := k) (by omega)
      show ∃ r, (if f k = true then dotsL W f k ++ [((k : Int) % W, (k : Int) / W)] else dotsL W f k) = _
      split
      · exact ⟨r ++ [((k : Int) % W, (k : Int) / W)], by rw [hr, List.append_assoc]⟩
      · exact ⟨r, hr⟩
theorem dotsL_yes {W : Int} {f : Nat → Bool} {k : Nat} (h : f k = true) : dotsL W f (k + 1) = dotsL W f k ++ [((k : Int) % W, (k : Int) / W)] := by simp [dotsL, h]
theorem dotsL_no {W : Int} {f : Nat → Bool} {k : Nat} (h : f k = false) : dotsL W f (k + 1) = dotsL W f k := by simp [dotsL, h]

section
variable {P : Program} {N : Sz} {X : List Nat} {w0 : World} {Q : Exit → Act → World → Prop} {L : List (Nat × Value)} {H : List Blk}
theorem gc_ghost {c : Code} (I : Nat → Act → World → Prop) (m : Nat) (h0 : ∀ a W, Fit N a L → Ow X w0 W H → I m a W)
    (round : ∀ k a W, I k a W → c.wp P (Exit.then (fun a W => ∃ k', k' < k ∧ I k' a W) Q) a W) : GC P N X w0 Q (.loop c) L H :=
  fun a W hF hO => wp_loop_ghost I m (h0 a W hF hO) round
theorem ext_one {W W' : World} {g : Nat} {t : TypeId} {cs : List Value} (h : W.heap[g]? = some (.cells cs.toArray t (0, 0))) (hO : Ow [g] W W' [⟨g, t, cs⟩]) : Ext W W' :=
  hO.ext_of (H' := [⟨g, t, cs⟩]) (fun k hk => by
    rw [List.mem_singleton] at hk
    subst hk
    exact (hO.own ⟨k, t, cs⟩ (by simp)).1.trans h.symm) rfl
theorem abides_ext {β : Type} {B : Nat} {J : β → World → Prop} (h : AbidesFrom B J) {s : β} {W W' : World} (hj : J s W) (e : Ext W W') : J s W' :=
  h s W W' none hj ⟨e.os, e.tape, e.output, e.size, fun k hk _ => e.block k hk⟩ (fun r hr => by cases hr)
theorem old_ids {w0 W : World} {H : List Blk} {A : Option Addr} {xs : List Value} (hr : Rd w0 A xs) (hn : 0 < xs.length) (hO : Ow [] w0 W H) : bl A ∉ H.map Blk.g := by
  intro hm
  obtain ⟨b, hb, hg⟩ := List.mem_map.1 hm
  have hc := (hr 0 hn).2
  rw [List.getElem?_eq_getElem hn] at hc
  have h1 := World.block_lt_of_cell? _ _ hc
  rcases (hO.own b hb).2 with h | h
  · simp only at h1; omega
  · cases h
theorem mark_notin {W : World} {D : Nat} {ds : Option (List Deferred)} (hO : Ow X w0 W H) (hK : W.heap[D]? = some (.deferred ds)) : D ∉ H.map Blk.g := by
  intro hm
  obtain ⟨b, hb, hg⟩ := List.mem_map.1 hm
  rw [← hg, (hO.own b hb).1] at hK
  cases hK
theorem ids_mark {W : World} {D : Nat} (hO : Ow X w0 W H) (hD : w0.heap.size ≤ D) : ∀ y ∈ D :: H.map Blk.g, w0.heap.size ≤ y ∨ y ∈ X := fun y hy => by
  rcases List.mem_cons.1 hy with rfl | hy
  · exact .inl hD
  · exact hO.ids y hy
end

/-! ### a part is pasted -/
def pasteF (m W H : Int) (n : Nat) (f : Nat → Bool) (pW pH : Int) (pn : Nat) (p : Nat → Bool) (x y : Int) (j : Nat) : Bool :=
  if 0 ≤ (j : Int) % W - nearI m x ∧ (j : Int) % W - nearI m x < pW ∧ 0 ≤ (j : Int) / W - nearI m y ∧ (j : Int) / W - nearI m y < pH then atB pW pH pn p ((j : Int) % W - nearI m x) ((j : Int) / W - nearI m y) else atB W H n f ((j : Int) % W) ((j : Int) / W)
theorem cell_bd {W H : Int} {n j : Nat} (hv : vldB W H n = true) (hj : j < n) : 0 ≤ (j : Int) % W ∧ (j : Int) % W < W ∧ 0 ≤ (j : Int) / W ∧ (j : Int) / W < H ∧ (j : Int) / W * W + (j : Int) % W = j := by
  obtain ⟨v1, v2, v3, v4, v5, v6⟩ := vldB_iff.1 hv
  refine ⟨Int.emod_nonneg _ (by omega), Int.emod_lt_of_pos _ (by omega), Int.ediv_nonneg (by omega) (by omega), Int.ediv_lt_of_lt_mul (by omega) (by rw [Int.mul_comm]; omega), ?_⟩
  have := Int.mul_ediv_add_emod j W
  rw [Int.mul_comm] at this
  exact this
theorem at_cell {W H : Int} {n j : Nat} {f : Nat → Bool} (hv : vldB W H n = true) (hj : j < n) : atB W H n f ((j : Int) % W) ((j : Int) / W) = f j := by
  obtain ⟨a, b, c, d, e⟩ := cell_bd hv hj
  unfold atB
  rw [hv, inB_iff.2 ⟨a, b, c, d⟩, e]
  simp
theorem paste_eq {W H pW pH x y : Int} {n pn j : Nat} {f p : Nat → Bool} (hv : vldB W H n = true) (hpv : vldB pW pH pn = true) (hj : j < n) :
    putF (nearI 8192 x) (nearI 8192 y) W pW pH f p j = pasteF 10000 W H n f pW pH pn p x y j := by
  obtain ⟨v1, v2, v3, v4, v5, v6⟩ := vldB_iff.1 hv
  obtain ⟨q1, q2, q3, q4, q5, q6⟩ := vldB_iff.1 hpv
  obtain ⟨a, b, c, d, e⟩ := cell_bd hv hj
  unfold putF pasteF
  by_cases h : nearI 8192 x ≤ (j : Int) % W ∧ (j : Int) % W < nearI 8192 x + pW ∧ nearI 8192 y ≤ (j : Int) / W ∧ (j : Int) / W < nearI 8192 y + pH
  · have hx : nearI 8192 x = nearI 10000 x := by unfold nearI at h ⊢; omega
    have hy : nearI 8192 y = nearI 10000 y := by unfold nearI at h ⊢; omega
    rw [if_pos h]
    rw [hx, hy] at h ⊢
    rw [if_pos (by omega)]
    unfold atB
    rw [hpv, inB_iff.2 (by omega)]
    simp
  · rw [if_neg h, if_neg (by unfold nearI at h ⊢; omega), at_cell hv hj]

/-! ### structs of numbers are compared -/
section
variable {P : Program} {N : Sz} {X : List Nat} {w0 : World} {L : List (Nat × Value)} {H : List Blk} {o : Oper}
def EqOk (P : Program) (xs ys : Array Value) : List Field → List Int → List Int → Prop
  | [], [], [] => True
  | f :: fs, a :: as, b :: bs => f.name ≠ "_" ∧ (∀ W, (Go.part f.type xs f.offset).run P W = .ok (.int .i64 a) W) ∧ (∀ W, (Go.part f.type ys f.offset).run P W = .ok (.int .i64 b) W) ∧ P.underlying f.type = some (.int .i64) ∧ EqOk P xs ys fs as bs
  | _, _, _ => False
theorem eqF_ints {d : Nat} {xs ys : Array Value} {W : World} : ∀ {fs : List Field} {as bs : List Int}, EqOk P xs ys fs as bs → (Op.eqFields (d + 1) xs ys fs).run P W = .ok (as == bs) W
  | [], [], [], _ => rfl
  | f :: fs, a :: as, b :: bs, h => by
    obtain ⟨h1, h2, h3, h4, h5⟩ := h
    have ih := eqF_ints (d := d) (W := W) h5
    unfold Op.eqFields
    rw [if_pos h1]
    simp only [Sem.run_bind, h2, h3, Result.andThen_ok, run_equalIn_int _ _ _ _ _ _ _ h4]
    by_cases e : a = b
    · subst e; simp [ih]
    · simp [e]
structure StEq (P : Program) (t : TypeId) : Prop where
  u : P.underlying t = some (.struct (P.fieldsOf t))
  h : P.stoodInHeld t = false
  g : P.eqGuardType P.depth t = false
theorem eo_eqA {t t2 : TypeId} {x y : Operand} {xs ys : Array Value} {as bs : List Int} (ho : o.op = .binOp .eql t x y t2) (hx : ev L x = some (.agg xs)) (hy : ev L y = some (.agg ys)) (hs : StEq P t) (he : EqOk P xs ys (P.fieldsOf t).toList as bs) : EO P N X w0 o L H (.bool (as == bs)) :=
  eo_val fun a W hF _ => by
    simp only [execOp, ho, hF.eval hx, hF.eval hy, Sem.run_bind, run_eqGuard_agg _ _ _ _ _ _ _ hs.g, Result.andThen_ok, run_eql_struct, run_equalIn_agg _ 9999 _ _ _ hs.u hs.h, eqF_ints he, Sem.run_pure]
theorem eo_neA {t t2 : TypeId} {x y : Operand} {xs ys : Array Value} {as bs : List Int} (ho : o.op = .binOp .neq t x y t2) (hx : ev L x = some (.agg xs)) (hy : ev L y = some (.agg ys)) (hs : StEq P t) (he : EqOk P xs ys (P.fieldsOf t).toList as bs) : EO P N X w0 o L H (.bool (!(as == bs))) :=
  eo_val fun a W hF _ => by
    simp only [execOp, ho, hF.eval hx, hF.eval hy, Sem.run_bind, run_eqGuard_agg _ _ _ _ _ _ _ hs.g, Result.andThen_ok, run_neq_struct, run_equalIn_agg _ 9999 _ _ _ hs.u hs.h, eqF_ints he, Sem.run_pure]
end

/-! ### the least box -/
def leftF (xs : List (Int × Int)) : Int := xs.foldl (fun t p => min t p.1) 4096
def rightF (xs : List (Int × Int)) : Int := xs.foldl (fun t p => max t p.1) (-1)
def topF (xs : List (Int × Int)) : Int := xs.foldl (fun t p => if t < 0 then p.2 else t) (-1)
def botF (xs : List (Int × Int)) : Int := xs.foldl (fun _ p => p.2) (-1)
theorem leftF_snoc (xs : List (Int × Int)) (x : Int × Int) : leftF (xs ++ [x]) = min (leftF xs) x.1 := by simp [leftF]
theorem rightF_snoc (xs : List (Int × Int)) (x : Int × Int) : rightF (xs ++ [x]) = max (rightF xs) x.1 := by simp [rightF]
theorem topF_snoc (xs : List (Int × Int)) (x : Int × Int) : topF (xs ++ [x]) = if topF xs < 0 then x.2 else topF xs := by unfold topF; rw [List.foldl_append]; rfl
theorem botF_snoc (xs : List (Int × Int)) (x : Int × Int) : botF (xs ++ [x]) = x.2 := by simp [botF]
/-- the least box, of a list of points -/
def boxOf (xs : List (Int × Int)) : Value := if topF xs < 0 then .tuple #[.agg #[.int .i64 0, .int .i64 0, .int .i64 0, .int .i64 0], .bool false]
  else .tuple #[.agg #[.int .i64 (leftF xs), .int .i64 (topF xs), .int .i64 (rightF xs - leftF xs + 1), .int .i64 (botF xs - topF xs + 1)], .bool true]
/-- all points lie within bounds, and their rows grow -/
structure InBox (a b : Int) (xs : List (Int × Int)) : Prop where
  l0 : 0 ≤ leftF xs
  l1 : leftF xs ≤ 4096
  r0 : -1 ≤ rightF xs
  r1 : rightF xs < a
  t0 : -1 ≤ topF xs
  t1 : topF xs < b
  b0 : -1 ≤ botF xs
  b1 : botF xs < b
theorem inBox_dots {W H : Int} {f : Nat → Bool} (hw : 1 ≤ W) (hh : 1 ≤ H) : ∀ {k : Nat}, (k : Int) ≤ W * H → InBox W H (dotsL W f k)
  | 0, _ => by
    refine ⟨?_, ?_, ?_, ?_, ?_, ?_, ?_, ?_⟩ <;> simp [dotsL, leftF, rightF, topF, botF] <;> omega
  | k + 1, h => by
    have ih := inBox_dots (W := W) (H := H) (f := f) hw hh (k := k) (by push_cast at h; omega)
    unfold dotsL
    split
    · have h0 : 0 ≤ (k : Int) % W := Int.emod_nonneg _ (by omega)
      have h1 : (k : Int) % W < W := Int.emod_lt_of_pos _ (by omega)
      have h2 : 0 ≤ (k : Int) / W := Int.ediv_nonneg (by omega) (by omega)
      have h3 : (k : Int) / W < H := Int.ediv_lt_of_lt_mul (by omega) (by rw [Int.mul_comm] ; push_cast at h; omega)
      obtain ⟨a1, a2, a3, a4, a5, a6, a7, a8⟩ := ih
      refine ⟨?_, ?_, ?_, ?_, ?_, ?_, ?_, ?_⟩ <;> simp only [leftF_snoc, rightF_snoc, topF_snoc, botF_snoc] <;> first | omega | (split <;> omega)
    · exact ih
theorem inBox_dotsV {W H : Int} {n : Nat} {f : Nat → Bool} : InBox 4097 4097 (dotsV W H n f) := by
  unfold dotsV
  split
  · rename_i hv
    obtain ⟨v1, v2, v3, v4, v5, v6⟩ := vldB_iff.1 hv
    obtain ⟨a1, a2, a3, a4, a5, a6, a7, a8⟩ := inBox_dots (f := f) v1 v3 (k := n) (by omega)
    exact ⟨a1, a2, a3, by omega, a5, by omega, a7, by omega⟩
  · exact ⟨by decide, by decide, by decide, by decide, by decide, by decide, by decide, by decide⟩
/-- what 'dark' hands back -/
def RDark (f : FuncId) (M : TypeId) (W H : Int) (A : Option Addr) (n c : Nat) (v : Value) (Hn : List Blk) : Prop :=
  ∃ g, v = .func (.func f) #[] #[.pointer (some ⟨g, 0, none⟩)] ∧ Hn = [⟨g, M, [.int .i64 W, .int .i64 H, .slice A n c]⟩]
end Go.Bs
