/-
  The engine's operations: what each reading operation gives, and what each writing one does, in terms of known slots and own blocks. No program is named here.
-/
import Derived.Test.YtnmiljloifbjeaaEng
namespace Go.Eng
open Go.RowKit

def aggD : TypeDesc → Bool
  | .struct _ => true
  | .array _ _ => true
  | _ => false
/-- a type of one cell -/
structure TyS (P : Program) (t : TypeId) : Prop where
  und : ∃ d, P.underlying t = some d ∧ aggD d = false
  info : (P.info? t).map (·.size) = some 1
/-- a struct's or an array's type of n cells -/
structure TyA (P : Program) (t : TypeId) (n : Nat) : Prop where
  und : ∃ d, P.underlying t = some d ∧ aggD d = true
  info : (P.info? t).map (·.size) = some n

theorem run_sizeOf {P : Program} {t : TypeId} {n : Nat} (h : (P.info? t).map (·.size) = some n) (W : World) : (sizeOf t).run P W = .ok n W := by
  cases hi : P.info? t with
  | none => rw [hi] at h; cases h
  | some i =>
    rw [hi] at h
    simp only [Option.map_some, Option.some.injEq] at h
    simp [sizeOf, typeInfo, hi, h]

theorem run_isAgg {P : Program} {t : TypeId} {d : TypeDesc} (h : P.underlying t = some d) (W : World) : (isAgg t).run P W = .ok (aggD d) W := by
  unfold isAgg
  simp only [Sem.run_bind, run_underlying h, Result.andThen_ok]
  cases d <;> simp [aggD]

section
variable {P : Program} {W : World}

theorem run_load {t : TypeId} (ht : TyS P t) {ad : Addr} {v : Value} (hc : W.cell? ad = some v) : (Instr.loadAt t (.pointer (some ad))).run P W = .ok v W := by
  obtain ⟨d, hd, ha⟩ := ht.und
  simp [Instr.loadAt, Instr.sureAddr, loadVar, run_isAgg hd, ha, load, Sem.run, hc]

theorem run_loadA {t : TypeId} {n : Nat} (ht : TyA P t n) {g o : Nat} {cs : List Value} (hl : cs.length = n) (hc : ∀ j, j < n → W.cell? ⟨g, o + j, none⟩ = cs[j]?) :
    (Instr.loadAt t (.pointer (some ⟨g, o, none⟩))).run P W = .ok (.agg cs.toArray) W := by
  obtain ⟨d, hd, ha⟩ := ht.und
  have hl2 : ∀ (m i : Nat) (acc : Array Value), i + m = n → (loadCellsFrom ⟨g, o, none⟩ i m acc).run P W = .ok (acc ++ (cs.drop i).toArray) W := by
    intro m
    induction m with
    | zero =>
      intro i acc hi
      have : cs.drop i = [] := List.drop_eq_nil_of_le (by omega)
      simp [loadCellsFrom, this]
    | succ m ih =>
      intro i acc hi
      have hlt : i < cs.length := by omega
      have hc' := hc i (by omega)
      rw [List.getElem?_eq_getElem hlt] at hc'
      have hr := ih (i + 1) (acc.push cs[i]) (by omega)
      simp only [loadCellsFrom, Addr.add_lit, Sem.run_bind, load, Sem.run, hc', Result.andThen_ok, hr]
      rw [List.drop_eq_getElem_cons hlt]
      simp
  have h1 := hl2 n 0 #[] (by omega)
  simp only [Instr.loadAt, Instr.sureAddr, loadVar, loadCells, Sem.run_bind, Sem.run_pure, Result.andThen_ok, run_isAgg hd, ha, if_true, run_sizeOf ht.info, h1]
  simp

theorem run_store {t : TypeId} (ht : TyS P t) {ad : Addr} {v u : Value} (h1 : v.oneCell' = true) (hc : W.cell? ad = some u) (hf : W.frozen? ad = false) :
    (Instr.storeAt t (.pointer (some ad)) v).run P W = .ok () (W.setCell ad v) := by
  have hs : v.cells = #[v] := by cases v <;> first | rfl | (simp [Value.oneCell'] at h1)
  have hadd : ad.add 0 = ad := Addr.add_zero' ad
  have hst : (store ad v).run P W = .ok () (W.setCell ad v) := by
    cases v <;> first | (simp [Value.oneCell'] at h1; done) | simp [store, Sem.run, hc, hf]
  simp [Instr.storeAt, Instr.sureAddr, storeVar, run_sizeOf ht.info, hs, storeCells, hadd, hst]
end

/-! ### slices that are read -/
def bl : Option Addr → Nat
  | some a => a.block
  | none => 0
def of : Option Addr → Nat
  | some a => a.off
  | none => 0
/-- a slice at A reads as xs -/
def Rd (w : World) (A : Option Addr) (xs : List Value) : Prop :=
  ∀ k, k < xs.length → A = some ⟨bl A, of A, none⟩ ∧ w.cell? ⟨bl A, of A + k, none⟩ = xs[k]?
theorem Rd.nil {w : World} {A : Option Addr} : Rd w A [] := fun _ h => absurd h (by simp)
theorem Rd.cell {w : World} {A : Option Addr} {xs : List Value} (h : Rd w A xs) {k : Nat} {v : Value} (hv : xs[k]? = some v) : w.cell? ⟨bl A, of A + k, none⟩ = some v := by
  have hk := (List.getElem?_eq_some_iff.1 hv).1
  exact (h k hk).2.trans hv
theorem Rd.ext {w w' : World} {A : Option Addr} {xs : List Value} (h : Rd w A xs) (e : Ext w w') : Rd w' A xs := by
  intro k hk
  obtain ⟨h1, h2⟩ := h k hk
  refine ⟨h1, ?_⟩
  rw [List.getElem?_eq_getElem hk] at h2 ⊢
  exact (Below.cell (p := ⟨bl A, of A + k, none⟩) e (World.block_lt_of_cell? w _ h2)).trans h2
theorem Rd.old {X : List Nat} {w0 w : World} {H : List Blk} {A : Option Addr} {xs : List Value} (h : Rd w0 A xs) (hO : Ow X w0 w H) (hX : bl A ∉ X) : Rd w A xs := by
  intro k hk
  obtain ⟨h1, h2⟩ := h k hk
  refine ⟨h1, ?_⟩
  rw [List.getElem?_eq_getElem hk] at h2 ⊢
  have hlt := World.block_lt_of_cell? w0 _ h2
  rw [World.cell?_of_block (w := w0) (hO.old _ hlt hX)]
  exact h2
theorem Rd.old0 {w0 w : World} {H : List Blk} {A : Option Addr} {xs : List Value} (h : Rd w0 A xs) (hO : Ow [] w0 w H) : Rd w A xs := h.old hO (by simp)
theorem Rd.own {X : List Nat} {w0 w : World} {H : List Blk} (hO : Ow X w0 w H) {i : Nat} {b : Blk} (hi : H[i]? = some b) {xs : List Value} (hp : ∀ (k : Nat) (v : Value), xs[k]? = some v → b.cs[k]? = some v) : Rd w (some ⟨b.g, 0, none⟩) xs := by
  intro k hk
  refine ⟨rfl, ?_⟩
  have h1 : xs[k]? = some xs[k] := List.getElem?_eq_getElem hk
  rw [h1]
  show w.cell? ⟨b.g, 0 + k, none⟩ = _
  rw [Nat.zero_add, hO.cell hi]
  exact hp k _ h1
theorem Rd.own_all {X : List Nat} {w0 w : World} {H : List Blk} (hO : Ow X w0 w H) {i : Nat} {b : Blk} (hi : H[i]? = some b) : Rd w (some ⟨b.g, 0, none⟩) b.cs := Rd.own hO hi (fun _ _ h => h)
/-- a cut of a slice -/
theorem Rd.cut {w : World} {b o : Nat} {xs : List Value} (h : Rd w (some ⟨b, o, none⟩) xs) (k n : Nat) : Rd w (some ⟨b, o + k, none⟩) ((xs.drop k).take n) := by
  intro j hj
  refine ⟨rfl, ?_⟩
  have h1 : j < n ∧ k + j < xs.length := by simp at hj; omega
  obtain ⟨_, h2⟩ := h (k + j) h1.2
  show w.cell? ⟨b, o + k + j, none⟩ = _
  rw [Nat.add_assoc]
  rw [List.getElem?_take_of_lt h1.1, List.getElem?_drop]
  exact h2

/-- a slice type and its element's -/
structure TySl (P : Program) (t e : TypeId) (sz : Nat) : Prop where
  und : P.underlying t = some (.slice e)
  info : (P.info? e).map (·.size) = some sz
/-- a field's place -/
def FieldAt (P : Program) (s : TypeId) (f off : Nat) : Prop :=
  ∃ fields fd n, P.underlying s = some (.struct fields) ∧ fields[f]? = some fd ∧ (P.info? fd.type).map (·.size) = some (n + 1) ∧ fd.offset = off
/-- a function with a body -/
def Ent (P : Program) (f : FuncId) : Prop := ∀ args W, (callFunc f args).run P W = .ok (.enter f args) W
theorem ent_of {P : Program} {f : FuncId} {fn : Func} (hf : P.funcs[f]? = some fn) (hn : (fn.name == "runtime.NumGoroutine") = false) (hb : fn.body.isNone = false) : Ent P f := by
  intro args W
  have h1 : ¬ fn.name = "runtime.NumGoroutine" := by simpa using hn
  have h2 : ¬ fn.body = none := by intro e; rw [e] at hb; cases hb
  simp [callFunc, hf, h1, h2]
theorem eval_const (a : Act) (v : Value) : a.eval (.const v) = v := rfl
theorem eval_func (a : Act) (f : FuncId) : a.eval (.func f) = .func (.func f) #[] #[] := rfl

theorem i64_in {z : Int} (h1 : -9223372036854775808 ≤ z) (h2 : z ≤ 9223372036854775807) : IntKind.i64.wrap z = z := by rw [IntKind.wrap_i64]; omega

section eo
variable {P : Program} {N : Sz} {X : List Nat} {w0 : World} {o : Oper} {L : List (Nat × Value)} {H : List Blk}

theorem eo_val {v : Value} (h : ∀ a W, Fit N a L → Ow X w0 W H → (execOp a.eval o).run P W = .ok (.value v) W) : EO P N X w0 o L H v := by
  intro a W hF hO
  unfold eAt
  rw [h a W hF hO]
  exact ⟨rfl, rfl⟩

theorem eo_mv {x : Operand} {v : Value} (ho : o.op = .move x) (hx : ev L x = some v) : EO P N X w0 o L H v :=
  eo_val fun a W hF _ => by simp [execOp, ho, hF.eval hx]
theorem eo_as {x : Operand} {v : Value} (ho : o.op = .assign x) (hx : ev L x = some v) : EO P N X w0 o L H v :=
  eo_val fun a W hF _ => by simp [execOp, ho, hF.eval hx]
theorem eo_pick {c x y : Operand} {b : Bool} {u v : Value} (ho : o.op = .pick c x y) (hc : ev L c = some (.bool b)) (hx : ev L x = some u) (hy : ev L y = some v) : EO P N X w0 o L H (if b then u else v) :=
  eo_val fun a W hF _ => by simp [execOp, ho, hF.eval hc, hF.eval hx, hF.eval hy, asBool]
theorem eo_and {c x : Operand} {b b2 : Bool} (ho : o.op = .pick c x (.const (.bool false))) (hc : ev L c = some (.bool b)) (hx : b = true → ev L x = some (.bool b2)) : EO P N X w0 o L H (.bool (b && b2)) :=
  eo_val fun a W hF _ => by
    cases b
    · simp [execOp, ho, hF.eval hc, asBool, eval_const]
    · simp [execOp, ho, hF.eval hc, hF.eval (hx rfl), asBool]
theorem eo_or {c x : Operand} {b b2 : Bool} (ho : o.op = .pick c (.const (.bool true)) x) (hc : ev L c = some (.bool b)) (hx : b = false → ev L x = some (.bool b2)) : EO P N X w0 o L H (.bool (b || b2)) :=
  eo_val fun a W hF _ => by
    cases b
    · simp [execOp, ho, hF.eval hc, hF.eval (hx rfl), asBool]
    · simp [execOp, ho, hF.eval hc, asBool, eval_const]
theorem eo_add {t t2 : TypeId} {x y : Operand} {m n : Int} (ho : o.op = .binOp .add t x y t2) (hx : ev L x = some (.int .i64 m)) (hy : ev L y = some (.int .i64 n)) (h1 : -9223372036854775808 ≤ m + n) (h2 : m + n ≤ 9223372036854775807) : EO P N X w0 o L H (.int .i64 (m + n)) :=
  eo_val fun a W hF _ => by simp [execOp, ho, hF.eval hx, hF.eval hy, eqGuard_add, binOp_add, Op.intArith, i64_in h1 h2]
theorem eo_sub {t t2 : TypeId} {x y : Operand} {m n : Int} (ho : o.op = .binOp .sub t x y t2) (hx : ev L x = some (.int .i64 m)) (hy : ev L y = some (.int .i64 n)) (h1 : -9223372036854775808 ≤ m - n) (h2 : m - n ≤ 9223372036854775807) : EO P N X w0 o L H (.int .i64 (m - n)) :=
  eo_val fun a W hF _ => by simp [execOp, ho, hF.eval hx, hF.eval hy, eqGuard_sub, binOp_sub, Op.intArith, i64_in h1 h2]
theorem eo_mul {t t2 : TypeId} {x y : Operand} {m n : Int} (ho : o.op = .binOp .mul t x y t2) (hx : ev L x = some (.int .i64 m)) (hy : ev L y = some (.int .i64 n)) (h1 : -9223372036854775808 ≤ m * n) (h2 : m * n ≤ 9223372036854775807) : EO P N X w0 o L H (.int .i64 (m * n)) :=
  eo_val fun a W hF _ => by simp [execOp, ho, hF.eval hx, hF.eval hy, eqGuard_mul, binOp_mul, Op.intArith, i64_in h1 h2]
theorem eo_quo {t t2 : TypeId} {x y : Operand} {m n : Int} (ho : o.op = .binOp .quo t x y t2) (hx : ev L x = some (.int .i64 m)) (hy : ev L y = some (.int .i64 n)) (h0 : 0 ≤ m) (hn : 1 ≤ n) (h2 : m ≤ 9223372036854775807) : EO P N X w0 o L H (.int .i64 (m / n)) :=
  eo_val fun a W hF _ => by
    have hz : ¬ n = 0 := by omega
    have e : m.tdiv n = m / n := Int.tdiv_eq_ediv_of_nonneg h0
    have b1 : 0 ≤ m / n := Int.ediv_nonneg h0 (by omega)
    have b2 : m / n ≤ m := Int.ediv_le_self n h0
    simp [execOp, ho, hF.eval hx, hF.eval hy, eqGuard_quo, binOp_quo, Op.intDiv, hz, e, i64_in (z := m / n) (by omega) (by omega)]
theorem eo_tquo {t t2 : TypeId} {x y : Operand} {m n : Int} (ho : o.op = .binOp .quo t x y t2) (hx : ev L x = some (.int .i64 m)) (hy : ev L y = some (.int .i64 n)) (hn : 1 ≤ n) (h1 : -9223372036854775808 ≤ m.tdiv n) (h2 : m.tdiv n ≤ 9223372036854775807) : EO P N X w0 o L H (.int .i64 (m.tdiv n)) :=
  eo_val fun a W hF _ => by
    have hz : ¬ n = 0 := by omega
    simp [execOp, ho, hF.eval hx, hF.eval hy, eqGuard_quo, binOp_quo, Op.intDiv, hz, i64_in h1 h2]
theorem eo_rem {t t2 : TypeId} {x y : Operand} {m n : Int} (ho : o.op = .binOp .rem t x y t2) (hx : ev L x = some (.int .i64 m)) (hy : ev L y = some (.int .i64 n)) (h0 : 0 ≤ m) (hn : 1 ≤ n) : EO P N X w0 o L H (.int .i64 (m % n)) :=
  eo_val fun a W hF _ => by
    have hz : ¬ n = 0 := by omega
    have e : m.tmod n = m % n := Int.tmod_eq_emod_of_nonneg h0
    simp [execOp, ho, hF.eval hx, hF.eval hy, eqGuard_rem, binOp_rem, Op.intDiv, hz, e]
theorem eo_trem {t t2 : TypeId} {k : IntKind} {x y : Operand} {m n : Int} (ho : o.op = .binOp .rem t x y t2) (hx : ev L x = some (.int k m)) (hy : ev L y = some (.int k n)) (hn : 1 ≤ n) : EO P N X w0 o L H (.int k (m.tmod n)) :=
  eo_val fun a W hF _ => by
    have hz : ¬ n = 0 := by omega
    simp [execOp, ho, hF.eval hx, hF.eval hy, eqGuard_rem, binOp_rem, Op.intDiv, hz]
theorem eo_eql {t t2 : TypeId} {k : IntKind} {x y : Operand} {m n : Int} (ho : o.op = .binOp .eql t x y t2) (hx : ev L x = some (.int k m)) (hy : ev L y = some (.int k n)) : EO P N X w0 o L H (.bool (decide (m = n))) :=
  eo_val fun a W hF _ => by
    have : (m == n) = decide (m = n) := by rw [Bool.eq_iff_iff]; simp
    simp [execOp, ho, hF.eval hx, hF.eval hy, eqGuard_at_int, binOp_eql, this]
theorem eo_neq {t t2 : TypeId} {k : IntKind} {x y : Operand} {m n : Int} (ho : o.op = .binOp .neq t x y t2) (hx : ev L x = some (.int k m)) (hy : ev L y = some (.int k n)) : EO P N X w0 o L H (.bool (decide (m ≠ n))) :=
  eo_val fun a W hF _ => by
    have : (m != n) = decide (m ≠ n) := by rw [Bool.eq_iff_iff]; simp
    simp [execOp, ho, hF.eval hx, hF.eval hy, eqGuard_at_int, binOp_neq, this]
theorem eo_lss {t t2 : TypeId} {k : IntKind} {x y : Operand} {m n : Int} (ho : o.op = .binOp .lss t x y t2) (hx : ev L x = some (.int k m)) (hy : ev L y = some (.int k n)) : EO P N X w0 o L H (.bool (decide (m < n))) :=
  eo_val fun a W hF _ => by simp [execOp, ho, hF.eval hx, hF.eval hy, eqGuard_lss, binOp_lss]
theorem eo_leq {t t2 : TypeId} {k : IntKind} {x y : Operand} {m n : Int} (ho : o.op = .binOp .leq t x y t2) (hx : ev L x = some (.int k m)) (hy : ev L y = some (.int k n)) : EO P N X w0 o L H (.bool (decide (m ≤ n))) :=
  eo_val fun a W hF _ => by simp [execOp, ho, hF.eval hx, hF.eval hy, eqGuard_leq, binOp_leq]
theorem eo_gtr {t t2 : TypeId} {k : IntKind} {x y : Operand} {m n : Int} (ho : o.op = .binOp .gtr t x y t2) (hx : ev L x = some (.int k m)) (hy : ev L y = some (.int k n)) : EO P N X w0 o L H (.bool (decide (n < m))) :=
  eo_val fun a W hF _ => by simp [execOp, ho, hF.eval hx, hF.eval hy, eqGuard_gtr, binOp_gtr]
theorem eo_geq {t t2 : TypeId} {k : IntKind} {x y : Operand} {m n : Int} (ho : o.op = .binOp .geq t x y t2) (hx : ev L x = some (.int k m)) (hy : ev L y = some (.int k n)) : EO P N X w0 o L H (.bool (decide (n ≤ m))) :=
  eo_val fun a W hF _ => by simp [execOp, ho, hF.eval hx, hF.eval hy, eqGuard_geq, binOp_geq]
theorem eo_not {t : TypeId} {x : Operand} {b : Bool} (ho : o.op = .unOp .not t x) (hx : ev L x = some (.bool b)) : EO P N X w0 o L H (.bool (!b)) :=
  eo_val fun a W hF _ => by simp [execOp, ho, hF.eval hx, Op.unary]
theorem eo_neg {t : TypeId} {x : Operand} {m : Int} (ho : o.op = .unOp .neg t x) (hx : ev L x = some (.int .i64 m)) (h1 : -9223372036854775807 ≤ m) (h2 : m ≤ 9223372036854775807) : EO P N X w0 o L H (.int .i64 (-m)) :=
  eo_val fun a W hF _ => by
    have e : IntKind.i64.wrap (0 - m) = -m := by rw [i64_in (by omega) (by omega)]; omega
    simp [execOp, ho, hF.eval hx, Op.unary, Op.intArith] 
    simpa using e
theorem eo_conv {s d : TypeId} {k k' : IntKind} {x : Operand} {m : Int} (ho : o.op = .convert s d x) (hx : ev L x = some (.int k m)) (hs : ∃ u, P.underlying s = some u) (hd : P.underlying d = some (.int k')) : EO P N X w0 o L H (.int k' (k'.wrap m)) :=
  eo_val fun a W hF _ => by
    obtain ⟨u, hu⟩ := hs
    simp [execOp, ho, hF.eval hx, convert, run_underlying hu, run_underlying hd, Conv.intToInt]
theorem eo_convi {s d : TypeId} {k : IntKind} {x : Operand} {m : Int} (ho : o.op = .convert s d x) (hx : ev L x = some (.int k m)) (hs : ∃ u, P.underlying s = some u) (hd : P.underlying d = some (.int .i64)) (h1 : -9223372036854775808 ≤ m) (h2 : m ≤ 9223372036854775807) : EO P N X w0 o L H (.int .i64 m) := by
  have := eo_conv (P := P) (N := N) (X := X) (w0 := w0) (H := H) ho hx hs hd
  rwa [i64_in h1 h2] at this
theorem run_equal_bool {t : TypeId} {p q : Bool} (ht : P.underlying t = some .bool) (W : World) : (Op.equal t (.bool p) (.bool q)).run P W = .ok (p == q) W := by
  show (Op.equalIn (9999 + 1) t (.bool p) (.bool q)).run P W = _
  rw [Op.equalIn]
  simp only [Sem.run_bind, run_underlying ht, Result.andThen_ok, Sem.run_pure]
theorem eo_beql {t t2 : TypeId} {x y : Operand} {p q : Bool} (ho : o.op = .binOp .eql t x y t2) (hx : ev L x = some (.bool p)) (hy : ev L y = some (.bool q)) (ht : P.underlying t = some .bool) : EO P N X w0 o L H (.bool (p == q)) :=
  eo_val fun a W hF _ => by
    have e : binOp .eql t (.bool p) (.bool q) = (do pure (.bool (← Op.equal t (.bool p) (.bool q)))) := rfl
    simp only [execOp, ho, hF.eval hx, hF.eval hy, eqGuard_at_bool, e, Sem.run_bind, Sem.run_pure, Result.andThen_ok, run_equal_bool ht]
theorem eo_bneq {t t2 : TypeId} {x y : Operand} {p q : Bool} (ho : o.op = .binOp .neq t x y t2) (hx : ev L x = some (.bool p)) (hy : ev L y = some (.bool q)) (ht : P.underlying t = some .bool) : EO P N X w0 o L H (.bool (p != q)) :=
  eo_val fun a W hF _ => by
    have e : binOp .neq t (.bool p) (.bool q) = (do pure (.bool (!(← Op.equal t (.bool p) (.bool q))))) := rfl
    simp only [execOp, ho, hF.eval hx, hF.eval hy, eqGuard_at_bool, e, Sem.run_bind, Sem.run_pure, Result.andThen_ok, run_equal_bool ht]
    rfl
theorem eo_slnil {t e : TypeId} {t2 : TypeId} {x : Operand} {A : Option Addr} {n c : Nat} (ho : o.op = .binOp .eql t x (.const (.slice none 0 0)) t2) (hx : ev L x = some (.slice A n c)) (ht : P.underlying t = some (.slice e)) : EO P N X w0 o L H (.bool A.isNone) :=
  eo_val fun a W hF _ => by
    have e1 : binOp .eql t (.slice A n c) (.slice none 0 0) = (do pure (.bool (← Op.equal t (.slice A n c) (.slice none 0 0)))) := rfl
    have e2 : (Op.equal t (.slice A n c) (.slice none 0 0)).run P W = .ok A.isNone W := by
      show (Op.equalIn (9999 + 1) t (.slice A n c) (.slice none 0 0)).run P W = _
      rw [Op.equalIn]
      cases A <;> simp only [Sem.run_bind, run_underlying ht, Result.andThen_ok, Sem.run_pure, Option.isNone]
    simp only [execOp, ho, hF.eval hx, eval_const, eqGuard_at_slice, e1, Sem.run_bind, Sem.run_pure, Result.andThen_ok, e2]
/-- a load out of an own block -/
theorem eo_load {t : TypeId} {x : Operand} {g k : Nat} {v : Value} (i : Nat) {b : Blk} (ho : o.op = .load t x) (ht : TyS P t) (hx : ev L x = some (.pointer (some ⟨g, k, none⟩))) (hi : H[i]? = some b) (hg : b.g = g) (hv : b.cs[k]? = some v) : EO P N X w0 o L H v :=
  eo_val fun a W hF hO => by
    have hc : W.cell? ⟨g, k, none⟩ = some v := by rw [← hg, hO.cell hi]; exact hv
    simp [execOp, ho, hF.eval hx, run_load ht hc]
/-- a load out of old memory -/
theorem eo_load_old {t : TypeId} {x : Operand} {g k : Nat} {v : Value} (ho : o.op = .load t x) (ht : TyS P t) (hx : ev L x = some (.pointer (some ⟨g, k, none⟩))) (hc : w0.cell? ⟨g, k, none⟩ = some v) (hX : g ∉ X) : EO P N X w0 o L H v :=
  eo_val fun a W hF hO => by
    have hlt := World.block_lt_of_cell? w0 _ hc
    have hc' : W.cell? ⟨g, k, none⟩ = some v := by rw [World.cell?_of_block (w := w0) (hO.old _ hlt hX)]; exact hc
    simp [execOp, ho, hF.eval hx, run_load ht hc']
/-- a whole struct out of an own block -/
theorem eo_loadA {t : TypeId} {x : Operand} {g n : Nat} (i : Nat) {b : Blk} (ho : o.op = .load t x) (ht : TyA P t n) (hx : ev L x = some (.pointer (some ⟨g, 0, none⟩))) (hi : H[i]? = some b) (hg : b.g = g) (hn : b.cs.length = n) : EO P N X w0 o L H (.agg b.cs.toArray) :=
  eo_val fun a W hF hO => by
    have hr := run_loadA (P := P) (W := W) ht (g := g) (o := 0) (cs := b.cs) hn (fun j _ => by rw [Nat.zero_add, ← hg]; exact hO.cell hi j)
    simp [execOp, ho, hF.eval hx, hr]
/-- a struct out of the midst of an own block -/
theorem eo_loadM {t : TypeId} {x : Operand} {g n k : Nat} {cs : List Value} (i : Nat) {b : Blk} (ho : o.op = .load t x) (ht : TyA P t n) (hx : ev L x = some (.pointer (some ⟨g, k, none⟩))) (hi : H[i]? = some b) (hg : b.g = g) (hn : cs.length = n) (hc : ∀ j, j < n → b.cs[k + j]? = cs[j]?) : EO P N X w0 o L H (.agg cs.toArray) :=
  eo_val fun a W hF hO => by
    have hr := run_loadA (P := P) (W := W) ht (g := g) (o := k) (cs := cs) hn (fun j hj => by rw [← hg, hO.cell hi]; exact hc j hj)
    simp [execOp, ho, hF.eval hx, hr]
theorem eo_field {s : TypeId} {x : Operand} {f g k off : Nat} (ho : o.op = .fieldAddr s x f) (hf : FieldAt P s f off) (hx : ev L x = some (.pointer (some ⟨g, k, none⟩))) : EO P N X w0 o L H (.pointer (some ⟨g, k + off, none⟩)) :=
  eo_val fun a W hF _ => by
    obtain ⟨fields, fd, n, hu, hfd, hsz, rfl⟩ := hf
    have hz := run_sizeOf (P := P) hsz W
    simp [execOp, ho, hF.eval hx, Instr.fieldAt, run_underlying hu, hfd, Instr.sureAddr, fieldPlace, hz, Addr.add_lit]
theorem eo_index {t e : TypeId} {k : IntKind} {x y : Operand} {g off n c : Nat} {i : Int} (ho : o.op = .indexAddr t x y) (ht : TySl P t e 1) (hx : ev L x = some (.slice (some ⟨g, off, none⟩) n c)) (hy : ev L y = some (.int k i)) (h0 : 0 ≤ i) (h1 : i < n) : EO P N X w0 o L H (.pointer (some ⟨g, off + i.toNat, none⟩)) :=
  eo_val fun a W hF _ => by
    have hz := run_sizeOf (P := P) ht.info W
    simp [execOp, ho, hF.eval hx, hF.eval hy, Instr.indexAt, run_underlying ht.und, asIntOf, h0, h1, hz, Addr.add_lit]
theorem eo_indexN {t e : TypeId} {sz : Nat} {k : IntKind} {x y : Operand} {g off n c : Nat} {i : Int} (ho : o.op = .indexAddr t x y) (ht : TySl P t e sz) (hx : ev L x = some (.slice (some ⟨g, off, none⟩) n c)) (hy : ev L y = some (.int k i)) (h0 : 0 ≤ i) (h1 : i < n) : EO P N X w0 o L H (.pointer (some ⟨g, off + i.toNat * sz, none⟩)) :=
  eo_val fun a W hF _ => by
    have hz := run_sizeOf (P := P) ht.info W
    simp [execOp, ho, hF.eval hx, hF.eval hy, Instr.indexAt, run_underlying ht.und, asIntOf, h0, h1, hz, Addr.add_lit]
/-- an index into a slice that is known by its reading -/
theorem eo_indexR {t e : TypeId} {k : IntKind} {x y : Operand} {A : Option Addr} {n c : Nat} {i : Int} {xs : List Value} {w : World} (ho : o.op = .indexAddr t x y) (ht : TySl P t e 1) (hx : ev L x = some (.slice A n c)) (hy : ev L y = some (.int k i)) (hr : Rd w A xs) (hn : n = xs.length) (h0 : 0 ≤ i) (h1 : i < n) : EO P N X w0 o L H (.pointer (some ⟨bl A, of A + i.toNat, none⟩)) := by
  have hA := (hr i.toNat (by omega)).1
  rw [hA] at hx
  exact eo_index ho ht hx hy h0 h1
theorem eo_len {t : TypeId} {e : TypeId} {x : Operand} {A : Option Addr} {n c : Nat} (ho : o.op = .call { callee := .builtin .len, args := #[x], argTypes := #[t] }) (ht : P.underlying t = some (.slice e)) (hx : ev L x = some (.slice A n c)) : EO P N X w0 o L H (.int .i64 n) :=
  eo_val fun a W hF _ => by simp [execOp, ho, hF.eval hx, resolve, invoke, builtin, Builtin.len_, run_underlying ht, goInt]
theorem eo_lenS {t : TypeId} {x : Operand} {s : ByteArray} (ho : o.op = .call { callee := .builtin .len, args := #[x], argTypes := #[t] }) (ht : P.underlying t = some .string) (hx : ev L x = some (.string s)) : EO P N X w0 o L H (.int .i64 s.size) :=
  eo_val fun a W hF _ => by simp [execOp, ho, hF.eval hx, resolve, invoke, builtin, Builtin.len_, run_underlying ht, goInt]
theorem eo_min {t t2 : TypeId} {k : IntKind} {x y : Operand} {m n : Int} (ho : o.op = .call { callee := .builtin .min, args := #[x, y], argTypes := #[t, t2] }) (hx : ev L x = some (.int k m)) (hy : ev L y = some (.int k n)) : EO P N X w0 o L H (.int k (min m n)) :=
  eo_val fun a W hF _ => by
    have e : (if n < m then n else m) = min m n := by omega
    simp [execOp, ho, hF.eval hx, hF.eval hy, resolve, invoke, builtin, Builtin.min_, Builtin.min2, e]
theorem eo_max {t t2 : TypeId} {k : IntKind} {x y : Operand} {m n : Int} (ho : o.op = .call { callee := .builtin .max, args := #[x, y], argTypes := #[t, t2] }) (hx : ev L x = some (.int k m)) (hy : ev L y = some (.int k n)) : EO P N X w0 o L H (.int k (max m n)) :=
  eo_val fun a W hF _ => by
    have e : (if m < n then n else m) = max m n := by omega
    simp [execOp, ho, hF.eval hx, hF.eval hy, resolve, invoke, builtin, Builtin.max_, Builtin.max2, e]
theorem eo_extract {x : Operand} {i : Nat} {vs : List Value} {v : Value} (ho : o.op = .extract x i) (hx : ev L x = some (.tuple vs.toArray)) (hv : vs[i]? = some v) : EO P N X w0 o L H v :=
  eo_val fun a W hF _ => by simp [execOp, ho, hF.eval hx, Instr.extract, hv]
theorem eo_build {t : TypeId} {parts : List (Nat × Operand)} {vs : List (Nat × Value)} {v : Value} (ho : o.op = .build t parts.toArray) (hp : evp L parts = some vs) (hb : ∀ W, (Instr.build t vs.toArray).run P W = .ok v W) : EO P N X w0 o L H v :=
  eo_val fun a W hF _ => by
    have e : (parts.toArray.map fun (i, x) => (i, a.eval x)) = vs.toArray := by rw [← hF.evalp hp]; simp
    simp [execOp, ho, e, hb]
theorem eo_makeFunc {fn : Fn} {first captured : List Operand} {us vs : List Value} (ho : o.op = .makeFunc fn first.toArray captured.toArray) (h1 : evs L first = some us) (h2 : evs L captured = some vs) : EO P N X w0 o L H (.func fn us.toArray vs.toArray) :=
  eo_val fun a W hF _ => by
    have e1 := hF.evals h1
    have e2 := hF.evals h2
    simp [execOp, ho, Instr.makeFunc, e1, e2]
theorem eo_sl {t e : TypeId} {sz : Nat} {kl kh : IntKind} {x y z : Operand} {A : Option Addr} {n c : Nat} {l h : Int} (ho : o.op = .slice t x (some y) (some z) none) (ht : TySl P t e sz) (hx : ev L x = some (.slice A n c)) (hy : ev L y = some (.int kl l)) (hz : ev L z = some (.int kh h)) (h0 : 0 ≤ l) (h1 : l ≤ h) (h2 : h ≤ c) :
    EO P N X w0 o L H (.slice (if c = l.toNat then A else A.map (·.add (l.toNat * sz))) (h.toNat - l.toNat) (c - l.toNat)) :=
  eo_val fun a W hF _ => by
    have hs := run_sizeOf (P := P) ht.info W
    have c1 : 0 ≤ h ∧ h ≤ c := ⟨by omega, h2⟩
    have c2 : 0 ≤ l ∧ l ≤ h.toNat := ⟨h0, by omega⟩
    simp [execOp, ho, hF.eval hx, hF.eval hy, hF.eval hz, Instr.sliceAt, run_underlying ht.und, Instr.slice, Instr.sliceBounds, Instr.sliceBound, asIntOf, c1, c2, hs]
    intro hh
    exact absurd hh (by omega)
/-- a call that leaves what was there -/
theorem eo_call {f : FuncId} {args : List Operand} {tys : Array TypeId} {vs : List Value} {v : Value} (ho : o.op = .call { callee := .value (.func f), args := args.toArray, argTypes := tys }) (hE : Ent P f) (hv : evs L args = some vs)
    (hc : ∀ W, Ow X w0 W H → Calls P f vs.toArray W fun e W' => e = .returned v ∧ Ext W W') : EO P N X w0 o L H v := by
  intro a W hF hO
  have e1 : args.map a.eval = vs := hF.evals hv
  have hr : (execOp a.eval o).run P W = .ok (.enter f vs.toArray) W := by
    simp [execOp, ho, resolve, Deferred.ofValue, invoke, eval_func, e1, hE _ _]
  unfold eAt
  rw [hr]
  exact ⟨rfl, hc W hO⟩
/-- a call of a function value -/
theorem eo_callv {f : FuncId} {fx : Operand} {first captured : List Value} {args : List Operand} {tys : Array TypeId} {vs : List Value} {v : Value} (ho : o.op = .call { callee := .value fx, args := args.toArray, argTypes := tys }) (hfx : ev L fx = some (.func (.func f) first.toArray captured.toArray)) (hE : Ent P f) (hv : evs L args = some vs)
    (hc : ∀ W, Ow X w0 W H → Calls P f (first ++ vs ++ captured).toArray W fun e W' => e = .returned v ∧ Ext W W') : EO P N X w0 o L H v := by
  intro a W hF hO
  have e1 : args.map a.eval = vs := hF.evals hv
  have hr : (execOp a.eval o).run P W = .ok (.enter f (first ++ vs ++ captured).toArray) W := by
    simp [execOp, ho, resolve, hF.eval hfx, Deferred.ofValue, invoke, e1, hE _ _]
  unfold eAt
  rw [hr]
  exact ⟨rfl, hc W hO⟩
end eo
end Go.Eng
