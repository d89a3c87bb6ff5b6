/-
  Numbers by limbs: plain facts, and a few operations on words of 64 bits. No program is named here.
-/
import Derived.Test.YtcdhbikginpogaaLaw
import Derived.Test.YtcdhbikginpogaaSr
import Derived.Test.YtcdhbikginpogaaMo
namespace Go.Eng
open Go.RowKit
section mixed
variable {P : Program} {N : Sz} {X : List Nat} {w0 : World} {l : List Oper} {Q : Exit → Act → World → Prop} {L : List (Nat × Value)} {H H0 : List Blk}
/-- readings of the blocks H0, which the region does not change -/
theorem gc_drawK {id : Nat} (ms : List (Nat × Bool)) (hs : H0.Sublist H) (hm : P.follows .mixedOrders = true) (hB : (Region.noSelect l.toArray && (ms.length == l.length) && mixM l ms (Array.replicate l.length false)) = true)
    (h : GMs P N X w0 l H0 ms L H fun L' H' => GQ N X w0 (NQ Q) .normal L' H') : GC P N X w0 Q (.region id l.toArray true) L H := by
  simp only [Bool.and_eq_true, beq_iff_eq] at hB
  obtain ⟨⟨hsel, hlen⟩, hb⟩ := hB
  refine fun a W hF hO => wpIn_wide.1 (Code.wpIn_mono (F := Fw none) (n := 0) NQ.out (wpIn_region_any hm ?_))
  rw [show l.toArray.size = l.length by simp]
  refine wpAny_of_wpR (ro := none) (n := 0) (Z := wpAnyIn (Fw none) 0 P .any l.toArray (NQ Q)) (S := fun W => Ow X w0 W H0) (xs := fun _ => false) (fun _ _ _ _ h => h) _ _ _ _ (hO.drew.sub hs) ?_
  rw [← hlen]
  rw [← hlen] at hb
  exact r_mix hsel (fun _ _ _ h => h) ms _ L H (closed_none _) hb h a _ hF hO.drew
theorem mu {op : Op} {ty : TypeId} {pos : String} {af : Array Edge} {R : Value → List Blk → Prop} {i : Nat} {ms : List (Nat × Bool)} {K : List (Nat × Value) → List Blk → Prop} (ho : l[i]? = some ⟨none, op, ty, pos, af, none⟩) (hx : XO P N X w0 ⟨none, op, ty, pos, af, none⟩ L H R)
    (h : ∀ v H', R v H' → H0.Sublist H' ∧ GMs P N X w0 l H0 ms L H' K) : GMs P N X w0 l H0 ((i, false) :: ms) L H K := ⟨_, R, ho, fun _ _ => by simp [Region.wanted], rfl, hx, h⟩
/-! reads, new blocks, then plain steps in any order, then the rest by turns -/
def mixPB (l : List Oper) (es as ps ts : List Nat) : Bool :=
  Region.noSelect l.toArray && phaseB l es (Array.replicate l.length false) && forcedB l as (listAll (Array.replicate l.length false) es) &&
  phaseB l ps (listAll (listAll (Array.replicate l.length false) es) as) && forcedB l ts (listAll (listAll (listAll (Array.replicate l.length false) es) as) ps) &&
  (Region.ready .any l.toArray (listAll (listAll (listAll (listAll (Array.replicate l.length false) es) as) ps) ts)).isEmpty &&
  (es.length + (as.length + (ps.length + ts.length)) == l.length) && (Region.ready .any l.toArray (listAll (listAll (Array.replicate l.length false) es) as)).all (ps ++ ts).contains &&
  (ps ++ ts).all (fun j => chainB l [j] && sinkB l (es ++ as) (some j)) && as.all (fun i => !((ps ++ ts).contains i)) && Nat.blt 0 (ps.length + ts.length)
theorem r_open {ro : Option Nat} {n : Nat} {us : List Nat} {f : Nat} {listed : Array Bool} (hf : 0 < f) (hall : (Region.ready .any l.toArray listed).all us.contains = true)
    (h : ∀ a W, Fit N a L → Ow X w0 W H → wpAnyIn (Fw ro) n P .any l.toArray Q f listed a W) :
    ∀ a W, Fit N a L → Ow X w0 W H → wpR ro n P l.toArray Q (wpAnyIn (Fw ro) n P .any l.toArray Q) (fun W => Ow X w0 W H0) us.contains f listed a W := fun a W hF hO => by
  obtain ⟨f, rfl⟩ : ∃ k, f = k + 1 := ⟨f - 1, by omega⟩
  intro w1 e _
  obtain ⟨h1, h2⟩ := h a w1 hF (hO.ext e)
  refine ⟨h1, fun j hj => wpOpIn_mono (fun a' w' h' => ?_) (h2 j hj)⟩
  rw [if_pos (List.all_eq_true.1 hall j hj)]
  exact h'
theorem gc_drawP {id : Nat} (es as ps ts : List Nat) (hm : P.follows .mixedOrders = true) (hB : mixPB l es as ps ts = true)
    (h : GEs P N X w0 l H es L fun L2 => GAs P N X w0 l H as L2 H fun L3 H3 => GPs P N l ps L3 fun L4 => GI none 0 P N X w0 l (NQ Q) ts L4 H3) :
    GC P N X w0 Q (.region id l.toArray true) L H := by
  simp only [mixPB, Bool.and_eq_true, beq_iff_eq, List.isEmpty_iff] at hB
  obtain ⟨⟨⟨⟨⟨⟨⟨⟨⟨⟨hsel, hes⟩, has⟩, hps⟩, hts⟩, hend⟩, hlen⟩, hall⟩, hch⟩, hXa⟩, hpos⟩ := hB
  have hpos : 0 < ps.length + ts.length := Nat.lt_of_lt_of_eq (Nat.le_of_ble_eq_true hpos) rfl
  have hQ : ∀ c a w, ¬ NQ Q (.panic c) a w := fun _ _ _ h => h
  have c0 := closed_none (ops := l.toArray) l.length
  have hXd : ∀ i ∈ es ++ as, ∀ listed, Closed l.toArray listed → listed.getD i true = false → ∀ j ∈ Region.ready .any l.toArray listed, (ps ++ ts).contains j = false := fun i hi listed hcl hun j hj => by
    cases hb : (ps ++ ts).contains j with
    | false => rfl
    | true =>
      have hc := List.all_eq_true.1 hch j (by simpa using hb)
      simp only [Bool.and_eq_true] at hc
      have := no_write_before hc.1 (ts := [j]) hc.2 hi listed hcl hun j hj
      simp at this
  refine fun a W hF hO => wpIn_wide.1 (Code.wpIn_mono (F := Fw none) (n := 0) NQ.out (wpIn_region_any hm ?_))
  have hsz : l.toArray.size = es.length + (as.length + (ps.length + ts.length)) := by simp; omega
  rw [hsz]
  have hrep : Array.replicate (es.length + (as.length + (ps.length + ts.length))) false = Array.replicate l.length false := by congr 1
  rw [hrep]
  refine wpAny_of_wpR (Z := wpAnyIn (Fw none) 0 P .any l.toArray (NQ Q)) (S := fun W => Ow X w0 W H) (xs := (ps ++ ts).contains) (fun _ _ _ _ h => h) _ _ _ _ hO.drew ?_
  refine r_reads (T := fun W => Ow X w0 W H) nd_none hsel hQ es _ L c0 hes (fun i hi => hXd i (List.mem_append_left _ hi)) h ?_ a _ hF hO.drew
  intro L2 h2 a W hF hO
  refine r_news nd_none as _ L2 H has (fun i hi => by simpa using List.all_eq_true.1 hXa i hi) h2 ?_ a W hF hO
  intro L3 H3 h3 a W hF hO
  refine r_open hpos hall (fun a W hF hO => ?_) a W hF hO
  refine any_pure nd_none hsel hQ ps _ L3 hps h3 ?_ a W hF hO
  intro L4 h4 a W hF hO
  exact any_of_ops ts _ a W hts hend (h4 nd_none a W hF hO)
theorem po_extract {o : Oper} {x : Operand} {k : Nat} {vs : List Value} {v : Value} (ho : o.op = .extract x k) (hx : ev L x = some (.tuple vs.toArray)) (hk : vs[k]? = some v) : ∀ a W, Fit N a L → (execOp a.eval o).run P W = .ok (.value v) W :=
  fun a W hF => by simp [execOp, ho, hF.eval hx, Instr.extract, hk]
end mixed
end Go.Eng
namespace Go.Bs
open Go.RowKit Go.Eng

section
variable {P : Program} {N : Sz} {X : List Nat} {w0 : World} {o : Oper} {L : List (Nat × Value)} {H : List Blk}
theorem eo_low {s d : TypeId} {k : IntKind} {x : Operand} {m : Int} (ho : o.op = .convert s d x) (hx : ev L x = some (.int k m)) (hs : ∃ u, P.underlying s = some u) (hd : P.underlying d = some (.int .u32)) : EO P N X w0 o L H (.int .u32 (m % 4294967296)) := by
  have h := eo_conv (P := P) (N := N) (X := X) (w0 := w0) (H := H) ho hx hs hd
  rwa [IntKind.wrap_u32] at h
theorem eo_wide {s d : TypeId} {k : IntKind} {x : Operand} {m : Int} (ho : o.op = .convert s d x) (hx : ev L x = some (.int k m)) (hs : ∃ u, P.underlying s = some u) (hd : P.underlying d = some (.int .u64)) : EO P N X w0 o L H (.int .u64 (m % 18446744073709551616)) := by
  have h := eo_conv (P := P) (N := N) (X := X) (w0 := w0) (H := H) ho hx hs hd
  rwa [IntKind.wrap_u64] at h
theorem eo_high {t t2 : TypeId} {yk : IntKind} {x y : Operand} {m : Int} (ho : o.op = .binOp .shr t x y t2) (hx : ev L x = some (.int .u64 m)) (hy : ev L y = some (.int yk 32)) : EO P N X w0 o L H (.int .u64 (m / 4294967296)) :=
  eo_val fun a W hF _ => by
    have e : m.fdiv 4294967296 = m / 4294967296 := Int.fdiv_eq_ediv_of_nonneg m (by decide)
    simp [execOp, ho, hF.eval hx, hF.eval hy, eqGuard, binOp, Op.shift, e, IntKind.bits]
theorem eo_negw {t : TypeId} {x : Operand} {m : Int} (ho : o.op = .unOp .neg t x) (hx : ev L x = some (.int .u64 m)) : EO P N X w0 o L H (.int .u64 ((-m) % 18446744073709551616)) :=
  eo_val fun a W hF _ => by
    have e : IntKind.u64.wrap (0 - m) = (-m) % 18446744073709551616 := by rw [IntKind.wrap_u64, Int.zero_sub]
    simp [execOp, ho, hF.eval hx, Op.unary, Op.intArith]
    simpa using e
theorem eo_quow {t t2 : TypeId} {x y : Operand} {m n : Int} (ho : o.op = .binOp .quo t x y t2) (hx : ev L x = some (.int .u64 m)) (hy : ev L y = some (.int .u64 n)) (h0 : 0 ≤ m) (hn : 1 ≤ n) (h2 : m ≤ 18446744073709551615) : EO P N X w0 o L H (.int .u64 (m / n)) :=
  eo_val fun a W hF _ => by
    have hz : ¬ n = 0 := by omega
    have e : m.tdiv n = m / n := Int.tdiv_eq_ediv_of_nonneg h0
    have b1 : 0 ≤ m / n := Int.ediv_nonneg h0 (by omega)
    have b2 : m / n ≤ m := Int.ediv_le_self n h0
    simp [execOp, ho, hF.eval hx, hF.eval hy, eqGuard_quo, binOp_quo, Op.intDiv, hz, e, u64_in (z := m / n) (by omega) (by omega)]
theorem eo_absw {t : TypeId} {x : Operand} {n : Int} (ho : o.op = .unOp .neg t x) (hx : ev L x = some (.int .u64 (n % 18446744073709551616))) (h0 : -9223372036854775808 ≤ n) (h1 : n < 0) : EO P N X w0 o L H (.int .u64 (-n)) := by
  have h := eo_negw (P := P) (N := N) (X := X) (w0 := w0) (H := H) ho hx
  rwa [show (-(n % 18446744073709551616)) % 18446744073709551616 = -n by omega] at h
theorem eo_slArr {t e : TypeId} {len sz : Nat} {x : Operand} {g : Nat} (ho : o.op = .slice t x none none none) (ht : P.underlying t = some (.array len e)) (hz : (P.info? e).map (·.size) = some sz) (hx : ev L x = some (.pointer (some ⟨g, 0, none⟩))) :
    EO P N X w0 o L H (.slice (some ⟨g, 0, none⟩) len len) :=
  eo_val fun a W hF _ => by
    have hs := Go.Eng.run_sizeOf (P := P) hz W
    simp [execOp, ho, hF.eval hx, Instr.sliceAt, run_underlying ht, Instr.sliceBounds, Instr.sureAddr, hs, Addr.add]
end

def BB (k : Nat) : Int := 4294967296 ^ k
theorem BB_zero : BB 0 = 1 := rfl
theorem BB_succ {k : Nat} : BB (k + 1) = BB k * 4294967296 := Int.pow_succ _ _
theorem BB_pos {k : Nat} : 1 ≤ BB k := by
  induction k with
  | zero => exact Int.le_refl _
  | succ k ih => rw [BB_succ]; omega
theorem BB_mono {j k : Nat} (h : j ≤ k) : BB j ≤ BB k := by
  induction k with
  | zero => rw [show j = 0 by omega]; exact Int.le_refl _
  | succ k ih =>
    by_cases c : j = k + 1
    · rw [c]; exact Int.le_refl _
    · have := ih (by omega)
      have := BB_pos (k := k)
      rw [BB_succ]
      omega
/-- the value of n limbs -/
def val (f : Nat → Int) : Nat → Int
  | 0 => 0
  | n + 1 => val f n + f n * BB n
theorem val_succ {f : Nat → Int} {n : Nat} : val f (n + 1) = val f n + f n * BB n := rfl
def Lm (n : Nat) (f : Nat → Int) : Prop := ∀ i, i < n → 0 ≤ f i ∧ f i ≤ 4294967295
theorem Lm.le {n k : Nat} {f : Nat → Int} (h : Lm n f) (hk : k ≤ n) : Lm k f := fun i hi => h i (by omega)
theorem val_bd {n : Nat} {f : Nat → Int} (h : Lm n f) : 0 ≤ val f n ∧ val f n < BB n := by
  induction n with
  | zero => exact ⟨Int.le_refl _, by rw [BB_zero]; exact Int.zero_lt_one⟩
  | succ n ih =>
    have i := ih (h.le (by omega))
    have b := h n (by omega)
    have p := BB_pos (k := n)
    have q0 : 0 ≤ f n * BB n := Int.mul_nonneg b.1 (by omega)
    have q1 : f n * BB n ≤ 4294967295 * BB n := Int.mul_le_mul_of_nonneg_right b.2 (by omega)
    rw [val_succ, BB_succ]
    omega
theorem val_ext {n : Nat} {f g : Nat → Int} (h : ∀ i, i < n → f i = g i) : val f n = val g n := by
  induction n with
  | zero => rfl
  | succ n ih => rw [val_succ, val_succ, ih fun i hi => h i (by omega), h n (by omega)]
theorem val_upd {n k : Nat} {f : Nat → Int} {v : Int} (h : k < n) : val (upd f k v) n = val f n + (v - f k) * BB k := by
  induction n with
  | zero => omega
  | succ n ih =>
    rw [val_succ, val_succ]
    by_cases c : k = n
    · subst c
      rw [upd_eq, val_ext (g := f) fun i hi => upd_ne (by omega), Int.sub_mul]
      omega
    · rw [ih (by omega), upd_ne (by omega)]
      omega
theorem val_zero {n : Nat} : val (fun _ => 0) n = 0 := by
  induction n with
  | zero => rfl
  | succ n ih => rw [val_succ, ih]; simp
/-- the length without the zeros at the end -/
def tl (f : Nat → Int) : Nat → Nat
  | 0 => 0
  | n + 1 => if f n = 0 then tl f n else n + 1
theorem tl_le {f : Nat → Int} {n : Nat} : tl f n ≤ n := by
  induction n with
  | zero => exact Nat.le_refl _
  | succ n ih => unfold tl; split <;> omega
theorem tl_val {f : Nat → Int} {n : Nat} : val f (tl f n) = val f n := by
  induction n with
  | zero => rfl
  | succ n ih =>
    unfold tl
    split
    · rename_i h
      rw [ih, val_succ, h, Int.zero_mul, Int.add_zero]
    · rfl
theorem tl_nz {f : Nat → Int} {n : Nat} : tl f n = 0 ∨ f (tl f n - 1) ≠ 0 := by
  induction n with
  | zero => exact .inl rfl
  | succ n ih =>
    unfold tl
    split
    · exact ih
    · rename_i h
      exact .inr h
theorem tl_drop {f : Nat → Int} {n : Nat} (h : f (n - 1) = 0) (h1 : 1 ≤ n) : tl f n = tl f (n - 1) := by
  obtain ⟨k, rfl⟩ : ∃ k, n = k + 1 := ⟨n - 1, by omega⟩
  show (if f k = 0 then _ else _) = _
  rw [if_pos (by simpa using h)]
  rfl
theorem tl_stop {f : Nat → Int} {n : Nat} (h : n = 0 ∨ f (n - 1) ≠ 0) : tl f n = n := by
  cases n with
  | zero => rfl
  | succ k =>
    show (if f k = 0 then _ else _) = _
    rw [if_neg (by simpa using h)]
/-- n limbs are the number z, without zeros at the end -/
structure Nm (z : Int) (m : Nat) (f : Nat → Int) : Prop where
  lm : Lm m f
  nz : m = 0 ∨ f (m - 1) ≠ 0
  eq : val f m = z
theorem Nm.tl {n : Nat} {f : Nat → Int} (h : Lm n f) : Nm (val f n) (tl f n) f := ⟨h.le tl_le, tl_nz, tl_val⟩
theorem Nm.low {z : Int} {m : Nat} {f : Nat → Int} (h : Nm z m f) (h1 : 1 ≤ m) : BB (m - 1) ≤ z := by
  obtain ⟨k, rfl⟩ : ∃ k, m = k + 1 := ⟨m - 1, by omega⟩
  rw [← h.eq, val_succ]
  have b := val_bd (h.lm.le (Nat.le_succ k))
  have c := h.lm k (by omega)
  have d : f k ≠ 0 := by simpa using h.nz
  have p := BB_pos (k := k)
  have q : 1 * BB k ≤ f k * BB k := Int.mul_le_mul_of_nonneg_right (by omega) (by omega)
  simp only [Nat.add_sub_cancel]
  omega
theorem Nm.zero {z : Int} {m : Nat} {f : Nat → Int} (h : Nm z m f) : m = 0 ↔ z = 0 := by
  refine ⟨fun e => by rw [← h.eq, e]; rfl, fun e => ?_⟩
  by_cases c : m = 0
  · exact c
  · have := h.low (by omega)
    have := BB_pos (k := m - 1)
    omega
theorem Nm.pos {z : Int} {m : Nat} {f : Nat → Int} (h : Nm z m f) : 0 ≤ z := by rw [← h.eq]; exact (val_bd h.lm).1
theorem Nm.few {z : Int} {m : Nat} {f : Nat → Int} (h : Nm z m f) (hz : z ≤ 10000000000000000000000000000000000000000) : m ≤ 5 := by
  by_cases c : m ≤ 5
  · exact c
  · have a := h.low (by omega)
    have b := BB_mono (j := 5) (k := m - 1) (by omega)
    have d : BB 5 = 1461501637330902918203684832716283019655932542976 := by decide
    omega
theorem Nm.lt {z y : Int} {m k : Nat} {f g : Nat → Int} (h : Nm z m f) (h2 : Nm y k g) (hl : m < k) : z < y := by
  have a := (val_bd h.lm).2
  have b := h2.low (by omega)
  have c := BB_mono (j := m) (k := k - 1) (by omega)
  rw [h.eq] at a
  omega
/-- comparing -/
def cmpZ (a b : Int) : Int := if a < b then -1 else if b < a then 1 else 0
theorem cmpZ_lt {a b : Int} (h : a < b) : cmpZ a b = -1 := by unfold cmpZ; rw [if_pos h]
theorem cmpZ_gt {a b : Int} (h : b < a) : cmpZ a b = 1 := by unfold cmpZ; rw [if_neg (by omega), if_pos h]
theorem cmpZ_eq {a b : Int} (h : a = b) : cmpZ a b = 0 := by unfold cmpZ; rw [if_neg (by omega), if_neg (by omega)]
theorem top_lt {f g : Nat → Int} {n k : Nat} (hf : Lm n f) (hg : Lm n g) (hk : k < n) (hI : val f n - val f (k + 1) = val g n - val g (k + 1)) (h : f k < g k) : val f n < val g n := by
  rw [val_succ, val_succ] at hI
  have a := val_bd (hf.le (show k ≤ n by omega))
  have b := val_bd (hg.le (show k ≤ n by omega))
  have p := BB_pos (k := k)
  have q : (f k + 1) * BB k ≤ g k * BB k := Int.mul_le_mul_of_nonneg_right (by omega) (by omega)
  rw [Int.add_mul] at q
  omega
theorem top_eq {f g : Nat → Int} {n k : Nat} (hI : val f n - val f (k + 1) = val g n - val g (k + 1)) (h1 : ¬ f k < g k) (h2 : ¬ g k < f k) : val f n - val f k = val g n - val g k := by
  have e : f k = g k := by omega
  rw [val_succ, val_succ, e] at hI
  omega
/-- limbs beyond the end are zero -/
def exF (m : Nat) (f : Nat → Int) (i : Nat) : Int := if i < m then f i else 0
theorem ex_val {m n : Nat} {f : Nat → Int} (h : m ≤ n) : val (exF m f) n = val f m := by
  induction n with
  | zero => rw [show m = 0 by omega]; rfl
  | succ n ih =>
    by_cases c : m ≤ n
    · rw [val_succ, ih c]
      unfold exF
      rw [if_neg (by omega)]
      omega
    · rw [show m = n + 1 by omega]
      exact val_ext fun i hi => by unfold exF; rw [if_pos hi]
theorem ex_lm {m n : Nat} {f : Nat → Int} (h : Lm m f) : Lm n (exF m f) := fun i _ => by
  unfold exF
  split
  · exact h i (by assumption)
  · omega
/-- the product of the limbs, row by row -/
structure Mo (f : Nat → Int) (n : Nat) (g : Nat → Int) (m i : Nat) (p : Nat → Int) : Prop where
  lm : Lm (n + m) p
  zs : ∀ q, i + m ≤ q → p q = 0
  eq : val p (i + m) = val f i * val g m
structure Mi (f : Nat → Int) (n : Nat) (g : Nat → Int) (m i j : Nat) (c : Int) (p : Nat → Int) : Prop where
  lm : Lm (n + m) p
  cb : 0 ≤ c ∧ c ≤ 4294967295
  zs : ∀ q, i + m ≤ q → p q = 0
  eq : val p (i + m) + c * BB (i + j) = val f i * val g m + f i * val g j * BB i
theorem mo_new {f g : Nat → Int} {n m : Nat} : Mo f n g m 0 (fun _ => 0) := ⟨fun _ _ => by simp, fun _ _ => rfl, by rw [val_zero]; simp [val]⟩
theorem mi_new {f g p : Nat → Int} {n m i : Nat} (h : Mo f n g m i p) : Mi f n g m i 0 0 p := ⟨h.lm, by omega, h.zs, by rw [h.eq]; simp [val]⟩
theorem BB_add {i j : Nat} : BB (i + j) = BB i * BB j := Int.pow_add _ _ _
theorem mul_lm {x y : Int} (hx : 0 ≤ x ∧ x ≤ 4294967295) (hy : 0 ≤ y ∧ y ≤ 4294967295) : 0 ≤ x * y ∧ x * y ≤ 18446744065119617025 := by
  refine ⟨Int.mul_nonneg hx.1 hy.1, ?_⟩
  have := Int.mul_le_mul hx.2 hy.2 hy.1 (by decide)
  omega
theorem mi_step {f g p : Nat → Int} {n m i j : Nat} {c lo hi : Int} (h : Mi f n g m i j c p) (hf : Lm n f) (hg : Lm m g) (hi1 : i < n) (hj : j < m)
    (hl : lo = (f i * g j + p (i + j) + c) % 4294967296) (hh : hi = (f i * g j + p (i + j) + c) / 4294967296) : Mi f n g m i (j + 1) hi (upd p (i + j) lo) := by
  have a := mul_lm (hf i hi1) (hg j hj)
  have b := h.lm (i + j) (by omega)
  have d := h.cb
  refine ⟨fun q hq => ?_, by omega, fun q hq => ?_, ?_⟩
  · by_cases e : q = i + j
    · rw [e, upd_eq]; omega
    · rw [upd_ne e]; exact h.lm q hq
  · rw [upd_ne (by omega)]; exact h.zs q hq
  · have e := h.eq
    have hs : f i * g j + p (i + j) + c = lo + hi * 4294967296 := by omega
    rw [val_upd (by omega), val_succ, show i + (j + 1) = i + j + 1 by omega, BB_succ]
    have e1 : f i * (val g j + g j * BB j) * BB i = f i * val g j * BB i + f i * g j * BB (i + j) := by
      rw [BB_add, Int.mul_add, Int.add_mul]
      congr 1
      rw [Int.mul_assoc, Int.mul_assoc, Int.mul_assoc, Int.mul_comm (BB j)]
    have e2 : (lo - p (i + j)) * BB (i + j) + hi * (BB (i + j) * 4294967296) = (f i * g j + c) * BB (i + j) := by
      rw [show f i * g j + c = (lo - p (i + j)) + hi * 4294967296 by omega, Int.add_mul, Int.mul_assoc hi, Int.mul_comm (BB (i + j)) 4294967296]
    rw [Int.add_mul] at e2
    rw [e1]
    omega
theorem mo_step {f g p : Nat → Int} {n m i : Nat} {c : Int} (h : Mi f n g m i m c p) (_hi : i < n) : Mo f n g m (i + 1) (upd p (i + m) c) := by
  refine ⟨fun q hq => ?_, fun q hq => ?_, ?_⟩
  · by_cases e : q = i + m
    · rw [e, upd_eq]; exact h.cb
    · rw [upd_ne e]; exact h.lm q hq
  · rw [upd_ne (by omega)]; exact h.zs q (by omega)
  · rw [show i + 1 + m = i + m + 1 by omega, val_succ, val_succ, upd_eq, val_ext (g := p) fun q hq => upd_ne (by omega), h.eq, Int.add_mul]
    congr 1
    rw [Int.mul_assoc, Int.mul_assoc, Int.mul_comm (val g m)]
theorem mo_end {f g p : Nat → Int} {n m : Nat} {x y : Int} (h : Mo f n g m n p) (hx : Nm x n f) (hy : Nm y m g) : Nm (x * y) (tl p (n + m)) p := by
  have := Nm.tl h.lm
  rwa [h.eq, hx.eq, hy.eq] at this
/-- a slice of limbs -/
structure NS where
  A : Option Addr
  m : Nat
  c : Nat
  f : Nat → Int
structure NS.Ok (z : Int) (S : List Blk) (p : NS) : Prop where
  le : p.m ≤ p.c
  nm : Nm z p.m p.f
  rd : Rds S p.A (tab p.m (iv .u32 p.f))
def nab (z : Int) : Int := if z < 0 then -z else z
theorem nab_mul {x y : Int} : nab x * nab y = nab (x * y) := by
  unfold nab
  by_cases a : x < 0 <;> by_cases b : y < 0
  · rw [if_pos a, if_pos b, if_neg (by have := Int.mul_pos_of_neg_of_neg a b; omega), Int.neg_mul_neg]
  · rw [if_pos a, if_neg b]
    by_cases c : y = 0
    · subst c; simp
    · rw [if_pos (Int.mul_neg_of_neg_of_pos a (by omega)), Int.neg_mul]
  · rw [if_neg a, if_pos b]
    by_cases c : x = 0
    · subst c; simp
    · rw [if_pos (Int.mul_neg_of_pos_of_neg (by omega) b), Int.mul_neg]
  · rw [if_neg a, if_neg b, if_neg (by have := Int.mul_nonneg (show 0 ≤ x by omega) (show 0 ≤ y by omega); omega)]
theorem nab_pos {z : Int} : 0 ≤ nab z := by unfold nab; split <;> omega
theorem nab_zero {z : Int} : nab z = 0 ↔ z = 0 := by unfold nab; split <;> omega
/-- results: a number without a sign, with a sign, and with an error number -/
def RN (z : Int) (v : Value) (S : List Blk) : Prop := ∃ p : NS, v = .slice p.A p.m p.c ∧ p.Ok z S
def RI (z : Int) (v : Value) (S : List Blk) : Prop := ∃ p : NS, v = .agg #[.bool (decide (z < 0)), .slice p.A p.m p.c] ∧ p.Ok (nab z) S
def RIE (z : Int) (v : Value) (S : List Blk) : Prop := ∃ p : NS, v = .tuple #[.agg #[.bool (decide (z < 0)), .slice p.A p.m p.c], .int .i64 0] ∧ p.Ok (nab z) S
/-- without limbs, the slice is none at all -/
def nsz (p : NS) : NS := if p.m = 0 then ⟨none, 0, 0, p.f⟩ else p
theorem NS.Ok.nsz {z : Int} {S : List Blk} {p : NS} (h : p.Ok z S) : (nsz p).Ok z S := by
  unfold Go.Bs.nsz
  split
  · rename_i c
    exact ⟨Nat.le_refl _, ⟨fun i hi => absurd hi (by simp), .inl rfl, by rw [h.nm.zero.1 c]; rfl⟩, fun _ _ _ _ => Rd.nil⟩
  · exact h
theorem Rds.pre {S : List Blk} {A : Option Addr} {n k : Nat} {F : Nat → Int} (h : Rds S A (tab n (iv .u32 F))) (hk : k ≤ n) : Rds S A (tab k (iv .u32 F)) := fun _ _ _ hO => Rd.pre (h.rd hO) hk
section
variable {w W : World} {H : List Blk}
theorem rn_own {z : Int} {n k c g : Nat} {e : TypeId} {f : Nat → Int} {sp : List Value} (i : Nat) (hO : Ow [] w W H) (hi : H[i]? = some ⟨g, e, tab n (iv .u32 f) ++ sp⟩) (hk : k ≤ n) (hc : k ≤ c) (hm : Nm z k f) :
    ∃ v Hn, Ending.returned (.slice (some ⟨g, 0, none⟩) k c) = .returned v ∧ RN z v Hn ∧ Ow [] w W Hn :=
  ⟨_, _, rfl, ⟨⟨_, k, c, f⟩, rfl, ⟨hc, hm, Rds.pre rds_own hk⟩⟩, hO.pick i hi⟩
theorem ri_pass {b : Bool} {z : Int} {S : List Blk} {p : NS} (hO : Ow [] w W S) (hp : p.Ok (nab z) S) (hb : b = decide (z < 0)) :
    ∃ v Hn, Ending.returned (.agg #[.bool b, .slice p.A p.m p.c]) = .returned v ∧ RI z v Hn ∧ Ow [] w W Hn := by
  subst hb
  exact ⟨_, _, rfl, ⟨p, rfl, hp⟩, hO⟩
theorem rie_pass {b : Bool} {z : Int} {S : List Blk} {p : NS} (hO : Ow [] w W S) (hp : p.Ok (nab z) S) (hb : b = decide (z < 0)) :
    ∃ v Hn, Ending.returned (.tuple #[.agg #[.bool b, .slice p.A p.m p.c], .int .i64 0]) = .returned v ∧ RIE z v Hn ∧ Ow [] w W Hn := by
  subst hb
  exact ⟨_, _, rfl, ⟨p, rfl, hp⟩, hO⟩
end
theorem sign_of {z : Int} {p : NS} {S : List Blk} {b : Bool} (hp : p.Ok (nab z) S) (hb : z ≠ 0 → b = decide (z < 0)) : (b && decide (p.m ≠ 0)) = decide (z < 0) := by
  by_cases c : p.m = 0
  · have := nab_zero.1 (hp.nm.zero.1 c)
    subst this
    simp [c]
  · rw [hb fun e => c (hp.nm.zero.2 (nab_zero.2 e))]
    simp [c]
theorem rn_as {w W : World} {H : List Blk} {z : Int} {k n : Nat} {e : TypeId} {f : Nat → Int} {s : AS} (i : Nat) (hO : Ow [] w W H) (hH : H.drop i = s.blks e (tab k (iv .u32 f))) (hs : s.Ok 1 k (tab k (iv .u32 f))) (hk : k = tl f n) (hl : Lm n f) (hz : val f n = z) :
    ∃ v Hn, Ending.returned (s.val k) = .returned v ∧ RN z v Hn ∧ Ow [] w W Hn := by
  subst hk
  subst hz
  rw [AS.val_eq hs]
  exact ⟨_, _, rfl, ⟨⟨_, _, _, f⟩, rfl, ⟨as_le hs, Nm.tl hl, rds_as hs⟩⟩, hO.tl i hH (List.Sublist.refl _)⟩
section
variable {P : Program} {N : Sz} {X : List Nat} {w0 : World} {o : Oper} {L : List (Nat × Value)} {H : List Blk}
theorem xo_grabS {t e : TypeId} {z : Value} {bytes : Nat} {x y : Operand} {m c g0 : Nat} {F : Nat → Value} {A : Option Addr} {T : List Blk} (ho : o.op = .call { callee := .builtin .append, args := #[x, y], argTypes := #[t, t] }) (ht : P.underlying t = some (.slice e)) (he : TyEN P e z 1 bytes)
    (hx : ev L x = some (.slice (some ⟨g0, 0, none⟩) 0 0)) (hy : ev L y = some (.slice A m c)) (hr : ∀ W, Ow X w0 W (⟨g0, e, []⟩ :: T) → Rd W A (tab m F)) (h1 : ∀ u ∈ tab m F, u.oneCell' = true) (hb : m ≤ 1073741824) (hby : bytes ≤ 64) :
    XO P N X w0 o L (⟨g0, e, []⟩ :: T) (RApp T e 1 m (tab m F)) := by
  have hp : (⟨g0, e, []⟩ :: T).Perm (T ++ [⟨g0, e, []⟩]) := (List.perm_append_singleton (⟨g0, e, []⟩ : Blk) T).symm
  have h := xo_append (P := P) (N := N) (X := X) (w0 := w0) (L := L) (H := T ++ [⟨g0, e, []⟩]) (s := .at_ g0 [] 0) (n := 0) (xs := []) (news := tab m F) T rfl ho ht he hx ⟨by omega, by decide, rfl, rfl⟩ hy (by simp) (fun W hO => hr W (hO.perm hp.symm)) h1 (by simp only [maxLen]; omega) (Nat.le_trans (Nat.mul_le_mul (show 0 + m ≤ 1073741824 by omega) hby) (by omega))
  rw [Nat.zero_add, List.nil_append] at h
  exact xo_perm hp h
end
theorem sg_ne {z y : Int} (h : (decide (z < 0) != decide (y < 0)) = true) : (z < 0 ∧ ¬ y < 0) ∨ (¬ z < 0 ∧ y < 0) := by
  by_cases a : z < 0 <;> by_cases b : y < 0 <;> simp [a, b] at h ⊢
theorem sg_eq {z y : Int} (h : (decide (z < 0) != decide (y < 0)) = false) : (z < 0 ∧ y < 0) ∨ (¬ z < 0 ∧ ¬ y < 0) := by
  by_cases a : z < 0 <;> by_cases b : y < 0 <;> simp [a, b] at h ⊢
theorem rn_copy {w W : World} {H : List Blk} {z : Int} {k c g n : Nat} {e : TypeId} {f : Nat → Int} {sp : List Value} (i : Nat) (hO : Ow [] w W H) (hi : H[i]? = some ⟨g, e, tab k (iv .u32 f) ++ sp⟩) (hk : k = tl f n) (hc : k ≤ c) (hl : Lm n f) (hz : val f n = z) :
    ∃ v Hn, Ending.returned (.slice (some ⟨g, 0, none⟩) k c) = .returned v ∧ RN z v Hn ∧ Ow [] w W Hn := by
  subst hk
  subst hz
  exact rn_own i hO hi (Nat.le_refl _) hc (Nm.tl hl)
theorem sign_lt {z : Int} {p : NS} {S : List Blk} {b : Bool} (hp : p.Ok (nab z) S) (hb : z ≠ 0 → b = decide (z < 0)) : (b && decide (0 < (p.m : Int))) = decide (z < 0) := by
  rw [← sign_of hp hb]
  congr 1
  exact decide_eq_decide.2 (by omega)
theorem cmpx_lt {x y : Int} {f g : Nat → Int} {m k N j : Nat} (hx : Nm x m f) (hy : Nm y k g) (hm : m ≤ N) (hk : k ≤ N) (hj : j < N) (hI : val (exF m f) N - val (exF m f) (j + 1) = val (exF k g) N - val (exF k g) (j + 1)) (h : exF m f j < exF k g j) : x < y := by
  rw [← hx.eq, ← hy.eq, ← ex_val hm, ← ex_val hk]
  exact top_lt (ex_lm hx.lm) (ex_lm hy.lm) hj hI h
theorem cmpx_eq {x y : Int} {f g : Nat → Int} {m k N : Nat} (hx : Nm x m f) (hy : Nm y k g) (hm : m ≤ N) (hk : k ≤ N) (hI : val (exF m f) N - val (exF m f) 0 = val (exF k g) N - val (exF k g) 0) : x = y := by
  rw [← hx.eq, ← hy.eq, ← ex_val hm, ← ex_val hk]
  simp only [val] at hI
  omega
theorem int_nil {b : Bool} {p : NS} (h : p.m = 0) : Ending.returned (.agg #[.bool false, .slice none 0 0]) = .returned (.agg #[.bool (b && decide (p.m ≠ 0)), .slice (nsz p).A (nsz p).m (nsz p).c]) := by
  unfold nsz
  rw [if_pos h]
  simp [h]
theorem int_some {b : Bool} {p : NS} (h : p.m ≠ 0) : Ending.returned (.agg #[.bool b, .slice p.A p.m p.c]) = .returned (.agg #[.bool (b && decide (p.m ≠ 0)), .slice (nsz p).A (nsz p).m (nsz p).c]) := by
  unfold nsz
  rw [if_neg h]
  simp [h]
theorem nab_n {z : Int} (h : z < 0) : nab z = -z := if_pos h
theorem nab_p {z : Int} (h : ¬ z < 0) : nab z = z := if_neg h
theorem cmp_nn {z y : Int} (h1 : z < 0) (h2 : y < 0) : cmpZ (nab y) (nab z) = cmpZ z y := by
  rw [nab_n h1, nab_n h2]
  unfold cmpZ
  by_cases a : z < y
  · rw [if_pos a, if_pos (by omega)]
  · rw [if_neg a, if_neg (by omega)]
    by_cases b : y < z
    · rw [if_pos b, if_pos (by omega)]
    · rw [if_neg b, if_neg (by omega)]
theorem cmp_pp {z y : Int} (h1 : ¬ z < 0) (h2 : ¬ y < 0) : cmpZ (nab z) (nab y) = cmpZ z y := by rw [nab_p h1, nab_p h2]
theorem sign_mul {z y : Int} (h : z * y ≠ 0) : (decide (z < 0) != decide (y < 0)) = decide (z * y < 0) := by
  have hz : z ≠ 0 := fun e => h (by rw [e]; simp)
  have hy : y ≠ 0 := fun e => h (by rw [e]; simp)
  by_cases a : z < 0 <;> by_cases b : y < 0
  · have := Int.mul_pos_of_neg_of_neg a b
    rw [decide_eq_true a, decide_eq_true b, decide_eq_false (by omega)]; rfl
  · have := Int.mul_neg_of_neg_of_pos a (show 0 < y by omega)
    rw [decide_eq_true a, decide_eq_false b, decide_eq_true this]; rfl
  · have := Int.mul_neg_of_pos_of_neg (show 0 < z by omega) b
    rw [decide_eq_false a, decide_eq_true b, decide_eq_true this]; rfl
  · have := Int.mul_pos (show 0 < z by omega) (show 0 < y by omega)
    rw [decide_eq_false a, decide_eq_false b, decide_eq_false (by omega)]; rfl
theorem word_nm {u : Int} (h0 : 0 ≤ u) (h1 : u ≤ 18446744073709551615) : Nm u (tl (litF 0 [u % 4294967296, u / 4294967296]) 2) (litF 0 [u % 4294967296, u / 4294967296]) := by
  have l : Lm 2 (litF 0 [u % 4294967296, u / 4294967296]) := fun i hi => by
    rcases (show i = 0 ∨ i = 1 by omega) with rfl | rfl
    · show 0 ≤ u % 4294967296 ∧ u % 4294967296 ≤ 4294967295
      omega
    · show 0 ≤ u / 4294967296 ∧ u / 4294967296 ≤ 4294967295
      omega
  have h := Nm.tl l
  have e : val (litF 0 [u % 4294967296, u / 4294967296]) 2 = u := by
    show 0 + u % 4294967296 * 1 + u / 4294967296 * 4294967296 = u
    omega
  rwa [e] at h
theorem word_sg {u z : Int} (h0 : 0 ≤ u) (h1 : u ≤ 18446744073709551615) (hz : u = nab z) : Lm 2 (litF 0 [u % 4294967296, u / 4294967296]) ∧ val (litF 0 [u % 4294967296, u / 4294967296]) 2 = nab z := by
  refine ⟨fun i hi => ?_, ?_⟩
  · rcases (show i = 0 ∨ i = 1 by omega) with rfl | rfl
    · show 0 ≤ u % 4294967296 ∧ u % 4294967296 ≤ 4294967295
      omega
    · show 0 ≤ u / 4294967296 ∧ u / 4294967296 ≤ 4294967295
      omega
  · show 0 + u % 4294967296 * 1 + u / 4294967296 * 4294967296 = nab z
    omega
end Go.Bs
