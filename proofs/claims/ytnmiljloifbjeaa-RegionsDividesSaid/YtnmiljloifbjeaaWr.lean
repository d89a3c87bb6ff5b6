/-
  The engine's writing operations: what each does to the own blocks. No program is named here.
-/
import Derived.Test.YtnmiljloifbjeaaOps
import Derived.Maps.AppendAt
namespace Go.Eng
open Go.RowKit

/-- a type's zero -/
def TyZ (P : Program) (t : TypeId) (cs : List Value) : Prop := (P.info? t).bind (·.zero) = some (.agg cs.toArray) ∨ ∃ v, cs = [v] ∧ v.oneCell' = true ∧ (P.info? t).bind (·.zero) = some v
/-- an element's type: its zero, of one cell; its bytes -/
def TyE (P : Program) (e : TypeId) (z : Value) (bytes : Nat) : Prop := z.oneCell' = true ∧ (P.info? e).map (fun i => (i.zero, i.size, i.bytes)) = some (some z, 1, bytes)
/-- an element's type of sz cells -/
def TyEN (P : Program) (e : TypeId) (z : Value) (sz bytes : Nat) : Prop := z.cells.size = sz ∧ 0 < sz ∧ (P.info? e).map (fun i => (i.zero, i.size, i.bytes)) = some (some z, sz, bytes)

theorem cells_one {v : Value} (h : v.oneCell' = true) : v.cells = #[v] := by cases v <;> first | rfl | (simp [Value.oneCell'] at h)
theorem TyE.toN {P : Program} {e : TypeId} {z : Value} {bytes : Nat} (h : TyE P e z bytes) : TyEN P e z 1 bytes := ⟨by rw [cells_one h.1]; rfl, by omega, h.2⟩

def RNew (H : List Blk) (t : TypeId) (cs : List Value) (v : Value) (H' : List Blk) : Prop := ∃ g, v = .pointer (some ⟨g, 0, none⟩) ∧ H' = ⟨g, t, cs⟩ :: H
def RSl (H : List Blk) (t : TypeId) (cs : List Value) (n c : Nat) (v : Value) (H' : List Blk) : Prop := ∃ g, v = .slice (some ⟨g, 0, none⟩) n c ∧ H' = ⟨g, t, cs⟩ :: H
def RIs (v0 : Value) (H0 : List Blk) (v : Value) (H' : List Blk) : Prop := v = v0 ∧ H' = H0

section xo
variable {P : Program} {N : Sz} {X : List Nat} {w0 : World} {o : Oper} {L : List (Nat × Value)} {H : List Blk} {R : Value → List Blk → Prop}

theorem xo_val (h : ∀ a W, Fit N a L → Ow X w0 W H → ∃ v W' H', (execOp a.eval o).run P W = .ok (.value v) W' ∧ R v H' ∧ Ow X w0 W' H' ∧ Fr H W H' W') : XO P N X w0 o L H R := by
  intro a W hF hO K Q hK
  obtain ⟨v, W', H', hr, hR, hO', hFr⟩ := h a W hF hO
  unfold Oper.wp
  rw [hr]
  exact hK v H' W' hR hO' hFr
theorem xo_unit (h : ∀ a W, Fit N a L → Ow X w0 W H → ∃ W' H', (execOp a.eval o).run P W = .ok .skip W' ∧ R undef H' ∧ Ow X w0 W' H' ∧ Fr H W H' W') : XO P N X w0 o L H R := by
  intro a W hF hO K Q hK
  obtain ⟨W', H', hr, hR, hO', hFr⟩ := h a W hF hO
  unfold Oper.wp
  rw [hr]
  exact hK undef H' W' hR hO' hFr

/-- a struct that is boxed -/
theorem xo_boxA {t : TypeId} {x : Operand} {vs : List Value} (ho : o.op = .box t x) (hx : ev L x = some (.agg vs.toArray)) : XO P N X w0 o L H (RNew H t vs) :=
  xo_val fun a W hF hO => ⟨_, _, _, by simp [execOp, ho, hF.eval hx, Instr.box, newVar, newRow, Value.cells], ⟨W.heap.size, rfl, rfl⟩, hO.alloc t vs, Fr.new _⟩
theorem xo_box {t : TypeId} {x : Operand} {v : Value} (ho : o.op = .box t x) (hx : ev L x = some v) (h1 : v.oneCell' = true) : XO P N X w0 o L H (RNew H t [v]) :=
  xo_val fun a W hF hO => ⟨_, _, _, by simp [execOp, ho, hF.eval hx, Instr.box, newVar, newRow, cells_one h1], ⟨W.heap.size, rfl, rfl⟩, hO.alloc t [v], Fr.new _⟩
theorem xo_alloc {t : TypeId} {cs : List Value} (ho : o.op = .alloc t) (hz : TyZ P t cs) : XO P N X w0 o L H (RNew H t cs) := by
  refine xo_val fun a W hF hO => ⟨.pointer (some ⟨W.heap.size, 0, none⟩), W.alloc (.cells cs.toArray t), _, ?_, ⟨W.heap.size, rfl, rfl⟩, hO.alloc t cs, Fr.new _⟩
  rcases hz with hz | ⟨v, rfl, h1, hz⟩
  · obtain ⟨i, hi, hz⟩ := Option.bind_eq_some_iff.1 hz
    simp [execOp, ho, Instr.alloc, zeroValue, typeInfo, hi, hz, newVar, newRow, Value.cells]
  · obtain ⟨i, hi, hz⟩ := Option.bind_eq_some_iff.1 hz
    simp [execOp, ho, Instr.alloc, zeroValue, typeInfo, hi, hz, newVar, newRow, cells_one h1]
/-- a cell of an own block is written -/
theorem xo_store {t : TypeId} {x y : Operand} {g k : Nat} {v : Value} (i : Nat) {b : Blk} (ho : o.op = .store t x y) (ht : TyS P t) (hx : ev L x = some (.pointer (some ⟨g, k, none⟩))) (hy : ev L y = some v) (h1 : v.oneCell' = true) (hi : H[i]? = some b) (hg : b.g = g) (hk : k < b.cs.length) :
    XO P N X w0 o L H (RIs undef (H.set i ⟨b.g, b.t, b.cs.set k v⟩)) :=
  xo_unit fun a W hF hO => by
    subst hg
    have hc : W.cell? ⟨b.g, k, none⟩ = some b.cs[k] := by rw [hO.cell hi]; exact List.getElem?_eq_getElem hk
    exact ⟨_, _, by simp [execOp, ho, hF.eval hx, hF.eval hy, run_store ht h1 hc (hO.free hi k)], ⟨rfl, rfl⟩, hO.setCell hi k v, Fr.setCell hi k v _⟩
/-- cells from offset k on of an own block are written -/
theorem xo_storeM {t : TypeId} {n : Nat} {x y : Operand} {g k : Nat} {vs : List Value} (i : Nat) {b : Blk} (ho : o.op = .store t x y) (ht : (P.info? t).map (·.size) = some n) (hx : ev L x = some (.pointer (some ⟨g, k, none⟩))) (hy : ev L y = some (.agg vs.toArray)) (h1 : ∀ v ∈ vs, v.oneCell' = true) (hn : vs.length = n) (hi : H[i]? = some b) (hg : b.g = g) (hk : k + n ≤ b.cs.length) :
    XO P N X w0 o L H (RIs undef (H.set i ⟨b.g, b.t, b.cs.take k ++ vs ++ b.cs.drop (k + n)⟩)) :=
  xo_unit fun a W hF hO => by
    subst hg
    have hst := run_storeCells_at P b.g k b.t vs 0 b.cs.toArray W (hO.at_ hi) (by simp; omega) h1
    simp only [Nat.add_zero, hn] at hst
    refine ⟨_, _, ?_, ⟨rfl, rfl⟩, hO.setRow hi (b.cs.take k ++ vs ++ b.cs.drop (k + n)), Fr.setRow hi _ _⟩
    simp [execOp, ho, hF.eval hx, hF.eval hy, Instr.storeAt, Instr.sureAddr, storeVar, run_sizeOf ht, Value.cells, hn, hst]
/-- a whole own block of a struct is written -/
theorem xo_storeA {t : TypeId} {n : Nat} {x y : Operand} {g : Nat} {vs : List Value} (i : Nat) {b : Blk} (ho : o.op = .store t x y) (ht : TyA P t n) (hx : ev L x = some (.pointer (some ⟨g, 0, none⟩))) (hy : ev L y = some (.agg vs.toArray)) (h1 : ∀ v ∈ vs, v.oneCell' = true) (hn : vs.length = n) (hi : H[i]? = some b) (hg : b.g = g) (hk : b.cs.length = n) :
    XO P N X w0 o L H (RIs undef (H.set i ⟨b.g, b.t, vs⟩)) := by
  have h := xo_storeM (N := N) (X := X) (w0 := w0) i ho ht.info hx hy h1 hn hi hg (by omega)
  have e : b.cs.take 0 ++ vs ++ b.cs.drop (0 + n) = vs := by
    rw [List.take_zero, List.nil_append, Nat.zero_add, List.drop_eq_nil_of_le (by omega), List.append_nil]
  rw [e] at h
  exact h

/-- make([]T, n) -/
theorem xo_make {t e : TypeId} {bytes : Nat} {z : Value} {x y : Operand} {k k' : IntKind} {l c : Int} (ho : o.op = .makeSlice t x y) (ht : P.underlying t = some (.slice e)) (he : TyE P e z bytes) (hx : ev L x = some (.int k l)) (hy : ev L y = some (.int k' c)) (h0 : 0 ≤ l) (hlc : l ≤ c) (hb : bytes * c ≤ 281474976710656) (h63 : c ≤ 9223372036854775807) :
    XO P N X w0 o L H (RSl H e (List.replicate c.toNat z) l.toNat c.toNat) := by
  obtain ⟨h1, hj⟩ := he
  obtain ⟨i, hi, hz, hs, rfl⟩ := info_parts hj
  refine xo_val fun a W hF hO => ?_
  have hr := run_make (P := P) W t e i z ht hi hz k k' l c h0 hlc hb h63
  rw [hs, Nat.mul_one, cells_one h1] at hr
  have hm : madeCells #[z] c.toNat = (List.replicate c.toNat z).toArray := by rw [← toList_madeCells_one]
  rw [hm] at hr
  exact ⟨_, _, _, by simp [execOp, ho, hF.eval hx, hF.eval hy, hr], ⟨W.heap.size, rfl, rfl⟩, hO.alloc e _, Fr.new _⟩

/-- []T{..}: the run's own equation is handed in -/
theorem xo_lit {t e : TypeId} {len : Nat} {parts : List (Nat × Operand)} {vs : List (Nat × Value)} {cs : List Value} (ho : o.op = .buildSlice t len parts.toArray) (hp : evp L parts = some vs)
    (hb : ∀ W, (Instr.buildSlice t len vs.toArray).run P W = .ok (.slice (some ⟨W.heap.size, 0, none⟩) len len) (W.alloc (.cells cs.toArray e))) : XO P N X w0 o L H (RSl H e cs len len) := by
  refine xo_val fun a W hF hO => ?_
  have e : (parts.toArray.map fun (i, x) => (i, a.eval x)) = vs.toArray := by rw [← hF.evalp hp]; simp
  exact ⟨_, _, _, by simp [execOp, ho, e, hb], ⟨W.heap.size, rfl, rfl⟩, hO.alloc _ _, Fr.new _⟩
/-- a slice of one element -/
theorem run_lit1 {t e : TypeId} {bytes : Nat} {z v : Value} (ht : P.underlying t = some (.slice e)) (he : TyE P e z bytes) (h1 : v.oneCell' = true) (W : World) :
    (Instr.buildSlice t 1 #[(0, v)]).run P W = .ok (.slice (some ⟨W.heap.size, 0, none⟩) 1 1) (W.alloc (.cells #[v] e)) := by
  obtain ⟨hz1, hj⟩ := he
  obtain ⟨i, hi, hz, hs, _⟩ := info_parts hj
  simp [Instr.buildSlice, run_underlying ht, sizeOf, typeInfo, hi, hs, zeroValue, hz, Instr.fill, cells_one h1, cells_one hz1, newRow, Array.range_succ, Array.range_zero']
theorem xo_lit1 {t e : TypeId} {bytes : Nat} {z v : Value} {x : Operand} (ho : o.op = .buildSlice t 1 #[(0, x)]) (ht : P.underlying t = some (.slice e)) (he : TyE P e z bytes) (hx : ev L x = some v) (h1 : v.oneCell' = true) : XO P N X w0 o L H (RSl H e [v] 1 1) :=
  xo_lit (parts := [(0, x)]) (vs := [(0, v)]) ho (by simp [evp, hx]) (run_lit1 ht he h1)

/-! ### slices that grow by append -/
inductive AS where
  | nil
  | at_ (g : Nat) (sp : List Value) (cap : Nat)
def AS.val (n : Nat) : AS → Value
  | .nil => .slice none 0 0
  | .at_ g _ cap => .slice (some ⟨g, 0, none⟩) n cap
def AS.adr : AS → Option Addr
  | .nil => none
  | .at_ g _ _ => some ⟨g, 0, none⟩
def AS.cap : AS → Nat
  | .nil => 0
  | .at_ _ _ c => c
def AS.blks (e : TypeId) (xs : List Value) : AS → List Blk
  | .nil => []
  | .at_ g sp _ => [⟨g, e, xs ++ sp⟩]
def AS.Ok (sz n : Nat) (xs : List Value) : AS → Prop
  | .nil => n = 0 ∧ xs = []
  | .at_ _ sp cap => n ≤ cap ∧ cap ≤ maxLen ∧ xs.length = n * sz ∧ (xs ++ sp).length = cap * sz
theorem AS.Ok.len {sz n : Nat} {xs : List Value} {s : AS} (h : s.Ok sz n xs) : xs.length = n * sz := by
  cases s with
  | nil => obtain ⟨rfl, rfl⟩ := h; simp
  | at_ g sp cap => exact h.2.2.1
theorem AS.val_eq {sz n : Nat} {xs : List Value} {s : AS} (h : s.Ok sz n xs) : s.val n = .slice s.adr n s.cap := by
  cases s with
  | nil => obtain ⟨rfl, rfl⟩ := h; rfl
  | at_ g sp cap => rfl
theorem AS.one {n : Nat} {s : AS} : (s.val n).oneCell' = true := by cases s <;> rfl

theorem ones_nil : ∀ u ∈ ([] : List Value), u.oneCell' = true := by simp
theorem ones_cons {v : Value} {r : List Value} (h : v.oneCell' = true) (hr : ∀ u ∈ r, u.oneCell' = true) : ∀ u ∈ v :: r, u.oneCell' = true := by
  intro u hu
  rcases List.mem_cons.1 hu with rfl | hu
  · exact h
  · exact hr u hu
theorem own_app {w : World} {F G : List Blk} (h : Ow X w0 w (F ++ G)) : Ow X w0 w F ∧ Ow X w0 w G := ⟨h.sub (List.sublist_append_left _ _), h.sub (List.sublist_append_right _ _)⟩

theorem AS.owns {w : World} {e : TypeId} {sz n : Nat} {xs : List Value} {s : AS} {F : List Blk} (h : s.Ok sz n xs) (hO : Ow X w0 w (F ++ s.blks e xs)) : w.ownsRow 0 e sz (s.val n) n xs := by
  refine ⟨h.len, ?_⟩
  cases s with
  | nil => exact .inl ⟨rfl, h.1⟩
  | at_ g sp cap =>
    obtain ⟨h1, h2, h3, h4⟩ := h
    refine .inr ⟨g, cap, (xs ++ sp).toArray, rfl, Nat.zero_le _, ?_, h1, h2, by simpa using h4, ?_⟩
    · exact ((own_app hO).2.own ⟨g, e, xs ++ sp⟩ (by simp [AS.blks])).1
    · simp [← h3]

theorem AS.reads {w : World} {e : TypeId} {sz n : Nat} {xs : List Value} {s : AS} {F : List Blk} (h : s.Ok sz n xs) (hO : Ow X w0 w (F ++ s.blks e xs)) : Rd w s.adr xs := by
  cases s with
  | nil => obtain ⟨_, rfl⟩ := h; exact Rd.nil
  | at_ g sp cap =>
    exact Rd.own (own_app hO).2 (i := 0) (b := ⟨g, e, xs ++ sp⟩) rfl (fun k v hv => by rw [List.getElem?_append_left (List.getElem?_eq_some_iff.1 hv).1]; exact hv)

def RApp (F : List Blk) (e : TypeId) (sz n : Nat) (xs : List Value) (v : Value) (H' : List Blk) : Prop := ∃ s : AS, s.Ok sz n xs ∧ v = s.val n ∧ H' = F ++ s.blks e xs

theorem own_appended {w w' : World} {F : List Blk} {e : TypeId} {sz n n' : Nat} {xs xs' : List Value} {s : AS} {v' : Value} (hO : Ow X w0 w (F ++ s.blks e xs))
    (h1 : w'.ownsRow 0 e sz v' n' xs') (hg : w.grownBy w' (s.val n).ownBlock) (hb : v'.ownBlock = (s.val n).ownBlock ∨ v'.ownBlock = some w.heap.size) :
    ∃ H', RApp F e sz n' xs' v' H' ∧ Ow X w0 w' H' ∧ Fr (F ++ s.blks e xs) w H' w' := by
  have hd := hO.dist
  rw [List.map_append, List.nodup_append] at hd
  obtain ⟨hd1, _, hd3⟩ := hd
  have hsn : ∀ k, (s.val n).ownBlock = some k → ∃ sp cap, s = .at_ k sp cap := by
    intro k hk
    cases s with
    | nil => simp [AS.val, Value.ownBlock] at hk
    | at_ g sp cap => simp [AS.val, Value.ownBlock] at hk; subst hk; exact ⟨sp, cap, rfl⟩
  have hF : ∀ b ∈ F, w'.heap[b.g]? = some (.cells b.cs.toArray b.t (0, 0)) := by
    intro b hb'
    have h0 := ((own_app hO).1.own b hb').1
    rw [hg.block b.g (lt_of_block h0) (fun he => by
      obtain ⟨sp, cap, rfl⟩ := hsn b.g he.symm
      exact hd3 b.g (List.mem_map.2 ⟨b, hb', rfl⟩) b.g (by simp [AS.blks]) rfl)]
    exact h0
  have hold : ∀ k, k < w0.heap.size → k ∉ X → w'.heap[k]? = w0.heap[k]? := by
    intro k hk hx
    rw [hg.block k (Nat.lt_of_lt_of_le hk hO.size) (fun he => by
      obtain ⟨sp, cap, rfl⟩ := hsn k he.symm
      rcases ((own_app hO).2.own ⟨k, e, xs ++ sp⟩ (by simp [AS.blks])).2 with h | h
      · exact absurd hk (Nat.not_lt.2 h)
      · exact hx h)]
    exact hO.old k hk hx
  have hkeep : ∀ k, k < w.heap.size → k ∉ (F ++ s.blks e xs).map Blk.g → w'.heap[k]? = w.heap[k]? := by
    intro k hk hn
    refine hg.block k hk (fun he => ?_)
    obtain ⟨sp, cap, rfl⟩ := hsn k he.symm
    exact hn (by simp [AS.blks])
  rcases h1.2 with ⟨rfl, rfl⟩ | ⟨g, cap, cur, rfl, _, hh, hnc, hcm, hcs, htake⟩
  · refine ⟨F ++ [], ⟨.nil, ⟨rfl, List.eq_nil_of_length_eq_zero (by simpa using h1.1)⟩, rfl, rfl⟩, ?_, hg.size, hkeep, ?_⟩
    case refine_2 =>
      intro b hb'
      rw [List.append_nil] at hb'
      exact .inl (by rw [List.map_append]; exact List.mem_append_left _ (List.mem_map.2 ⟨b, hb', rfl⟩))
    rw [List.append_nil]
    exact ⟨hg.os.trans hO.os, hg.tape.trans hO.tape, hg.output.trans hO.output, Nat.le_trans hO.size hg.size, hold, fun b hb' => ⟨hF b hb', ((own_app hO).1.own b hb').2⟩, hd1⟩
  · have hsplit : xs' ++ cur.toList.drop (n' * sz) = cur.toList := by rw [← htake]; exact List.take_append_drop _ _
    refine ⟨F ++ [⟨g, e, xs' ++ cur.toList.drop (n' * sz)⟩], ⟨.at_ g (cur.toList.drop (n' * sz)) cap, ⟨hnc, hcm, h1.1, by rw [hsplit]; simpa using hcs⟩, rfl, rfl⟩, ?_, hg.size, hkeep, ?_⟩
    case refine_2 =>
      intro b hb'
      rcases List.mem_append.1 hb' with hb' | hb'
      · exact .inl (by rw [List.map_append]; exact List.mem_append_left _ (List.mem_map.2 ⟨b, hb', rfl⟩))
      · simp only [List.mem_singleton] at hb'
        subst hb'
        rcases hb with hb | hb
        · obtain ⟨sp, cap', rfl⟩ := hsn g (by simpa [Value.ownBlock] using hb.symm)
          exact .inl (by simp [AS.blks])
        · have : g = w.heap.size := by simpa [Value.ownBlock] using hb
          exact .inr (by simp [this])
    have hgX : w0.heap.size ≤ g ∨ g ∈ X := by
      rcases hb with hb | hb
      · obtain ⟨sp, cap', rfl⟩ := hsn g (by simpa [Value.ownBlock] using hb.symm)
        exact ((own_app hO).2.own ⟨g, e, xs ++ sp⟩ (by simp [AS.blks])).2
      · have : g = w.heap.size := by simpa [Value.ownBlock] using hb
        exact .inl (by rw [this]; exact hO.size)
    have hgF : ∀ b ∈ F, b.g ≠ g := by
      intro b hb' heq
      rcases hb with hb | hb
      · obtain ⟨sp, cap', rfl⟩ := hsn g (by simpa [Value.ownBlock] using hb.symm)
        exact hd3 b.g (List.mem_map.2 ⟨b, hb', rfl⟩) g (by simp [AS.blks]) heq
      · have : g = w.heap.size := by simpa [Value.ownBlock] using hb
        have hlt := lt_of_block ((own_app hO).1.own b hb').1
        omega
    refine ⟨hg.os.trans hO.os, hg.tape.trans hO.tape, hg.output.trans hO.output, Nat.le_trans hO.size hg.size, hold, fun b hb' => ?_, ?_⟩
    · rcases List.mem_append.1 hb' with hb' | hb'
      · exact ⟨hF b hb', ((own_app hO).1.own b hb').2⟩
      · simp only [List.mem_singleton] at hb'
        subst hb'
        exact ⟨by simpa [hsplit] using hh, hgX⟩
    · rw [List.map_append, List.nodup_append]
      refine ⟨hd1, by simp, fun a ha b hb' => ?_⟩
      simp only [List.map_cons, List.map_nil, List.mem_singleton] at hb'
      subst hb'
      obtain ⟨c, hc, rfl⟩ := List.mem_map.1 ha
      exact hgF c hc

/-- append(s, x..): the new elements lie in a slice that reads as 'news' -/
theorem xo_append {t e : TypeId} {z : Value} {sz bytes : Nat} {x y : Operand} {s : AS} {n m c : Nat} {xs news : List Value} {A : Option Addr} (F : List Blk) (hH : H = F ++ s.blks e xs)
    (ho : o.op = .call { callee := .builtin .append, args := #[x, y], argTypes := #[t, t] }) (ht : P.underlying t = some (.slice e)) (he : TyEN P e z sz bytes)
    (hx : ev L x = some (s.val n)) (hs : s.Ok sz n xs) (hy : ev L y = some (.slice A m c)) (hm : news.length = m * sz) (hr : ∀ W, Ow X w0 W H → Rd W A news) (h1 : ∀ u ∈ news, u.oneCell' = true)
    (h63 : n + m ≤ maxLen) (hb : (n + m) * bytes ≤ 140737488355328) :
    XO P N X w0 o L H (RApp F e sz (n + m) (xs ++ news)) := by
  obtain ⟨hz1, hsz, hj⟩ := he
  obtain ⟨i, hi, hz, hsi, rfl⟩ := info_parts hj
  subst hH
  refine xo_val fun a W hF hO => ?_
  have hown := AS.owns hs hO
  cases A with
  | none =>
    have hnil : news = [] := by
      cases news with
      | nil => rfl
      | cons u us => exact absurd ((hr W hO) 0 (by simp)).1 (by simp)
    subst hnil
    have hm0 : m = 0 := by
      have := hm
      simp only [List.length_nil] at this
      rcases Nat.mul_eq_zero.1 this.symm with h | h
      · exact h
      · omega
    subst hm0
    have hrun : (Builtin.append_ #[t, t] o.type #[s.val n, .slice none 0 c]).run P W = .ok (s.val n) W := by
      cases s with
      | nil =>
        simp [AS.val, Builtin.append_, run_underlying ht, sizeOf, typeInfo, hi, Builtin.lenOf, Builtin.firstCells]
      | at_ g sp cap =>
        have hnc : n ≤ cap := hs.1
        simp [AS.val, Builtin.append_, run_underlying ht, sizeOf, typeInfo, hi, Builtin.lenOf, Builtin.firstCells, hnc, storeCells]
    refine ⟨s.val n, W, F ++ s.blks e xs, ?_, ⟨s, by simpa using hs, by simp, by simp⟩, hO, Fr.ext (Ext.refl _)⟩
    simp [execOp, ho, hF.eval hx, hF.eval hy, resolve, invoke, builtin, hrun]
  | some ad =>
    have hnews : ∀ j u, news[j]? = some u → W.cell? (ad.add j) = some u := by
      intro j u hu
      have hj := (List.getElem?_eq_some_iff.1 hu).1
      obtain ⟨e1, e2⟩ := hr W hO j hj
      have e3 : ad = ⟨ad.block, ad.off, none⟩ := by simpa [bl, of] using e1
      rw [e3, Addr.add_lit]
      rw [hu] at e2
      exact e2
    obtain ⟨v', w', hrun, h2, h3, _, h5⟩ := run_append_own_at (P := P) W 0 t o.type e i z sz i.bytes ht hi hz hsi rfl hz1 hsz (s.val n) n xs hown ad m c news hm hnews h1 h63 hb (Nat.zero_le _)
    obtain ⟨H', hR, hO', hFr⟩ := own_appended hO h2 h3 h5
    refine ⟨v', w', H', ?_, hR, hO', hFr⟩
    simp [execOp, ho, hF.eval hx, hF.eval hy, resolve, invoke, builtin, hrun]

/-- copy into an own block -/
theorem xo_copy {t t' e : TypeId} {x y : Operand} {g off dl dc sl sc : Nat} {A : Option Addr} {cs : List Value} (i : Nat) {b : Blk} (ho : o.op = .call { callee := .builtin .copy, args := #[x, y], argTypes := #[t, t'] }) (ht : TySl P t e 1)
    (hx : ev L x = some (.slice (some ⟨g, off, none⟩) dl dc)) (hy : ev L y = some (.slice A sl sc)) (hi : H[i]? = some b) (hg : b.g = g) (hn : cs.length = Nat.min sl dl) (hr : ∀ W, Ow X w0 W H → Rd W A cs) (h1 : ∀ u ∈ cs, u.oneCell' = true) (hA : cs = [] → A ≠ none) (hfit : off + cs.length ≤ b.cs.length) :
    XO P N X w0 o L H (RIs (.int .i64 cs.length) (H.set i ⟨b.g, b.t, b.cs.take off ++ cs ++ b.cs.drop (off + cs.length)⟩)) :=
  xo_val fun a W hF hO => by
    subst hg
    obtain ⟨ad, rfl⟩ : ∃ ad, A = some ad := by
      cases A with
      | none =>
        cases cs with
        | nil => exact absurd rfl (hA rfl)
        | cons u us => exact absurd ((hr W hO) 0 (by simp)).1 (by simp)
      | some ad => exact ⟨ad, rfl⟩
    have hsrc : ∀ j v, cs[j]? = some v → W.cell? (ad.add j) = some v := by
      intro j u hu
      have hj := (List.getElem?_eq_some_iff.1 hu).1
      obtain ⟨e1, e2⟩ := hr W hO j hj
      have e3 : ad = ⟨ad.block, ad.off, none⟩ := by simpa [bl, of] using e1
      rw [e3, Addr.add_lit]
      rw [hu] at e2
      exact e2
    have hrun := run_copy_row P W t t' o.type e b.g off dl dc ad sl sc b.cs.toArray b.t cs ht.und ht.info (hO.at_ hi) hn hsrc (by simpa using hfit) h1
    refine ⟨_, _, _, ?_, ⟨rfl, rfl⟩, hO.setRow hi (b.cs.take off ++ cs ++ b.cs.drop (off + cs.length)), Fr.setRow hi _ _⟩
    simp [execOp, ho, hF.eval hx, hF.eval hy, resolve, invoke, builtin, hrun, goInt]

/-- a call that makes or writes blocks -/
theorem xo_call {f : FuncId} {args : List Operand} {tys : Array TypeId} {vs : List Value} (ho : o.op = .call { callee := .value (.func f), args := args.toArray, argTypes := tys }) (hE : Ent P f) (hv : evs L args = some vs)
    (hc : ∀ W, Ow X w0 W H → Calls P f vs.toArray W fun e W' => ∃ v H', e = .returned v ∧ R v H' ∧ Ow X w0 W' H' ∧ Fr H W H' W') : XO P N X w0 o L H R := by
  intro a W hF hO K Q hK
  have e1 : args.map a.eval = vs := hF.evals hv
  have hr : (execOp a.eval o).run P W = .ok (.enter f vs.toArray) W := by
    simp [execOp, ho, resolve, Deferred.ofValue, invoke, eval_func, e1, hE _ _]
  unfold Oper.wp
  rw [hr]
  refine (hc W hO).mono ?_
  rintro e W' ⟨v, H', rfl, hR, hO', hFr⟩
  exact hK v H' W' hR hO' hFr
theorem xo_callv {f : FuncId} {fx : Operand} {first captured : List Value} {args : List Operand} {tys : Array TypeId} {vs : List Value} (ho : o.op = .call { callee := .value fx, args := args.toArray, argTypes := tys }) (hfx : ev L fx = some (.func (.func f) first.toArray captured.toArray)) (hE : Ent P f) (hv : evs L args = some vs)
    (hc : ∀ W, Ow X w0 W H → Calls P f (first ++ vs ++ captured).toArray W fun e W' => ∃ v H', e = .returned v ∧ R v H' ∧ Ow X w0 W' H' ∧ Fr H W H' W') : XO P N X w0 o L H R := by
  intro a W hF hO K Q hK
  have e1 : args.map a.eval = vs := hF.evals hv
  have hr : (execOp a.eval o).run P W = .ok (.enter f (first ++ vs ++ captured).toArray) W := by
    simp [execOp, ho, resolve, hF.eval hfx, Deferred.ofValue, invoke, e1, hE _ _]
  unfold Oper.wp
  rw [hr]
  refine (hc W hO).mono ?_
  rintro e W' ⟨v, H', rfl, hR, hO', hFr⟩
  exact hK v H' W' hR hO' hFr
end xo

/-- what a callee made since 'w' is one's own -/
theorem Ow.news {X : List Nat} {w0 w w' : World} {H H' : List Blk} (h : Ow X w0 w H) (h' : Ow [] w w' H') : Ow X w0 w' (H' ++ H) := by
  have h1 := h.ext h'.toExt
  refine ⟨h1.os, h1.tape, h1.output, h1.size, h1.old, fun b hb => ?_, ?_⟩
  · rcases List.mem_append.1 hb with hb | hb
    · refine ⟨(h'.own b hb).1, .inl ?_⟩
      rcases (h'.own b hb).2 with h2 | h2
      · exact Nat.le_trans h.size h2
      · simp at h2
    · exact h1.own b hb
  · rw [List.map_append, List.nodup_append]
    refine ⟨h'.dist, h.dist, fun a ha b hb => ?_⟩
    obtain ⟨c, hc, rfl⟩ := List.mem_map.1 ha
    obtain ⟨d, hd, rfl⟩ := List.mem_map.1 hb
    have h2 := lt_of_block (h.own d hd).1
    rcases (h'.own c hc).2 with h3 | h3
    · omega
    · simp at h3
theorem Fr.news {W W' : World} {H H' : List Blk} (h' : Ow [] W W' H') : Fr H W (H' ++ H) W' :=
  ⟨h'.size, fun k hk _ => h'.old k hk (by simp), fun b hb => by
    rcases List.mem_append.1 hb with hb | hb
    · rcases (h'.own b hb).2 with h2 | h2
      · exact .inr h2
      · simp at h2
    · exact .inl (List.mem_map.2 ⟨b, hb, rfl⟩)⟩
end Go.Eng
