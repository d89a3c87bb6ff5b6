/-
  The engine's pointers and lists of several cells: checks, comparisons, loads of old memory, calls that write a block and make others, trees on the heap. No program is named here.
-/
import Derived.Test.YtnmiljloifbjeaaNe
import Derived.Test.YtnmiljloifbjeaaRy
namespace Go.Bs
open Go.RowKit Go.Eng
section
variable {P : Program} {N : Sz} {X : List Nat} {w0 : World} {o : Oper} {L : List (Nat × Value)} {H : List Blk}
theorem eo_nilChk {x : Operand} {ad : Addr} (ho : o.op = .nilCheck x) (hx : ev L x = some (.pointer (some ad))) : EO P N X w0 o L H (.pointer (some ad)) :=
  eo_val fun a W hF _ => by simp [execOp, ho, hF.eval hx]
theorem eo_ptnil {t e t2 : TypeId} {x : Operand} {A : Option Addr} (ho : o.op = .binOp .eql t x (.const (.pointer none)) t2) (hx : ev L x = some (.pointer A)) (ht : P.underlying t = some (.pointer e)) : EO P N X w0 o L H (.bool A.isNone) :=
  eo_val fun a W hF _ => by
    have e1 : binOp .eql t (.pointer A) (.pointer none) = (do pure (.bool (← Op.equal t (.pointer A) (.pointer none)))) := rfl
    have e2 : (Op.equal t (.pointer A) (.pointer none)).run P W = .ok A.isNone W := by
      show (Op.equalIn (9999 + 1) t (.pointer A) (.pointer none)).run P W = _
      rw [Op.equalIn]
      cases A <;> simp only [Sem.run_bind, run_underlying ht, Result.andThen_ok, Sem.run_pure, Option.isNone]
    simp only [execOp, ho, hF.eval hx, eval_const, eqGuard_at_pointer, e1, Sem.run_bind, Sem.run_pure, Result.andThen_ok, e2]
/-- a load of several cells of old memory -/
theorem eo_loadAO {t : TypeId} {x : Operand} {g k n : Nat} {all cs : List Value} (ho : o.op = .load t x) (ht : TyA P t n) (hx : ev L x = some (.pointer (some ⟨g, k, none⟩)))
    (hc : ∀ (j : Nat) v, all[j]? = some v → w0.cell? ⟨g, j, none⟩ = some v) (hX : g ∉ X) (hn : cs.length = n) (hs : ∀ j, j < n → all[k + j]? = cs[j]?) : EO P N X w0 o L H (.agg cs.toArray) :=
  eo_val fun a W hF hO => by
    have hc' : ∀ j, j < n → W.cell? ⟨g, k + j, none⟩ = cs[j]? := fun j hj => by
      have h1 := hs j hj
      rw [List.getElem?_eq_getElem (show j < cs.length by omega)] at h1 ⊢
      have h2 := hc _ _ h1
      rw [World.cell?_of_block (w := w0) (hO.old _ (World.block_lt_of_cell? w0 _ h2) hX)]
      exact h2
    simp [execOp, ho, hF.eval hx, run_loadA ht hn hc']
/-- a call that writes block i and makes others -/
theorem _root_.Go.Eng.Ow.part {W W' : World} {i : Nat} {b : Blk} {cs : List Value} {Hn : List Blk} (h : Ow X w0 W H) (hi : H[i]? = some b) (h' : Ow [b.g] W W' (⟨b.g, b.t, cs⟩ :: Hn)) : Ow X w0 W' (H.set i ⟨b.g, b.t, cs⟩ ++ Hn) ∧ Fr H W (H.set i ⟨b.g, b.t, cs⟩ ++ Hn) W' := by
  have h1 := h.over hi (h'.sub (List.Sublist.cons_cons _ (List.nil_sublist _)))
  have hd := h'.dist
  rw [List.map_cons, List.nodup_cons] at hd
  have hb := lt_of_block (h.own b (List.mem_of_getElem? hi)).1
  have hnew : ∀ c ∈ Hn, W.heap.size ≤ c.g := fun c hc => by
    rcases (h'.own c (List.mem_cons_of_mem _ hc)).2 with k | k
    · exact k
    · rw [List.mem_singleton] at k
      exact absurd (List.mem_map.2 ⟨c, hc, k⟩) hd.1
  have hset : ∀ c ∈ H.set i ⟨b.g, b.t, cs⟩, c.g ∈ H.map Blk.g := fun c hc => by
    rcases List.mem_or_eq_of_mem_set hc with hc | rfl
    · exact List.mem_map.2 ⟨c, hc, rfl⟩
    · exact List.mem_map.2 ⟨b, List.mem_of_getElem? hi, rfl⟩
  refine ⟨⟨h1.os, h1.tape, h1.output, h1.size, h1.old, fun c hc => ?_, ?_⟩, ⟨h'.size, fun k hk hn => h'.old k hk ?_, fun c hc => ?_⟩⟩
  · rcases List.mem_append.1 hc with hc | hc
    · exact h1.own c hc
    · exact ⟨(h'.own c (List.mem_cons_of_mem _ hc)).1, .inl (Nat.le_trans h.size (hnew c hc))⟩
  · rw [List.map_append, List.nodup_append]
    refine ⟨h1.dist, hd.2, fun a ha c hc => ?_⟩
    obtain ⟨u, hu, rfl⟩ := List.mem_map.1 ha
    obtain ⟨v, hv, rfl⟩ := List.mem_map.1 hc
    obtain ⟨u', hu', e⟩ := List.mem_map.1 (hset u hu)
    have k1 := lt_of_block (h.own u' hu').1
    have k2 := hnew v hv
    omega
  · intro e
    rw [List.mem_singleton] at e
    exact hn (e ▸ List.mem_map.2 ⟨b, List.mem_of_getElem? hi, rfl⟩)
  · rcases List.mem_append.1 hc with hc | hc
    · exact .inl (hset c hc)
    · exact .inr (hnew c hc)
theorem xo_overN {f : FuncId} {args : List Operand} {tys : Array TypeId} {vs : List Value} {b : Blk} {cs : List Value} {R : Value → List Blk → Prop} (i : Nat) (ho : o.op = .call { callee := .value (.func f), args := args.toArray, argTypes := tys }) (hE : Ent P f) (hv : evs L args = some vs) (hi : H[i]? = some b)
    (hc : ∀ W, Ow X w0 W H → Calls P f vs.toArray W fun e W' => ∃ v Hn, e = .returned v ∧ R v Hn ∧ Ow [b.g] W W' (⟨b.g, b.t, cs⟩ :: Hn)) : XO P N X w0 o L H (fun v H' => ∃ Hn, R v Hn ∧ H' = H.set i ⟨b.g, b.t, cs⟩ ++ Hn) :=
  xo_call ho hE hv fun W hO => (hc W hO).mono fun _ _ ⟨v, Hn, h1, h2, h3⟩ => ⟨v, _, h1, ⟨Hn, h2, rfl⟩, (hO.part hi h3).1, (hO.part hi h3).2⟩

/-! ### a slice that a callee lets grow -/
def _root_.Go.Eng.AS.ids : AS → List Nat
  | .nil => []
  | .at_ g _ _ => [g]
theorem _root_.Go.Eng.AS.start {W : World} {F : List Blk} {s : AS} {e : TypeId} {xs : List Value} (h : Ow X w0 W (F ++ s.blks e xs)) : Ow s.ids W W (s.blks e xs) := by
  cases s with
  | nil => exact (Ow.start W)
  | at_ g sp c =>
    have hb := (h.own ⟨g, e, xs ++ sp⟩ (by simp [AS.blks])).1
    exact own_one hb
theorem ids_mem {s : AS} {e : TypeId} {xs : List Value} {k : Nat} (h : k ∈ s.ids) : k ∈ (s.blks e xs).map Blk.g := by
  cases s with
  | nil => simp [AS.ids] at h
  | at_ g sp c => simpa [AS.ids, AS.blks] using h
theorem mem_ids {s : AS} {e : TypeId} {xs : List Value} {b : Blk} (h : b ∈ s.blks e xs) : b.g ∈ s.ids := by
  cases s with
  | nil => simp [AS.blks] at h
  | at_ g sp c =>
    simp only [AS.blks, List.mem_singleton] at h
    subst h
    simp [AS.ids]
theorem _root_.Go.Eng.Ow.grown {W W' : World} {F : List Blk} {s s' : AS} {e : TypeId} {xs ys : List Value} (h : Ow X w0 W (F ++ s.blks e xs)) (h' : Ow s.ids W W' (s'.blks e ys)) : Ow X w0 W' (F ++ s'.blks e ys) ∧ Fr (F ++ s.blks e xs) W (F ++ s'.blks e ys) W' := by
  have hd := h.dist
  rw [List.map_append, List.nodup_append] at hd
  obtain ⟨d1, d2, d3⟩ := hd
  have nF : ∀ b ∈ F, b.g ∉ s.ids := fun b hb k => d3 _ (List.mem_map.2 ⟨b, hb, rfl⟩) _ (ids_mem k) rfl
  have lF : ∀ b ∈ F, b.g < W.heap.size := fun b hb => lt_of_block (h.own b (List.mem_append_left _ hb)).1
  have new : ∀ b ∈ s'.blks e ys, W.heap.size ≤ b.g ∨ b.g ∈ (s.blks e xs).map Blk.g := fun b hb => (h'.own b hb).2.imp id ids_mem
  refine ⟨⟨h'.os.trans h.os, h'.tape.trans h.tape, h'.output.trans h.output, Nat.le_trans h.size h'.size, fun k hk hx => ?_, fun b hb => ?_, ?_⟩, ⟨h'.size, fun k hk hn => h'.old k hk fun c => hn (by rw [List.map_append]; exact List.mem_append_right _ (ids_mem c)), fun b hb => ?_⟩⟩
  · rw [h'.old k (Nat.lt_of_lt_of_le hk h.size) (fun c => ?_), h.old k hk hx]
    obtain ⟨b, hb, e⟩ := List.mem_map.1 (ids_mem (e := e) (xs := xs) c)
    rcases (h.own b (List.mem_append_right _ hb)).2 with q | q
    · omega
    · exact hx (e ▸ q)
  · rcases List.mem_append.1 hb with hb | hb
    · exact ⟨(h'.old b.g (lF b hb) (nF b hb)).trans (h.own b (List.mem_append_left _ hb)).1, (h.own b (List.mem_append_left _ hb)).2⟩
    · refine ⟨(h'.own b hb).1, ?_⟩
      rcases new b hb with q | q
      · exact .inl (Nat.le_trans h.size q)
      · obtain ⟨c, hc, e⟩ := List.mem_map.1 q
        rw [← e]
        exact (h.own c (List.mem_append_right _ hc)).2
  · rw [List.map_append, List.nodup_append]
    refine ⟨d1, h'.dist, fun a ha c hc => ?_⟩
    obtain ⟨u, hu, rfl⟩ := List.mem_map.1 ha
    obtain ⟨v, hv, rfl⟩ := List.mem_map.1 hc
    rcases new v hv with q | q
    · have := lF u hu; omega
    · exact d3 _ (List.mem_map.2 ⟨u, hu, rfl⟩) _ q
  · rcases List.mem_append.1 hb with hb | hb
    · exact .inl (List.mem_map.2 ⟨b, List.mem_append_left _ hb, rfl⟩)
    · rcases new b hb with q | q
      · exact .inr q
      · exact .inl (by rw [List.map_append]; exact List.mem_append_right _ q)
theorem xo_grow {f : FuncId} {args : List Operand} {tys : Array TypeId} {vs : List Value} {e : TypeId} {sz m : Nat} {s : AS} {xs ys : List Value} (F : List Blk) (hH : H = F ++ s.blks e xs) (ho : o.op = .call { callee := .value (.func f), args := args.toArray, argTypes := tys }) (hE : Ent P f) (hv : evs L args = some vs)
    (hc : ∀ W, Ow X w0 W (F ++ s.blks e xs) → Calls P f vs.toArray W fun en W' => ∃ s' : AS, en = .returned (s'.val m) ∧ s'.Ok sz m ys ∧ Ow s.ids W W' (s'.blks e ys)) : XO P N X w0 o L H (RApp F e sz m ys) := by
  subst hH
  exact xo_call ho hE hv fun W hO => (hc W hO).mono fun _ _ ⟨s', h1, h2, h3⟩ => ⟨_, _, h1, ⟨s', h2, rfl, rfl⟩, (hO.grown h3).1, (hO.grown h3).2⟩
/-- append of one element, the contents are named anew -/
theorem xo_appG {q : IntKind} {t e τ : TypeId} {z : Value} {sz bytes : Nat} {x y : Operand} {s : AS} {k c gt k' : Nat} {F G : Nat → Int} (bs : List Int) (F0 : List Blk) (hH : H = F0 ++ s.blks e (tab (k * sz) (iv q F)))
    (ho : o.op = .call { callee := .builtin .append, args := #[x, y], argTypes := #[t, t] }) (ht : P.underlying t = some (.slice e)) (he : TyEN P e z sz bytes)
    (hx : ev L x = some (s.val k)) (hs : s.Ok sz k (tab (k * sz) (iv q F))) (hy : ev L y = some (.slice (some ⟨gt, 0, none⟩) 1 c)) (h0 : H[0]? = some ⟨gt, τ, bs.map (.int q)⟩) (hl : bs.length = sz)
    (hF : ∀ j, j < k * sz → F j = G j) (hv : ∀ j, j < sz → bs.getD j 0 = G (k * sz + j)) (hk : k ≤ 1073741824) (hb : bytes ≤ 64) (hk' : k' = k + 1) : XO P N X w0 o L H (RApp F0 e sz k' (tab (k' * sz) (iv q G))) := by
  subst hk'
  refine xo_appT F0 hH ho ht he hx hs hy (news := bs.map (.int q)) (by simp [hl]) (fun W hO => Rd.own_all hO (i := 0) (b := ⟨gt, τ, bs.map (.int q)⟩) h0) one_ints rfl ?_ (by simp only [maxLen]; omega)
    (Nat.le_trans (Nat.mul_le_mul_left _ hb) (by omega))
  rw [tabi_ext hF]
  exact tab_more hl hv
end
theorem as_atN {s : AS} {sz n : Nat} {xs : List Value} (h : s.Ok sz n xs) (hn : 0 < n) : ∃ g sp c, s = .at_ g sp c ∧ n ≤ c := by
  cases s with
  | nil => have := h.1; omega
  | at_ g sp cap => exact ⟨g, sp, cap, rfl, h.1⟩
theorem as_updN {g c n sz : Nat} {sp : List Value} {f f' : Nat → Int} (h : (AS.at_ g sp c).Ok sz n (tab (n * sz) (iv .i64 f))) : (AS.at_ g sp c).Ok sz n (tab (n * sz) (iv .i64 f')) := by
  obtain ⟨h1, h2, h3, h4⟩ := h
  refine ⟨h1, h2, by simp, ?_⟩
  simpa using h4
/-- the words of a slice that grows are named anew -/
theorem as_same {s : AS} {n sz : Nat} {f f' : Nat → Int} (h : s.Ok sz n (tab (n * sz) (iv .i64 f))) (hf : ∀ j, j < n * sz → f j = f' j) : s.Ok sz n (tab (n * sz) (iv .i64 f')) := by
  rw [← tabi_ext hf]; exact h

/-! ### lists of points, boxes and regions -/
def bxE (b : Bx) (i : Nat) : Int := if i = 0 then b.X else if i = 1 then b.Y else if i = 2 then b.W else b.H
def bx0 : Bx := ⟨0, 0, 0, 0⟩
def bxG (l : List Bx) (i : Nat) : Int := bxE (l.getD (i / 4) bx0) (i % 4)
theorem bxG_at {l : List Bx} {k j : Nat} (hj : j < 4) : bxG l (k * 4 + j) = bxE (l.getD k bx0) j := by unfold bxG; rw [show (k * 4 + j) / 4 = k by omega, show (k * 4 + j) % 4 = j by omega]
theorem bxG_pre {l r : List Bx} : ∀ j, j < l.length * 4 → bxG l j = bxG (l ++ r) j := fun j hj => by unfold bxG; rw [getD_app (by omega)]
theorem bxG_new {l : List Bx} {b : Bx} : ∀ j, j < 4 → [b.X, b.Y, b.W, b.H].getD j 0 = bxG (l ++ [b]) (l.length * 4 + j) := fun j hj => by
  rw [bxG_at hj, getD_app2 (Nat.le_refl _), Nat.sub_self]
  rcases j with _ | _ | _ | _ | j
  · rfl
  · rfl
  · rfl
  · rfl
  · omega
theorem bxG_post {l r : List Bx} : ∀ j, j < r.length * 4 → bxG r j = bxG (l ++ r) (l.length * 4 + j) := fun j hj => by
  have h1 : (l.length * 4 + j) / 4 = l.length + j / 4 := by omega
  unfold bxG
  rw [h1, show (l.length * 4 + j) % 4 = j % 4 by omega, getD_app2 (by omega), Nat.add_sub_cancel_left]
theorem ptG_pre {l r : List (Int × Int)} : ∀ j, j < l.length * 2 → ptG l j = ptG (l ++ r) j := fun j hj => by unfold ptG; rw [getD_app (by omega)]
theorem ptG_new {l : List (Int × Int)} {p : Int × Int} : ∀ j, j < 2 → [p.1, p.2].getD j 0 = ptG (l ++ [p]) (l.length * 2 + j) := fun j hj => by
  have h1 : (l ++ [p]).getD l.length (0, 0) = p := by rw [getD_app2 (Nat.le_refl _), Nat.sub_self]; rfl
  rcases j with _ | _ | j
  · rw [ptG_x, h1]; rfl
  · rw [ptG_y, h1]; rfl
  · omega
/-- a list and an error number, in memory that is only read -/
def RNs (sz : Nat) (n : Nat) (G : Nat → Int) (er : Int) (v : Value) (S : List Blk) : Prop := ∃ A c, v = .tuple #[.slice A n c, .int .i64 er] ∧ n ≤ c ∧ Rds S A (tab (n * sz) (iv .i64 G))
theorem rns_nil {w W : World} {H : List Blk} {sz n : Nat} {G : Nat → Int} {er er' : Int} (hO : Ow [] w W H) (hn : n = 0) (he : er' = er) : ∃ v Hn, Ending.returned (.tuple #[.slice none 0 0, .int .i64 er']) = .returned v ∧ RNs sz n G er v Hn ∧ Ow [] w W Hn := by
  subst hn; subst he
  exact ⟨_, [], rfl, ⟨none, 0, rfl, Nat.le_refl _, by rw [Nat.zero_mul]; exact rds_nil⟩, hO.sub (List.nil_sublist _)⟩
theorem rns_as {w W : World} {H : List Blk} {e : TypeId} {s : AS} {sz k n : Nat} {F G : Nat → Int} {er er' : Int} (hO : Ow [] w W H) (hH : (s.blks e (tab (k * sz) (iv .i64 F))).Sublist H) (hs : s.Ok sz k (tab (k * sz) (iv .i64 F))) (hn : k = n) (he : er' = er) (hG : ∀ j, j < k * sz → F j = G j) :
    ∃ v Hn, Ending.returned (.tuple #[s.val k, .int .i64 er']) = .returned v ∧ RNs sz n G er v Hn ∧ Ow [] w W Hn := by
  subst hn; subst he
  refine ⟨_, s.blks e (tab (k * sz) (iv .i64 F)), rfl, ⟨s.adr, s.cap, by rw [AS.val_eq hs], as_le hs, ?_⟩, hO.sub hH⟩
  rw [← tabi_ext hG]
  exact rds_asN hs
theorem rns_pass {w W : World} {S H : List Blk} {A : Option Addr} {c sz n m : Nat} {F G : Nat → Int} {er er' : Int} (hO : Ow [] w W H) (hs : S.Sublist H) (hk : m ≤ c) (hS : Rds S A (tab (m * sz) (iv .i64 F))) (hn : m = n) (he : er' = er) (hG : ∀ j, j < m * sz → F j = G j) :
    ∃ v Hn, Ending.returned (.tuple #[.slice A m c, .int .i64 er']) = .returned v ∧ RNs sz n G er v Hn ∧ Ow [] w W Hn := by
  subst hn; subst he
  refine ⟨_, S, rfl, ⟨A, c, rfl, hk, ?_⟩, hO.sub hs⟩
  rw [← tabi_ext hG]
  exact hS

/-! ### trees on the heap -/
def bxV (b : Bx) (x y : Value) : List Value := [.int .i64 b.X, .int .i64 b.Y, .int .i64 b.W, .int .i64 b.H, x, y]
/-- a tree in blocks of one's own -/
def TR (tt : TypeId) : BT → Value → List Blk → Prop
  | .leaf b, v, S => ∃ g, v = .pointer (some ⟨g, 0, none⟩) ∧ S = [⟨g, tt, bxV b (.pointer none) (.pointer none)⟩]
  | .node b l r, v, S => ∃ g vl vr Sl Sr, v = .pointer (some ⟨g, 0, none⟩) ∧ TR tt l vl Sl ∧ TR tt r vr Sr ∧ S = ⟨g, tt, bxV b vl vr⟩ :: (Sl ++ Sr)
/-- a tree in memory that is read, besides the blocks Y -/
def TAt (w : World) (Y : List Nat) : BT → Value → Prop
  | .leaf b, v => ∃ g, v = .pointer (some ⟨g, 0, none⟩) ∧ g ∉ Y ∧ ∀ (k : Nat) u, (bxV b (.pointer none) (.pointer none))[k]? = some u → w.cell? ⟨g, k, none⟩ = some u
  | .node b l r, v => ∃ g vl vr, v = .pointer (some ⟨g, 0, none⟩) ∧ g ∉ Y ∧ (∀ (k : Nat) u, (bxV b vl vr)[k]? = some u → w.cell? ⟨g, k, none⟩ = some u) ∧ TAt w Y l vl ∧ TAt w Y r vr
theorem TAt.ptr {w : World} {Y : List Nat} : ∀ {T : BT} {v : Value}, TAt w Y T v → ∃ g, v = .pointer (some ⟨g, 0, none⟩)
  | .leaf _, _, ⟨g, h, _⟩ => ⟨g, h⟩
  | .node _ _ _, _, ⟨g, _, _, h, _⟩ => ⟨g, h⟩
theorem TR.ptr {tt : TypeId} : ∀ {T : BT} {v : Value} {S : List Blk}, TR tt T v S → ∃ g, v = .pointer (some ⟨g, 0, none⟩)
  | .leaf _, _, _, ⟨g, h, _⟩ => ⟨g, h⟩
  | .node _ _ _, _, _, ⟨g, _, _, _, _, h, _⟩ => ⟨g, h⟩
theorem own_cell {X : List Nat} {w0 w : World} {H : List Blk} {b : Blk} (h : Ow X w0 w H) (hb : b ∈ H) (k : Nat) (u : Value) (hu : b.cs[k]? = some u) : w.cell? ⟨b.g, k, none⟩ = some u := by
  obtain ⟨i, hi⟩ := List.getElem?_of_mem hb
  rw [h.cell hi]
  exact hu
theorem tr_at {X : List Nat} {w0 w : World} {tt : TypeId} {H : List Blk} (hO : Ow X w0 w H) : ∀ {T : BT} {v : Value} {S : List Blk}, TR tt T v S → (∀ b ∈ S, b ∈ H) → TAt w [] T v
  | .leaf b, _, _, ⟨g, h1, h2⟩, hs => ⟨g, h1, by simp, fun k u hu => own_cell hO (hs ⟨g, tt, bxV b (.pointer none) (.pointer none)⟩ (by rw [h2]; simp)) k u hu⟩
  | .node b l r, _, _, ⟨g, vl, vr, Sl, Sr, h1, h2, h3, h4⟩, hs => ⟨g, vl, vr, h1, by simp, fun k u hu => own_cell hO (hs ⟨g, tt, bxV b vl vr⟩ (by rw [h4]; simp)) k u hu,
      tr_at hO h2 (fun c hc => hs c (by rw [h4]; simp [hc])), tr_at hO h3 (fun c hc => hs c (by rw [h4]; simp [hc]))⟩
/-- the tree stays, while the slice s grows to s1 -/
theorem TAt.stay {w W : World} {s s1 : AS} {e : TypeId} {xs : List Value} {F : List Blk} (hO : Ow s.ids w W (F ++ s1.blks e xs)) : ∀ {T : BT} {v : Value}, TAt w s.ids T v → TAt W s1.ids T v := by
  have key : ∀ {g : Nat} {cs : List Value}, 0 < cs.length → g ∉ s.ids → (∀ (k : Nat) u, cs[k]? = some u → w.cell? ⟨g, k, none⟩ = some u) → g ∉ s1.ids ∧ ∀ (k : Nat) u, cs[k]? = some u → W.cell? ⟨g, k, none⟩ = some u := by
    intro g cs hl hn hc
    have hlt := World.block_lt_of_cell? w _ (hc 0 _ (List.getElem?_eq_getElem hl))
    refine ⟨fun c => ?_, fun k u hu => ?_⟩
    · obtain ⟨b, hb, e⟩ := List.mem_map.1 (ids_mem (e := e) (xs := xs) c)
      have hlt' : g < w.heap.size := hlt
      rcases (hO.own b (List.mem_append_right _ hb)).2 with q | q
      · omega
      · exact hn (e ▸ q)
    · rw [World.cell?_of_block (w := w) (hO.old g hlt hn)]
      exact hc k u hu
  intro T
  induction T with
  | leaf b =>
    rintro v ⟨g, h1, h2, h3⟩
    have := key (by simp [bxV]) h2 h3
    exact ⟨g, h1, this.1, this.2⟩
  | node b l r i1 i2 =>
    rintro v ⟨g, vl, vr, h1, h2, h3, h4, h5⟩
    have := key (by simp [bxV]) h2 h3
    exact ⟨g, vl, vr, h1, this.1, this.2, i1 h4, i2 h5⟩
end Go.Bs
