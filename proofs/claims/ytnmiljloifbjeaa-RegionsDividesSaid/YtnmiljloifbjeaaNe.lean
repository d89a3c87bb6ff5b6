/-
  Slices whose elements have several cells, all integers of one kind. No program is named here.
-/
import Derived.Test.YtnmiljloifbjeaaBm
namespace Go.Bs
open Go.RowKit Go.Eng
section
variable {P : Program} {N : Sz} {X : List Nat} {w0 : World} {o : Oper} {L : List (Nat × Value)} {H : List Blk}
theorem tab_more {q : IntKind} {k sz : Nat} {G : Nat → Int} {bs : List Int} (hl : bs.length = sz) (hv : ∀ j, j < sz → bs.getD j 0 = G (k * sz + j)) : tab (k * sz) (iv q G) ++ bs.map (.int q) = tab ((k + 1) * sz) (iv q G) := by
  have e : bs.map (Value.int q) = tab sz (fun j => iv q G (k * sz + j)) := by
    rw [tab_of bs 0, hl]
    unfold tab
    rw [List.map_map]
    exact List.map_congr_left fun j hj => by
      have := hv j (by simpa using hj)
      simp only [Function.comp]
      unfold iv
      rw [this]
  rw [e, tab_app, Nat.add_mul, Nat.one_mul]
  refine tab_ext fun i _ => ?_
  split
  · rfl
  · rw [show k * sz + (i - k * sz) = i by omega]
theorem one_ints {q : IntKind} {bs : List Int} : ∀ u ∈ bs.map (Value.int q), u.oneCell' = true := by
  intro u hu
  obtain ⟨a, _, rfl⟩ := List.mem_map.1 hu
  rfl
theorem xo_appN {q : IntKind} {t e τ : TypeId} {z : Value} {sz bytes : Nat} {x y : Operand} {s : AS} {k c gt : Nat} {G : Nat → Int} (bs : List Int) (i : Nat) (hH : H.drop i = s.blks e (tab (k * sz) (iv q G)))
    (ho : o.op = .call { callee := .builtin .append, args := #[x, y], argTypes := #[t, t] }) (ht : P.underlying t = some (.slice e)) (he : TyEN P e z sz bytes)
    (hx : ev L x = some (s.val k)) (hs : s.Ok sz k (tab (k * sz) (iv q G))) (hy : ev L y = some (.slice (some ⟨gt, 0, none⟩) 1 c)) (h0 : H[0]? = some ⟨gt, τ, bs.map (.int q)⟩) (hl : bs.length = sz)
    (hv : ∀ j, j < sz → bs.getD j 0 = G (k * sz + j)) (hk : k ≤ 1073741824) (hb : bytes ≤ 64) : XO P N X w0 o L H (RApp (H.take i) e sz (k + 1) (tab ((k + 1) * sz) (iv q G))) :=
  xo_app i hH ho ht he hx hs hy (news := bs.map (.int q)) (by simp [hl]) (fun W hO => Rd.own_all hO (i := 0) (b := ⟨gt, τ, bs.map (.int q)⟩) h0) one_ints rfl (tab_more hl hv) (by simp only [maxLen]; omega)
    (Nat.le_trans (Nat.mul_le_mul_left _ hb) (by omega))
theorem xo_appT {t e : TypeId} {z : Value} {sz bytes : Nat} {x y : Operand} {s : AS} {n m c n' : Nat} {xs news ys : List Value} {A : Option Addr} (F : List Blk) (hH : H = F ++ s.blks e xs)
    (ho : o.op = .call { callee := .builtin .append, args := #[x, y], argTypes := #[t, t] }) (ht : P.underlying t = some (.slice e)) (he : TyEN P e z sz bytes)
    (hx : ev L x = some (s.val n)) (hs : s.Ok sz n xs) (hy : ev L y = some (.slice A m c)) (hm : news.length = m * sz) (hr : ∀ W, Ow X w0 W H → Rd W A news) (h1 : ∀ u ∈ news, u.oneCell' = true)
    (hn : n + m = n') (hys : xs ++ news = ys) (h63 : n' ≤ maxLen) (hb : n' * bytes ≤ 140737488355328) : XO P N X w0 o L H (RApp F e sz n' ys) := by
  subst hn
  subst hys
  exact xo_append F hH ho ht he hx hs hy hm hr h1 h63 hb
theorem xo_app1bT {t e τ : TypeId} {x y : Operand} {s : AS} {k c gt : Nat} {G : Nat → Bool} {b : Bool} (F : List Blk) (hH : H = F ++ s.blks e (tab k (bv G)))
    (ho : o.op = .call { callee := .builtin .append, args := #[x, y], argTypes := #[t, t] }) (ht : P.underlying t = some (.slice e)) (he : TyE P e (.bool false) 1)
    (hx : ev L x = some (s.val k)) (hs : s.Ok 1 k (tab k (bv G))) (hy : ev L y = some (.slice (some ⟨gt, 0, none⟩) 1 c)) (h0 : H[0]? = some ⟨gt, τ, [.bool b]⟩) (hv : b = G k) (hk : k ≤ 1073741824) : XO P N X w0 o L H (RApp F e 1 (k + 1) (tab (k + 1) (bv G))) :=
  xo_appT F hH ho ht he.toN hx hs hy (news := [.bool b]) rfl (fun W hO => Rd.own_all hO (i := 0) (b := ⟨gt, τ, [.bool b]⟩) h0) (by simp [Value.oneCell']) rfl (by rw [tab_succ, hv]; rfl) (by simp only [maxLen]; omega) (by omega)
theorem xo_app1iT {q : IntKind} {t e τ : TypeId} {bytes : Nat} {x y : Operand} {s : AS} {k c gt : Nat} {G : Nat → Int} {b : Int} (F : List Blk) (hH : H = F ++ s.blks e (tab k (iv q G)))
    (ho : o.op = .call { callee := .builtin .append, args := #[x, y], argTypes := #[t, t] }) (ht : P.underlying t = some (.slice e)) (he : TyE P e (.int q 0) bytes)
    (hx : ev L x = some (s.val k)) (hs : s.Ok 1 k (tab k (iv q G))) (hy : ev L y = some (.slice (some ⟨gt, 0, none⟩) 1 c)) (h0 : H[0]? = some ⟨gt, τ, [.int q b]⟩) (hv : b = G k) (hk : k ≤ 1073741824) (hb : bytes ≤ 8) : XO P N X w0 o L H (RApp F e 1 (k + 1) (tab (k + 1) (iv q G))) :=
  xo_appT F hH ho ht he.toN hx hs hy (news := [.int q b]) rfl (fun W hO => Rd.own_all hO (i := 0) (b := ⟨gt, τ, [.int q b]⟩) h0) (by simp [Value.oneCell']) rfl (by rw [tab_succ, hv]; rfl) (by simp only [maxLen]; omega) (Nat.le_trans (Nat.mul_le_mul_left _ hb) (by omega))
theorem xo_appNT {q : IntKind} {t e τ : TypeId} {z : Value} {sz bytes : Nat} {x y : Operand} {s : AS} {k c gt : Nat} {G : Nat → Int} (bs : List Int) (F : List Blk) (hH : H = F ++ s.blks e (tab (k * sz) (iv q G)))
    (ho : o.op = .call { callee := .builtin .append, args := #[x, y], argTypes := #[t, t] }) (ht : P.underlying t = some (.slice e)) (he : TyEN P e z sz bytes)
    (hx : ev L x = some (s.val k)) (hs : s.Ok sz k (tab (k * sz) (iv q G))) (hy : ev L y = some (.slice (some ⟨gt, 0, none⟩) 1 c)) (h0 : H[0]? = some ⟨gt, τ, bs.map (.int q)⟩) (hl : bs.length = sz)
    (hv : ∀ j, j < sz → bs.getD j 0 = G (k * sz + j)) (hk : k ≤ 1073741824) (hb : bytes ≤ 64) : XO P N X w0 o L H (RApp F e sz (k + 1) (tab ((k + 1) * sz) (iv q G))) :=
  xo_appT F hH ho ht he hx hs hy (news := bs.map (.int q)) (by simp [hl]) (fun W hO => Rd.own_all hO (i := 0) (b := ⟨gt, τ, bs.map (.int q)⟩) h0) one_ints rfl (tab_more hl hv) (by simp only [maxLen]; omega)
    (Nat.le_trans (Nat.mul_le_mul_left _ hb) (by omega))
theorem sub_nil {T : List Blk} : (T ++ ([] : List Blk)).Sublist T := by rw [List.append_nil]; exact List.Sublist.refl _
theorem AS.OkN {F : Nat → Value} {sz : Nat} : AS.Ok sz 0 (tab (0 * sz) F) .nil := ⟨rfl, by rw [Nat.zero_mul]; rfl⟩
theorem rds_asN {s : AS} {e : TypeId} {sz n : Nat} {xs : List Value} (h : s.Ok sz n xs) : Rds (s.blks e xs) s.adr xs := fun X w0 _ hO => AS.reads (X := X) (w0 := w0) (F := []) h (by simpa using hO)
/-- an index into a slice that is known by its reading -/
theorem eo_indexNS {t e : TypeId} {sz : Nat} {k : IntKind} {x y : Operand} {A : Option Addr} {n c M : Nat} {i : Int} {F : Nat → Value} (ho : o.op = .indexAddr t x y) (ht : TySl P t e sz) (hx : ev L x = some (.slice A n c)) (hy : ev L y = some (.int k i))
    (hr : ∀ W, Ow X w0 W H → Rd W A (tab M F)) (h0 : 0 ≤ i) (h1 : i < n) (hz : i.toNat * sz < M) : EO P N X w0 o L H (.pointer (some ⟨bl A, of A + i.toNat * sz, none⟩)) := by
  intro a W hF hO
  have hA := ((hr W hO) (i.toNat * sz) (by simpa using hz)).1
  rw [hA] at hx
  exact eo_indexN ho ht hx hy h0 h1 a W hF hO
/-- a cell of an element -/
theorem eo_loadNS {t : TypeId} {q : IntKind} {x : Operand} {A : Option Addr} {j fld M : Nat} {G : Nat → Int} (ho : o.op = .load t x) (ht : TyS P t) (hx : ev L x = some (.pointer (some ⟨bl A, of A + j + fld, none⟩)))
    (hr : ∀ W, Ow X w0 W H → Rd W A (tab M (iv q G))) (hk : j + fld < M) : EO P N X w0 o L H (.int q (G (j + fld))) :=
  eo_loadS ho ht hx fun W hO => by rw [Nat.add_assoc]; exact Rd.tabi (hr W hO) hk
/-- a whole element -/
theorem eo_loadNA {t : TypeId} {q : IntKind} {sz : Nat} {x : Operand} {A : Option Addr} {j M : Nat} {G : Nat → Int} (ho : o.op = .load t x) (ht : TyA P t sz) (hx : ev L x = some (.pointer (some ⟨bl A, of A + j, none⟩)))
    (hr : ∀ W, Ow X w0 W H → Rd W A (tab M (iv q G))) (hk : j + sz ≤ M) : EO P N X w0 o L H (.agg (tab sz fun d => Value.int q (G (j + d))).toArray) :=
  eo_val fun a W hF hO => by
    have hc : ∀ d, d < sz → W.cell? ⟨bl A, of A + j + d, none⟩ = (tab sz fun d => Value.int q (G (j + d)))[d]? := fun d hd => by
      rw [tab_get hd, Nat.add_assoc]
      exact Rd.tabi (hr W hO) (by omega)
    simp [execOp, ho, hF.eval hx, run_loadA ht (tab_len) hc]
end
/-- a list of elements of several cells, in memory that is only read -/
def RLN (sz n : Nat) (G : Nat → Int) (v : Value) (S : List Blk) : Prop := ∃ A c, v = .slice A n c ∧ n ≤ c ∧ Rds S A (tab (n * sz) (iv .i64 G))
theorem rln_nil {w W : World} {H : List Blk} {sz : Nat} {G : Nat → Int} (hO : Ow [] w W H) : ∃ v Hn, Ending.returned (.slice none 0 0) = .returned v ∧ RLN sz 0 G v Hn ∧ Ow [] w W Hn :=
  ⟨_, [], rfl, ⟨none, 0, rfl, Nat.le_refl _, by rw [Nat.zero_mul]; exact rds_nil⟩, hO.sub (List.nil_sublist _)⟩
theorem rln_as {w W : World} {H : List Blk} {e : TypeId} {s : AS} {sz k n : Nat} {F G : Nat → Int} (i : Nat) (hO : Ow [] w W H) (hH : H.drop i = s.blks e (tab (k * sz) (iv .i64 F))) (hs : s.Ok sz k (tab (k * sz) (iv .i64 F))) (hn : k = n) (hG : ∀ j, j < k * sz → F j = G j) :
    ∃ v Hn, Ending.returned (s.val k) = .returned v ∧ RLN sz n G v Hn ∧ Ow [] w W Hn := by
  subst hn
  refine ⟨_, s.blks e (tab (k * sz) (iv .i64 F)), rfl, ⟨s.adr, s.cap, by rw [AS.val_eq hs], as_le hs, ?_⟩, hO.tl i hH (List.Sublist.refl _)⟩
  rw [← tabi_ext hG]
  exact rds_asN hs
end Go.Bs
