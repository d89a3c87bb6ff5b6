/-
  Bitmaps and images as plain data, and contracts that hand back memory which is only read. Further forms of slicing, indexing and arithmetic.
  No program is named here.
-/
import Derived.Test.YtnmiljloifbjeaaPb
namespace Go.Bs
open Go.RowKit Go.Eng

structure Pm (α : Type) where
  W : Int
  H : Int
  n : Nat
  f : Nat → α

/-- the blocks S make the slice at A read as xs -/
def Rds (S : List Blk) (A : Option Addr) (xs : List Value) : Prop := ∀ (X : List Nat) (w0 W : World), Ow X w0 W S → Rd W A xs
theorem Rds.rd {S : List Blk} {A : Option Addr} {xs : List Value} (h : Rds S A xs) {X : List Nat} {w0 W : World} (hO : Ow X w0 W S) : Rd W A xs := h X w0 W hO
def RX (p : Pm Bool × Int) (v : Value) (S : List Blk) : Prop :=
  ∃ A c, v = .tuple #[.agg #[.int .i64 p.1.W, .int .i64 p.1.H, .slice A p.1.n c], .int .i64 p.2] ∧ p.1.n ≤ c ∧ Rds S A (tab p.1.n (bv p.1.f))
def RXi (p : Pm Int × Int) (v : Value) (S : List Blk) : Prop :=
  ∃ A c, v = .tuple #[.agg #[.int .i64 p.1.W, .int .i64 p.1.H, .slice A p.1.n c], .int .i64 p.2] ∧ p.1.n ≤ c ∧ Rds S A (tab p.1.n (iv .u8 p.1.f))
def noB : Pm Bool := ⟨0, 0, 0, fun _ => false⟩
def noI : Pm Int := ⟨0, 0, 0, fun _ => 0⟩
def litF {α : Type} (d : α) (l : List α) (i : Nat) : α := l.getD i d
def Pm.vld {α : Type} (m : Pm α) : Bool := vldB m.W m.H m.n
def Pm.at_ (m : Pm Bool) (x y : Int) : Bool := atB m.W m.H m.n m.f x y
def eqP {α : Type} [DecidableEq α] (a b : Pm α) : Bool := eqM a.W a.H a.n a.f b.W b.H b.n b.f
theorem eqP_rf {α : Type} [DecidableEq α] (a : Pm α) : eqP a a = true := eqM_rf _ _ _ _
theorem eqP_yes {α : Type} [DecidableEq α] {a b : Pm α} (h1 : a.W = b.W) (h2 : a.H = b.H) (h3 : a.n = b.n) (h4 : ∀ i, i < a.n → a.f i = b.f i) : eqP a b = true := eqM_yes h1 h2 h3 h4

theorem _root_.Go.Eng.Ow.tl {X : List Nat} {w0 w : World} {H S T : List Blk} (hO : Ow X w0 w H) (i : Nat) (hT : H.drop i = T) (hs : S.Sublist T) : Ow X w0 w S := by
  subst hT
  exact hO.sub (hs.trans (List.drop_sublist i H))
theorem rds_own {g n : Nat} {e : TypeId} {F : Nat → Value} {sp : List Value} : Rds [⟨g, e, tab n F ++ sp⟩] (some ⟨g, 0, none⟩) (tab n F) := fun _ _ _ hO => tabs_rd hO 0 rfl
theorem rds_nil {A : Option Addr} {F : Nat → Value} : Rds [] A (tab 0 F) := fun _ _ _ _ => Rd.nil
theorem rds_as {s : AS} {e : TypeId} {n : Nat} {xs : List Value} (h : s.Ok 1 n xs) : Rds (s.blks e xs) s.adr xs := fun X w0 _ hO => AS.reads (X := X) (w0 := w0) (F := []) h (by simpa using hO)

section rx
variable {w W : World} {H : List Blk} {a h er : Int} {g n c : Nat} {e : TypeId} {sp : List Value}
theorem rx_own {f F : Nat → Bool} {p : Pm Bool × Int} (i : Nat) (hO : Ow [] w W H) (hi : H[i]? = some ⟨g, e, tab n (bv f) ++ sp⟩) (hp : p = (⟨a, h, n, F⟩, er)) (hf : ∀ j, j < n → f j = F j) (hc : n ≤ c) :
    ∃ v Hn, Ending.returned (.tuple #[.agg #[.int .i64 a, .int .i64 h, .slice (some ⟨g, 0, none⟩) n c], .int .i64 er]) = .returned v ∧ RX p v Hn ∧ Ow [] w W Hn := by
  subst hp
  refine ⟨_, _, rfl, ⟨_, c, rfl, hc, ?_⟩, hO.pick i hi⟩
  rw [tabb_ext hf]
  exact rds_own
theorem rxi_own {f F : Nat → Int} {p : Pm Int × Int} (i : Nat) (hO : Ow [] w W H) (hi : H[i]? = some ⟨g, e, tab n (iv .u8 f) ++ sp⟩) (hp : p = (⟨a, h, n, F⟩, er)) (hf : ∀ j, j < n → f j = F j) (hc : n ≤ c) :
    ∃ v Hn, Ending.returned (.tuple #[.agg #[.int .i64 a, .int .i64 h, .slice (some ⟨g, 0, none⟩) n c], .int .i64 er]) = .returned v ∧ RXi p v Hn ∧ Ow [] w W Hn := by
  subst hp
  refine ⟨_, _, rfl, ⟨_, c, rfl, hc, ?_⟩, hO.pick i hi⟩
  rw [tabi_ext hf]
  exact rds_own
theorem rx_nil {p : Pm Bool × Int} (hO : Ow [] w W H) (hp : p = (noB, er)) :
    ∃ v Hn, Ending.returned (.tuple #[.agg #[.int .i64 0, .int .i64 0, .slice none 0 0], .int .i64 er]) = .returned v ∧ RX p v Hn ∧ Ow [] w W Hn := by
  subst hp
  exact ⟨_, [], rfl, ⟨none, 0, rfl, Nat.le_refl _, rds_nil⟩, hO.sub (List.nil_sublist _)⟩
theorem rxi_nil {p : Pm Int × Int} (hO : Ow [] w W H) (hp : p = (noI, er)) :
    ∃ v Hn, Ending.returned (.tuple #[.agg #[.int .i64 0, .int .i64 0, .slice none 0 0], .int .i64 er]) = .returned v ∧ RXi p v Hn ∧ Ow [] w W Hn := by
  subst hp
  exact ⟨_, [], rfl, ⟨none, 0, rfl, Nat.le_refl _, rds_nil⟩, hO.sub (List.nil_sublist _)⟩
theorem as_le {s : AS} {sz k : Nat} {xs : List Value} (h : s.Ok sz k xs) : k ≤ s.cap := by
  cases s with
  | nil => have := h.1; simp [AS.cap]; omega
  | at_ g sp cap => exact h.1
theorem rx_as {s : AS} {k : Nat} {F : Nat → Bool} {p : Pm Bool × Int} (i : Nat) (hO : Ow [] w W H) (hH : H.drop i = s.blks e (tab k (bv F))) (hs : s.Ok 1 k (tab k (bv F))) (hp : p = (⟨a, h, k, F⟩, er)) :
    ∃ v Hn, Ending.returned (.tuple #[.agg #[.int .i64 a, .int .i64 h, s.val k], .int .i64 er]) = .returned v ∧ RX p v Hn ∧ Ow [] w W Hn := by
  subst hp
  refine ⟨_, s.blks e (tab k (bv F)), rfl, ⟨s.adr, s.cap, by rw [AS.val_eq hs], as_le hs, rds_as hs⟩, hO.tl i hH (List.Sublist.refl _)⟩
theorem rxi_as {s : AS} {k : Nat} {F : Nat → Int} {p : Pm Int × Int} (i : Nat) (hO : Ow [] w W H) (hH : H.drop i = s.blks e (tab k (iv .u8 F))) (hs : s.Ok 1 k (tab k (iv .u8 F))) (hp : p = (⟨a, h, k, F⟩, er)) :
    ∃ v Hn, Ending.returned (.tuple #[.agg #[.int .i64 a, .int .i64 h, s.val k], .int .i64 er]) = .returned v ∧ RXi p v Hn ∧ Ow [] w W Hn := by
  subst hp
  refine ⟨_, s.blks e (tab k (iv .u8 F)), rfl, ⟨s.adr, s.cap, by rw [AS.val_eq hs], as_le hs, rds_as hs⟩, hO.tl i hH (List.Sublist.refl _)⟩
/-- what a callee handed back is handed on -/
theorem rx_pass {S : List Blk} {A : Option Addr} {p q : Pm Bool × Int} (hO : Ow [] w W S) (hk : q.1.n ≤ c) (hS : Rds S A (tab q.1.n (bv q.1.f))) (hp : p = q) :
    ∃ v Hn, Ending.returned (.tuple #[.agg #[.int .i64 q.1.W, .int .i64 q.1.H, .slice A q.1.n c], .int .i64 q.2]) = .returned v ∧ RX p v Hn ∧ Ow [] w W Hn := by
  subst hp
  exact ⟨_, S, rfl, ⟨A, c, rfl, hk, hS⟩, hO⟩
/-- .. with another error number -/
theorem rx_give {S : List Blk} {A : Option Addr} {m : Pm Bool} {p : Pm Bool × Int} (hO : Ow [] w W S) (hk : m.n ≤ c) (hS : Rds S A (tab m.n (bv m.f))) (hp : p = (m, er)) :
    ∃ v Hn, Ending.returned (.tuple #[.agg #[.int .i64 m.W, .int .i64 m.H, .slice A m.n c], .int .i64 er]) = .returned v ∧ RX p v Hn ∧ Ow [] w W Hn := by
  subst hp
  exact ⟨_, S, rfl, ⟨A, c, rfl, hk, hS⟩, hO⟩
theorem rxi_pass {S : List Blk} {A : Option Addr} {p q : Pm Int × Int} (hO : Ow [] w W S) (hk : q.1.n ≤ c) (hS : Rds S A (tab q.1.n (iv .u8 q.1.f))) (hp : p = q) :
    ∃ v Hn, Ending.returned (.tuple #[.agg #[.int .i64 q.1.W, .int .i64 q.1.H, .slice A q.1.n c], .int .i64 q.2]) = .returned v ∧ RXi p v Hn ∧ Ow [] w W Hn := by
  subst hp
  exact ⟨_, S, rfl, ⟨A, c, rfl, hk, hS⟩, hO⟩
end rx

section ops
variable {P : Program} {N : Sz} {X : List Nat} {w0 : World} {o : Oper} {L : List (Nat × Value)} {H : List Blk} {R : Value → List Blk → Prop}
theorem own_perm_news {w w' : World} {Hn : List Blk} (h : Ow X w0 w H) (h' : Ow [] w w' Hn) : Ow X w0 w' (H ++ Hn) := (h.news h').perm List.perm_append_comm
theorem fr_newsT {W W' : World} {Hn : List Blk} (h' : Ow [] W W' Hn) : Fr H W (H ++ Hn) W' :=
  ⟨h'.size, fun k hk _ => h'.old k hk (by simp), fun b hb => (Fr.news (H := H) h').ids b (by rcases List.mem_append.1 hb with h | h <;> simp [h])⟩
/-- a callee's new blocks, behind one's own -/
theorem xo_freshT {f : FuncId} {args : List Operand} {tys : Array TypeId} {vs : List Value} (ho : o.op = .call { callee := .value (.func f), args := args.toArray, argTypes := tys }) (hE : Ent P f) (hv : evs L args = some vs)
    (hc : ∀ W, Ow X w0 W H → Calls P f vs.toArray W fun e W' => ∃ v Hn, e = .returned v ∧ R v Hn ∧ Ow [] W W' Hn) : XO P N X w0 o L H (fun v H' => ∃ Hn, R v Hn ∧ H' = H ++ Hn) :=
  xo_call ho hE hv fun W hO => (hc W hO).mono fun _ _ ⟨v, Hn, he, hR, hO'⟩ => ⟨v, H ++ Hn, he, ⟨Hn, hR, rfl⟩, own_perm_news hO hO', fr_newsT hO'⟩
theorem xo_freshTv {f : FuncId} {fx : Operand} {first captured : List Value} {args : List Operand} {tys : Array TypeId} {vs : List Value} (ho : o.op = .call { callee := .value fx, args := args.toArray, argTypes := tys }) (hfx : ev L fx = some (.func (.func f) first.toArray captured.toArray)) (hE : Ent P f) (hv : evs L args = some vs)
    (hc : ∀ W, Ow X w0 W H → Calls P f (first ++ vs ++ captured).toArray W fun e W' => ∃ v Hn, e = .returned v ∧ R v Hn ∧ Ow [] W W' Hn) : XO P N X w0 o L H (fun v H' => ∃ Hn, R v Hn ∧ H' = H ++ Hn) :=
  xo_callv ho hfx hE hv fun W hO => (hc W hO).mono fun _ _ ⟨v, Hn, he, hR, hO'⟩ => ⟨v, H ++ Hn, he, ⟨Hn, hR, rfl⟩, own_perm_news hO hO', fr_newsT hO'⟩
theorem xo_freshv {f : FuncId} {fx : Operand} {first captured : List Value} {args : List Operand} {tys : Array TypeId} {vs : List Value} (ho : o.op = .call { callee := .value fx, args := args.toArray, argTypes := tys }) (hfx : ev L fx = some (.func (.func f) first.toArray captured.toArray)) (hE : Ent P f) (hv : evs L args = some vs)
    (hc : ∀ W, Ow X w0 W H → Calls P f (first ++ vs ++ captured).toArray W fun e W' => ∃ v Hn, e = .returned v ∧ R v Hn ∧ Ow [] W W' Hn) : XO P N X w0 o L H (fun v H' => ∃ Hn, R v Hn ∧ H' = Hn ++ H) :=
  xo_callv ho hfx hE hv fun W hO => (hc W hO).mono fun _ _ ⟨v, Hn, he, hR, hO'⟩ => ⟨v, Hn ++ H, he, ⟨Hn, hR, rfl⟩, hO.news hO', Fr.news hO'⟩

theorem eo_loadS {t : TypeId} {x : Operand} {g k : Nat} {v : Value} (ho : o.op = .load t x) (ht : TyS P t) (hx : ev L x = some (.pointer (some ⟨g, k, none⟩))) (hc : ∀ W, Ow X w0 W H → W.cell? ⟨g, k, none⟩ = some v) : EO P N X w0 o L H v :=
  eo_val fun a W hF hO => by simp [execOp, ho, hF.eval hx, Go.Eng.run_load ht (hc W hO)]
theorem eo_indexS {t e : TypeId} {k : IntKind} {x y : Operand} {A : Option Addr} {n c : Nat} {i : Int} {xs : List Value} (ho : o.op = .indexAddr t x y) (ht : TySl P t e 1) (hx : ev L x = some (.slice A n c)) (hy : ev L y = some (.int k i)) (hr : ∀ W, Ow X w0 W H → Rd W A xs) (hn : n = xs.length) (h0 : 0 ≤ i) (h1 : i < n) : EO P N X w0 o L H (.pointer (some ⟨bl A, of A + i.toNat, none⟩)) :=
  fun a W hF hO => eo_indexR ho ht hx hy (hr W hO) hn h0 h1 a W hF hO
theorem eo_indexC {t e : TypeId} {k : IntKind} {x y : Operand} {b off m n c : Nat} {i : Int} (ho : o.op = .indexAddr t x y) (ht : TySl P t e 1) (hx : ev L x = some (.slice (some ⟨b, off + m, none⟩) n c)) (hy : ev L y = some (.int k i)) (h0 : 0 ≤ i) (h1 : i < n) : EO P N X w0 o L H (.pointer (some ⟨b, off + (m + i.toNat), none⟩)) := by
  have := eo_index (P := P) (N := N) (X := X) (w0 := w0) (H := H) ho ht hx hy h0 h1
  rwa [Nat.add_assoc] at this
theorem eo_slS {t e : TypeId} {kl kh : IntKind} {x y z : Operand} {A : Option Addr} {n c : Nat} {xs : List Value} {l h : Int} (ho : o.op = .slice t x (some y) (some z) none) (ht : TySl P t e 1) (hx : ev L x = some (.slice A n c)) (hy : ev L y = some (.int kl l)) (hz : ev L z = some (.int kh h)) (hr : ∀ W, Ow X w0 W H → Rd W A xs) (h0 : 0 ≤ l) (h1 : l ≤ h) (h2 : h ≤ c) (h3 : l < c) (h4 : l.toNat < xs.length) :
    EO P N X w0 o L H (.slice (some ⟨bl A, of A + l.toNat, none⟩) (h.toNat - l.toNat) (c - l.toNat)) :=
  fun a W hF hO => eo_slR ho ht hx hy hz (hr W hO) h0 h1 h2 h3 h4 a W hF hO
/-- s[l:] -/
theorem eo_slL {t e : TypeId} {sz : Nat} {kl : IntKind} {x y : Operand} {A : Option Addr} {n c : Nat} {l : Int} (ho : o.op = .slice t x (some y) none none) (ht : TySl P t e sz) (hx : ev L x = some (.slice A n c)) (hy : ev L y = some (.int kl l)) (h0 : 0 ≤ l) (h1 : l ≤ n) (h2 : n ≤ c) :
    EO P N X w0 o L H (.slice (if c = l.toNat then A else A.map (·.add (l.toNat * sz))) (n - l.toNat) (c - l.toNat)) :=
  eo_val fun a W hF _ => by
    have hs := Go.Eng.run_sizeOf (P := P) ht.info W
    have c2 : 0 ≤ l ∧ l ≤ n := ⟨h0, h1⟩
    simp [execOp, ho, hF.eval hx, hF.eval hy, Instr.sliceAt, run_underlying ht.und, Instr.slice, Instr.sliceBounds, Instr.sliceBound, asIntOf, c2, h2, hs]
theorem eo_slLA {t e : TypeId} {kl : IntKind} {x y : Operand} {b off n c : Nat} {l : Int} (ho : o.op = .slice t x (some y) none none) (ht : TySl P t e 1) (hx : ev L x = some (.slice (some ⟨b, off, none⟩) n c)) (hy : ev L y = some (.int kl l)) (h0 : 0 ≤ l) (h1 : l < n) (h2 : n ≤ c) :
    EO P N X w0 o L H (.slice (some ⟨b, off + l.toNat, none⟩) (n - l.toNat) (c - l.toNat)) := by
  have := eo_slL (P := P) (N := N) (X := X) (w0 := w0) (H := H) ho ht hx hy h0 (by omega) h2
  rw [if_neg (by omega), Nat.mul_one] at this
  simpa [Addr.add_lit] using this
theorem eo_slL0 {t e : TypeId} {kl : IntKind} {x y : Operand} {b n c : Nat} {l : Int} (ho : o.op = .slice t x (some y) none none) (ht : TySl P t e 1) (hx : ev L x = some (.slice (some ⟨b, 0, none⟩) n c)) (hy : ev L y = some (.int kl l)) (h0 : 0 ≤ l) (h1 : l < n) (h2 : n ≤ c) :
    EO P N X w0 o L H (.slice (some ⟨b, l.toNat, none⟩) (n - l.toNat) (c - l.toNat)) := by
  have := eo_slLA (P := P) (N := N) (X := X) (w0 := w0) (H := H) ho ht hx hy h0 h1 h2
  rwa [Nat.zero_add] at this
/-- s[:h] -/
theorem eo_slH {t e : TypeId} {sz : Nat} {kh : IntKind} {x z : Operand} {A : Option Addr} {n c : Nat} {h : Int} (ho : o.op = .slice t x none (some z) none) (ht : TySl P t e sz) (hx : ev L x = some (.slice A n c)) (hz : ev L z = some (.int kh h)) (h0 : 0 ≤ h) (h2 : h ≤ c) :
    EO P N X w0 o L H (.slice A h.toNat c) :=
  eo_val fun a W hF _ => by
    have hs := Go.Eng.run_sizeOf (P := P) ht.info W
    have hA : A.map (fun q => q.add (0 * sz)) = A := by cases A <;> simp [Addr.add]
    have hA2 : A.map (fun q => q.add 0) = A := by cases A <;> simp [Addr.add]
    simp [execOp, ho, hF.eval hx, hF.eval hz, Instr.sliceAt, run_underlying ht.und, Instr.slice, Instr.sliceBounds, Instr.sliceBound, asIntOf, h0, h2, hs, hA2]

theorem tabs_cutb {w : World} {e : TypeId} {g n off m : Nat} {f : Nat → Bool} {sp : List Value} (hO : Ow X w0 w H) (i : Nat) (hi : H[i]? = some ⟨g, e, tab n (bv f) ++ sp⟩) (h : off + m ≤ n) : Rd w (some ⟨g, off, none⟩) (tab m (bv fun j => f (off + j))) := by
  have h1 := Rd.cut (tabs_rd hO i hi) off m
  rw [tab_cut h, Nat.zero_add] at h1
  exact h1
theorem tabs_cuti {q : IntKind} {w : World} {e : TypeId} {g n off m : Nat} {f : Nat → Int} {sp : List Value} (hO : Ow X w0 w H) (i : Nat) (hi : H[i]? = some ⟨g, e, tab n (iv q f) ++ sp⟩) (h : off + m ≤ n) : Rd w (some ⟨g, off, none⟩) (tab m (iv q fun j => f (off + j))) := by
  have h1 := Rd.cut (tabs_rd hO i hi) off m
  rw [tab_cut h, Nat.zero_add] at h1
  exact h1
theorem Rd.cuti {q : IntKind} {w : World} {A : Option Addr} {n k m : Nat} {f : Nat → Int} (h : Rd w A (tab n (iv q f))) (hk : k + m ≤ n) (hm : 0 < m) : Rd w (some ⟨bl A, of A + k, none⟩) (tab m (iv q fun i => f (k + i))) := by
  have hA := (h 0 (by simp; omega)).1
  rw [hA] at h
  have := Rd.cut h k m
  rw [tab_cut hk] at this
  exact this
theorem tabs_spli {q' : IntKind} {n off m : Nat} {f q : Nat → Int} {sp : List Value} (h : off + m ≤ n) : (tab n (iv q' f) ++ sp).take off ++ tab m (iv q' q) ++ (tab n (iv q' f) ++ sp).drop (off + m) = tab n (iv q' (spl f off m q)) ++ sp := by
  rw [List.take_append_of_le_length (by simp; omega), List.drop_append_of_le_length (by simp; omega), ← List.append_assoc, tab_spl h]
  congr 1
  exact tab_ext fun j _ => by by_cases e : off ≤ j ∧ j < off + m <;> simp [spl, iv, e]

theorem xo_cpyb {t t' e : TypeId} {x y : Operand} {g off dl dc sl sc n : Nat} {τ : TypeId} {A : Option Addr} {f q : Nat → Bool} {sp : List Value} (i : Nat) (ho : o.op = .call { callee := .builtin .copy, args := #[x, y], argTypes := #[t, t'] }) (ht : TySl P t e 1)
    (hx : ev L x = some (.slice (some ⟨g, off, none⟩) dl dc)) (hy : ev L y = some (.slice A sl sc)) (hi : H[i]? = some ⟨g, τ, tab n (bv f) ++ sp⟩) (hn : sl ≤ dl) (hr : ∀ W, Ow X w0 W H → Rd W A (tab sl (bv q))) (hA : A ≠ none) (hfit : off + sl ≤ n) :
    XO P N X w0 o L H (RIs (.int .i64 sl) (H.set i ⟨g, τ, tab n (bv (spl f off sl q)) ++ sp⟩)) :=
  xo_copyb i ho ht hx hy hi (Nat.min_eq_left hn).symm hr hA hfit
theorem xo_cpyi {k : IntKind} {t t' e : TypeId} {x y : Operand} {g off dl dc sl sc n : Nat} {τ : TypeId} {A : Option Addr} {f q : Nat → Int} {sp : List Value} (i : Nat) (ho : o.op = .call { callee := .builtin .copy, args := #[x, y], argTypes := #[t, t'] }) (ht : TySl P t e 1)
    (hx : ev L x = some (.slice (some ⟨g, off, none⟩) dl dc)) (hy : ev L y = some (.slice A sl sc)) (hi : H[i]? = some ⟨g, τ, tab n (iv k f) ++ sp⟩) (hn : sl ≤ dl) (hr : ∀ W, Ow X w0 W H → Rd W A (tab sl (iv k q))) (hA : A ≠ none) (hfit : off + sl ≤ n) :
    XO P N X w0 o L H (RIs (.int .i64 sl) (H.set i ⟨g, τ, tab n (iv k (spl f off sl q)) ++ sp⟩)) := by
  have h := xo_copy (P := P) (N := N) (X := X) (w0 := w0) (L := L) (H := H) (cs := tab sl (iv k q)) i ho ht hx hy hi rfl (by simpa using (Nat.min_eq_left hn).symm) hr tab_onei (fun _ => hA) (by simp; omega)
  rw [tab_len, tabs_spli (by simpa using hfit)] at h
  exact h

theorem xo_perm {H' : List Blk} (hp : H.Perm H') (h : XO P N X w0 o L H' R) : XO P N X w0 o L H R := by
  intro a W hF hO K Q hK
  refine h a W hF (hO.perm hp) K Q fun v H1 W' hR hO' hFr => hK v H1 W' hR hO' ⟨hFr.size, fun k hk hn => hFr.keep k hk (fun hm => hn (((hp.map _).mem_iff).2 hm)), fun b hb => ?_⟩
  rcases hFr.ids b hb with h1 | h1
  · exact .inl (((hp.map _).mem_iff).2 h1)
  · exact .inr h1
theorem xo_mono {R' : Value → List Blk → Prop} (h : XO P N X w0 o L H R) (hR : ∀ v H', R v H' → R' v H') : XO P N X w0 o L H R' :=
  fun a W hF hO K Q hK => h a W hF hO K Q fun v H' W' hr hO' hFr => hK v H' W' (hR v H' hr) hO' hFr
theorem rapp_at {F : List Blk} {e : TypeId} {n : Nat} {xs : List Value} {v : Value} {H' : List Blk} (hn : 0 < n) (h : RApp F e 1 n xs v H') : ∃ g c sp, v = .slice (some ⟨g, 0, none⟩) n c ∧ H' = F ++ [⟨g, e, xs ++ sp⟩] ∧ n ≤ c := by
  obtain ⟨s, hs, rfl, rfl⟩ := h
  cases s with
  | nil => have := hs.1; omega
  | at_ g sp cap => exact ⟨g, cap, sp, rfl, rfl, hs.1⟩
theorem as_at {s : AS} {n : Nat} {xs : List Value} (h : s.Ok 1 n xs) (hn : 0 < n) : ∃ g sp c, s = .at_ g sp c ∧ n ≤ c := by
  cases s with
  | nil => have := h.1; omega
  | at_ g sp cap => exact ⟨g, sp, cap, rfl, h.1⟩
/-- append(nil, xs..): a copy -/
theorem xo_grabN {t e : TypeId} {z : Value} {bytes : Nat} {x y : Operand} {m c : Nat} {F : Nat → Value} {A : Option Addr} (ho : o.op = .call { callee := .builtin .append, args := #[x, y], argTypes := #[t, t] }) (ht : P.underlying t = some (.slice e)) (he : TyEN P e z 1 bytes)
    (hx : ev L x = some (.slice none 0 0)) (hy : ev L y = some (.slice A m c)) (hr : ∀ W, Ow X w0 W H → Rd W A (tab m F)) (h1 : ∀ u ∈ tab m F, u.oneCell' = true) (hm : 0 < m) (hb : m ≤ 1073741824) (hby : bytes ≤ 64) :
    XO P N X w0 o L H (fun v H' => ∃ g c sp, v = .slice (some ⟨g, 0, none⟩) m c ∧ H' = H ++ [⟨g, e, tab m F ++ sp⟩] ∧ m ≤ c) := by
  have h := xo_append (P := P) (N := N) (X := X) (w0 := w0) (L := L) (H := H) (s := .nil) (n := 0) (xs := []) (news := tab m F) H (by simp [AS.blks]) ho ht he hx ⟨rfl, rfl⟩ hy (by simp) hr h1 (by simp only [maxLen]; omega) (Nat.le_trans (Nat.mul_le_mul (show 0 + m ≤ 1073741824 by omega) hby) (by omega))
  rw [Nat.zero_add, List.nil_append] at h
  exact xo_mono h fun v H' hR => rapp_at hm hR
/-- append([]T{}, xs..) -/
theorem xo_grabL {t e : TypeId} {z : Value} {bytes : Nat} {x y : Operand} {m c g0 : Nat} {F : Nat → Value} {A : Option Addr} {T : List Blk} (ho : o.op = .call { callee := .builtin .append, args := #[x, y], argTypes := #[t, t] }) (ht : P.underlying t = some (.slice e)) (he : TyEN P e z 1 bytes)
    (hx : ev L x = some (.slice (some ⟨g0, 0, none⟩) 0 0)) (hy : ev L y = some (.slice A m c)) (hr : ∀ W, Ow X w0 W (⟨g0, e, []⟩ :: T) → Rd W A (tab m F)) (h1 : ∀ u ∈ tab m F, u.oneCell' = true) (hm : 0 < m) (hb : m ≤ 1073741824) (hby : bytes ≤ 64) :
    XO P N X w0 o L (⟨g0, e, []⟩ :: T) (fun v H' => ∃ g c sp, v = .slice (some ⟨g, 0, none⟩) m c ∧ H' = T ++ [⟨g, e, tab m F ++ sp⟩] ∧ m ≤ c) := by
  have hp : (⟨g0, e, []⟩ :: T).Perm (T ++ [⟨g0, e, []⟩]) := (List.perm_append_singleton (⟨g0, e, []⟩ : Blk) T).symm
  have h := xo_append (P := P) (N := N) (X := X) (w0 := w0) (L := L) (H := T ++ [⟨g0, e, []⟩]) (s := .at_ g0 [] 0) (n := 0) (xs := []) (news := tab m F) T rfl ho ht he hx ⟨by omega, by decide, rfl, rfl⟩ hy (by simp) (fun W hO => hr W (hO.perm hp.symm)) h1 (by simp only [maxLen]; omega) (Nat.le_trans (Nat.mul_le_mul (show 0 + m ≤ 1073741824 by omega) hby) (by omega))
  rw [Nat.zero_add, List.nil_append] at h
  exact xo_perm hp (xo_mono h fun v H' hR => rapp_at hm hR)

/-! ### arithmetic of other kinds -/
theorem i32_in {z : Int} (h1 : -2147483648 ≤ z) (h2 : z ≤ 2147483647) : IntKind.i32.wrap z = z := by rw [IntKind.wrap_i32]; omega
theorem u8_in {z : Int} (h1 : 0 ≤ z) (h2 : z ≤ 255) : IntKind.u8.wrap z = z := by rw [IntKind.wrap_u8]; omega
theorem u32_in {z : Int} (h1 : 0 ≤ z) (h2 : z ≤ 4294967295) : IntKind.u32.wrap z = z := by rw [IntKind.wrap_u32]; omega
theorem u64_in {z : Int} (h1 : 0 ≤ z) (h2 : z ≤ 18446744073709551615) : IntKind.u64.wrap z = z := by rw [IntKind.wrap_u64]; omega
theorem eo_addk {t t2 : TypeId} {k : IntKind} {x y : Operand} {m n : Int} (ho : o.op = .binOp .add t x y t2) (hx : ev L x = some (.int k m)) (hy : ev L y = some (.int k n)) (hw : k.wrap (m + n) = m + n) : EO P N X w0 o L H (.int k (m + n)) :=
  eo_val fun a W hF _ => by simp [execOp, ho, hF.eval hx, hF.eval hy, eqGuard_add, binOp_add, Op.intArith, hw]
theorem eo_subk {t t2 : TypeId} {k : IntKind} {x y : Operand} {m n : Int} (ho : o.op = .binOp .sub t x y t2) (hx : ev L x = some (.int k m)) (hy : ev L y = some (.int k n)) (hw : k.wrap (m - n) = m - n) : EO P N X w0 o L H (.int k (m - n)) :=
  eo_val fun a W hF _ => by simp [execOp, ho, hF.eval hx, hF.eval hy, eqGuard_sub, binOp_sub, Op.intArith, hw]
theorem eo_mulk {t t2 : TypeId} {k : IntKind} {x y : Operand} {m n : Int} (ho : o.op = .binOp .mul t x y t2) (hx : ev L x = some (.int k m)) (hy : ev L y = some (.int k n)) (hw : k.wrap (m * n) = m * n) : EO P N X w0 o L H (.int k (m * n)) :=
  eo_val fun a W hF _ => by simp [execOp, ho, hF.eval hx, hF.eval hy, eqGuard_mul, binOp_mul, Op.intArith, hw]
/-- .. whatever comes out -/
theorem eo_addw {t t2 : TypeId} {k : IntKind} {x y : Operand} {m n : Int} (ho : o.op = .binOp .add t x y t2) (hx : ev L x = some (.int k m)) (hy : ev L y = some (.int k n)) : EO P N X w0 o L H (.int k (k.wrap (m + n))) :=
  eo_val fun a W hF _ => by simp [execOp, ho, hF.eval hx, hF.eval hy, eqGuard_add, binOp_add, Op.intArith]
theorem eo_remk {t t2 : TypeId} {k : IntKind} {x y : Operand} {m n : Int} (ho : o.op = .binOp .rem t x y t2) (hx : ev L x = some (.int k m)) (hy : ev L y = some (.int k n)) (h0 : 0 ≤ m) (hn : 1 ≤ n) : EO P N X w0 o L H (.int k (m % n)) := by
  have := eo_trem (P := P) (N := N) (X := X) (w0 := w0) (H := H) ho hx hy hn
  rwa [Int.tmod_eq_emod_of_nonneg h0] at this
theorem eo_convk {s d : TypeId} {k k' : IntKind} {x : Operand} {m : Int} (ho : o.op = .convert s d x) (hx : ev L x = some (.int k m)) (hs : ∃ u, P.underlying s = some u) (hd : P.underlying d = some (.int k')) (hw : k'.wrap m = m) : EO P N X w0 o L H (.int k' m) := by
  have := eo_conv (P := P) (N := N) (X := X) (w0 := w0) (H := H) ho hx hs hd
  rwa [hw] at this
theorem eo_lenAS {t : TypeId} {e : TypeId} {x : Operand} {s : AS} {n sz : Nat} {xs : List Value} (ho : o.op = .call { callee := .builtin .len, args := #[x], argTypes := #[t] }) (ht : P.underlying t = some (.slice e)) (hx : ev L x = some (s.val n)) (hs : s.Ok sz n xs) : EO P N X w0 o L H (.int .i64 n) := by
  rw [AS.val_eq hs] at hx
  exact eo_len ho ht hx
theorem res3 {fn : Func} {t u y : Tmp} {v v' v2 : Value} (h : fn.results = #[.tmp t, .tmp u, .tmp y]) (ht : Go.Eng.look L t = some v) (hu : Go.Eng.look L u = some v') (hy : Go.Eng.look L y = some v2) : ∀ a W, Fit N a L → Ow X w0 W H → (results fn a.tmps).run P W = .ok (.tuple #[v, v', v2]) W := fun a W hF _ => by
  simp [results, h, hF.at_ t v ht, hF.at_ u v' hu, hF.at_ y v2 hy]
end ops
end Go.Bs
