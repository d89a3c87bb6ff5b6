/-
  The engine: a region that draws its order. Operations that only read (calls that leave what was there among them) float; new blocks come in one order; writes come last.
  No program is named here.
-/
import Derived.Test.YtnmiljloifbjeaaWr
import Derived.RangeFuncNested
import Derived.RangeFuncLeaves
import Derived.OrdersIn
import Derived.TacticsIn
namespace Go.Eng
open Go.RowKit

section
variable {P : Program} {ops : Array Oper} {Q : Exit → Act → World → Prop} {S : World → Prop} {xs : Nat → Bool} {ro : Option Nat} {n : Nat} {Z : Nat → Array Bool → Act → World → Prop}

/-- an operation's value, in every world that meets S -/
def YE (P : Program) (ops : Array Oper) (S : World → Prop) (o : Oper) (v : Value) (a : Act) : Prop :=
  (Region.wanted o (yielded ops a.tmps) = true ∧ ∀ W, S W → eAt P o a W v) ∨ (Region.wanted o (yielded ops a.tmps) = false ∧ v = undef)

theorem YE.of_same {o : Oper} {v : Value} {a a' : Act} (hy : YE P ops S o v a) (he : execOp a'.eval o = execOp a.eval o)
    (hw : Region.wanted o (yielded ops a'.tmps) = Region.wanted o (yielded ops a.tmps)) : YE P ops S o v a' := by
  unfold YE eAt at *
  rw [he, hw]
  exact hy

/-- the fence that lets all in, in a round or not -/
def Fw (ro : Option Nat) : Fence := { Fence.wide with round := ro }
theorem fw_room (ro : Option Nat) (k : Nat) : (Fw ro).room k := fun _ h => by cases h
/-- no 'defer' statement, or no round -/
def ND (ro : Option Nat) (o : Oper) : Prop := ro = none ∨ ∀ c, o.op ≠ .defer c
theorem ND.sem {ro : Option Nat} {o : Oper} (h : ND ro o) (ρ : Operand → Value) : o.semAt (Fw ro).round ρ = execOp ρ o := by
  rcases h with rfl | h
  · rfl
  · exact Oper.semAt_eq _ _ _ h
theorem callsIn_fw {ro : Option Nat} {n : Nat} {f : FuncId} {args : Array Value} {w : World} {R : Ending → World → Prop} (h : Calls P f args w R) : CallsIn (Fw ro) n P f args w R := callsIn_wide.2 h
theorem rowsIn_fw {ro : Option Nat} {n : Nat} {row : String} {args : Array Value} {w : World} {R : Value → World → Prop} (h : Rows P row args w R) : RowsIn (Fw ro) n P row args w R :=
  fun c cs _ => let ⟨v, w', r, s⟩ := h c cs; ⟨v, w', r, stepsIn_wide.2 s⟩
theorem wpIn_of_wp {ro : Option Nat} {n : Nat} {o : Oper} (hn : ND ro o) {a : Act} {w : World} {K : Act → World → Prop} (h : o.wp P a w K Q) : o.wpIn (Fw ro) n P a w K Q := by
  refine ⟨fun _ _ => trivial, ?_⟩
  rw [hn.sem]
  unfold Oper.wp at h
  generalize (execOp a.eval o).run P w = r at *
  cases r with
  | ok x w' =>
    cases x <;> simp only [Oper.upon] at h <;> simp only [Oper.uponIn] <;>
      first
        | exact h
        | exact ⟨fun h => by simp [Fw, Fence.wide] at h, callsIn_fw h⟩
        | exact ⟨fun h => by simp [Fw, Fence.wide] at h, rowsIn_fw h⟩
  | halt x w' => cases x <;> simp only [Oper.upon] at h <;> simp only [Oper.uponIn] <;> exact h
theorem wpIn_of_eAt {ro : Option Nat} {n : Nat} {o : Oper} (hn : ND ro o) {a : Act} {w : World} {v : Value} {K : Act → World → Prop} (h : eAt P o a w v) (hK : ∀ w', Ext w w' → K (a.put o.dst v) w') : o.wpIn (Fw ro) n P a w K Q := wpIn_of_wp hn (wp_of_eAt h hK)

/-- another operation before this one: it makes no difference to either -/
theorem wpOp_putG {Y : Act → Prop} {j : Nat} {oi oj : Oper} {v : Value} (hsame : ∀ a a', Y a → execOp a'.eval oi = execOp a.eval oi → Region.wanted oi (yielded ops a'.tmps) = Region.wanted oi (yielded ops a.tmps) → Y a') (hj : ops[j]? = some oj) (hap : oi.apart ops oj = true) (hnd : ND ro oj)
    (hsi : ∀ cs b, oi.op ≠ .select cs b) (hsj : ∀ cs b, oj.op ≠ .select cs b)
    (hQ : ∀ c a w, ¬ Q (.panic c) a w) {K : Act → World → Prop} {a : Act} {w : World}
    (hy : Y a) (h : wpOpIn (Fw ro) n P ops Q j K (a.put oi.dst v) w) :
    wpOpIn (Fw ro) n P ops Q j (fun a' w' => Y a' ∧ K (a'.put oi.dst v) w') a w := by
  obtain ⟨h1, h2, h3⟩ := Oper.apart_spec hap
  have keep : ∀ (a : Act), Y a → ∀ u, Y (a.put oj.dst u) := fun a hy u =>
    hsame _ _ hy (execOp_put oi hsi a oj.dst u h3) (wanted_put oi a oj.dst u h3)
  have keepD : ∀ d, Y { a with defers := d :: a.defers } := fun d => hsame _ _ hy rfl rfl
  unfold wpOpIn at *
  simp only [hj] at *
  rw [wanted_put oj a oi.dst v h1] at h
  split
  · rename_i hw
    simp only [hw, if_true] at h
    unfold Oper.wpIn at *
    refine ⟨fun _ _ => trivial, ?_⟩
    have h := h.2
    rw [hnd.sem, execOp_put oj hsj a oi.dst v h1] at h
    rw [hnd.sem]
    generalize (execOp a.eval oj).run P w = r at *
    cases r with
    | ok n w' =>
      cases n <;> simp only [Oper.uponIn] at h ⊢
      case value u => exact ⟨keep a hy u, by rw [← Act.put_comm a v u h2]; exact h⟩
      case skip => exact ⟨keep a hy _, by rw [← Act.put_comm a v undef h2]; exact h⟩
      case defer d =>
        refine ⟨keep _ (keepD d) _, ?_⟩
        rw [← Act.put_comm _ v undef h2, ← Act.put_defers]
        exact h
      case enter f args =>
        refine ⟨h.1, CallsIn.mono h.2 fun e w'' he => ?_⟩
        cases e with
        | returned u => exact ⟨keep a hy u, by rw [← Act.put_comm a v u h2]; exact he⟩
        | panicked c => exact (hQ _ _ _ he).elim
        | outgrown => exact he
      case row row args => exact ⟨h.1, RowsIn.mono h.2 fun u w'' he => ⟨keep a hy u, by rw [← Act.put_comm a v u h2]; exact he⟩⟩
      case round l f tmps assign body =>
        refine ⟨h.1, RoundIn.mono h.2 fun e w'' he => ?_⟩
        cases e with
        | returned u => exact ⟨keep a hy u, by rw [← Act.put_comm a v u h2]; exact he⟩
        | panicked c => exact (hQ _ _ _ he).elim
        | outgrown => exact he
    | halt x w' =>
      cases x <;> simp only [Oper.uponIn] at h ⊢
      case panic u => exact (hQ _ _ _ h).elim
  · rename_i hw
    simp only [hw] at h
    exact ⟨fun _ _ => trivial, keep a hy _, by rw [← Act.put_comm a v undef h2]; exact h.2⟩

theorem wpOp_putE {j : Nat} {oi oj : Oper} {v : Value} (hj : ops[j]? = some oj) (hap : oi.apart ops oj = true) (hnd : ND ro oj)
    (hsi : ∀ cs b, oi.op ≠ .select cs b) (hsj : ∀ cs b, oj.op ≠ .select cs b)
    (hQ : ∀ c a w, ¬ Q (.panic c) a w) {K : Act → World → Prop} {a : Act} {w : World}
    (hy : YE P ops S oi v a) (h : wpOpIn (Fw ro) n P ops Q j K (a.put oi.dst v) w) :
    wpOpIn (Fw ro) n P ops Q j (fun a' w' => YE P ops S oi v a' ∧ K (a'.put oi.dst v) w') a w :=
  wpOp_putG (fun _ _ hy h1 h2 => hy.of_same h1 h2) hj hap hnd hsi hsj hQ hy h

/-- an operation that yields in whatever world -/
def YP (P : Program) (ops : Array Oper) (o : Oper) (v : Value) (a : Act) : Prop :=
  Region.wanted o (yielded ops a.tmps) = true ∧ ∀ W, (execOp a.eval o).run P W = .ok (.value v) W
theorem YP.op {i : Nat} {o : Oper} {v : Value} {a : Act} {w : World} {K : Act → World → Prop} (hi : ops[i]? = some o) (hn : ND ro o) (hy : YP P ops o v a) (h : K (a.put o.dst v) w) : wpOpIn (Fw ro) n P ops Q i K a w := by
  unfold wpOpIn
  simp only [hi]
  rw [if_pos hy.1]
  refine ⟨fun _ _ => trivial, ?_⟩
  rw [hn.sem, hy.2]
  exact h
theorem any_first {i : Nat} {oi : Oper} {v : Value} (hnd : ∀ (j : Nat) (o : Oper), ops[j]? = some o → ND ro o) (hi : ops[i]? = some oi) (hsel : ∀ (j : Nat) (o : Oper) cs b, ops[j]? = some o → o.op ≠ .select cs b)
    (hQ : ∀ c a w, ¬ Q (.panic c) a w) :
    ∀ (f : Nat) (listed : Array Bool) (a : Act) (w : World),
      (∀ j oj, ops[j]? = some oj → j ≠ i → listed.getD j true = false → (∀ e ∈ oj.after, Region.binds .any e = true → e.on ≠ i) → oi.apart ops oj = true) →
      i ∈ Region.ready .any ops listed → YP P ops oi v a →
      wpAnyIn (Fw ro) n P .any ops Q f (listed.setIfInBounds i true) (a.put oi.dst v) w → wpAnyIn (Fw ro) n P .any ops Q (f + 1) listed a w := by
  intro f
  induction f with
  | zero =>
    intro listed a w _ hr hy H
    refine ⟨fun h => (by rw [h] at hr; cases hr), fun j hj => ?_⟩
    by_cases hji : j = i
    · subst hji
      exact YP.op hi (hnd _ _ hi) hy H
    · have := ready_mono hj hji
      rw [H.1] at this
      cases this
  | succ f ih =>
    intro listed a w hfree hr hy H
    refine ⟨fun h => (by rw [h] at hr; cases hr), fun j hj => ?_⟩
    by_cases hji : j = i
    · subst hji
      exact YP.op hi (hnd _ _ hi) hy H
    · have h1 := H.2 j (ready_mono hj hji)
      obtain ⟨hjun, oj, hoj, hall⟩ := mem_ready.1 hj
      have hnot : ∀ e ∈ oj.after, Region.binds .any e = true → e.on ≠ i := fun e he hb heq => by
        have h1 := hall e he hb
        have h0 : listed.getD i false = false := by
          have h := (mem_ready.1 hr).1
          rcases Nat.lt_or_ge i listed.size with h' | h'
          · simp [h'] at h ⊢; exact h
          · simp [Array.getElem?_eq_none h'] at h
        rw [heq, h0] at h1
        cases h1
      have h2 := wpOp_putG (Y := YP P ops oi v) (fun a a' hy h1 h2 => ⟨by rw [h2]; exact hy.1, fun W => by rw [h1]; exact hy.2 W⟩) hoj (hfree j oj hoj hji hjun hnot) (hnd _ _ hoj) (fun cs b => hsel i oi cs b hi) (fun cs b => hsel j oj cs b hoj) hQ hy h1
      have hfree' : ∀ k ok, ops[k]? = some ok → k ≠ i → (listed.setIfInBounds j true).getD k true = false →
          (∀ e ∈ ok.after, Region.binds .any e = true → e.on ≠ i) → oi.apart ops ok = true := fun k ok hk hki hun hno => by
        refine hfree k ok hk hki ?_ hno
        by_cases hjk : j = k
        · subst hjk; exact hjun
        · rw [getD_set_ne true hjk] at hun; exact hun
      refine wpOpIn_mono (fun a' w' h3 => ?_) h2
      refine ih (listed.setIfInBounds j true) a' w' hfree' (ready_mono hr (Ne.symm hji)) h3.1 ?_
      rw [Array.setIfInBounds_comm _ _ hji]
      exact h3.2

/-- what has come up comes with all that it waits for -/
def Closed (ops : Array Oper) (listed : Array Bool) : Prop :=
  ∀ j oj, ops[j]? = some oj → listed.getD j false = true → ∀ e ∈ oj.after, Region.binds .any e = true → listed.getD e.on false = true

theorem getD_ft {listed : Array Bool} {i : Nat} (h : listed.getD i true = false) : listed.getD i false = false := by
  rcases Nat.lt_or_ge i listed.size with h' | h'
  · simp [h'] at h ⊢; exact h
  · simp [Array.getElem?_eq_none h'] at h

theorem Closed.set {listed : Array Bool} {i : Nat} (h : Closed ops listed) (hi : i ∈ Region.ready .any ops listed) : Closed ops (listed.setIfInBounds i true) := by
  obtain ⟨_, oi, hoi, hall⟩ := mem_ready.1 hi
  intro j oj hj hl e he hb
  by_cases hij : i = j
  · subst hij
    have : oj = oi := Option.some.inj (hj.symm.trans hoi)
    subst this
    exact getD_set_true (hall e he hb)
  · rw [getD_set_ne false hij] at hl
    exact getD_set_true (h j oj hj hl e he hb)

theorem closed_none (m : Nat) : Closed ops (Array.replicate m false) := by
  intro j oj _ hl
  rcases Nat.lt_or_ge j m with h | h <;> simp [h] at hl

def wpR (ro : Option Nat) (n : Nat) (P : Program) (ops : Array Oper) (Q : Exit → Act → World → Prop) (Z : Nat → Array Bool → Act → World → Prop) (S : World → Prop) (xs : Nat → Bool) : Nat → Array Bool → Act → World → Prop
  | 0, listed, a, w => ∀ w1, Ext w w1 → S w1 → Region.ready .any ops listed = [] ∧ Q .normal a w1
  | f + 1, listed, a, w => ∀ w1, Ext w w1 → S w1 → (Region.ready .any ops listed = [] → Q .normal a w1) ∧
      ∀ j ∈ Region.ready .any ops listed, wpOpIn (Fw ro) n P ops Q j (fun a' w' => if xs j = true then Z f (listed.setIfInBounds j true) a' w' else S w' ∧ wpR ro n P ops Q Z S xs f (listed.setIfInBounds j true) a' w') a w1

theorem wpR.ext {f : Nat} {listed : Array Bool} {a : Act} {w w' : World} (h : wpR ro n P ops Q Z S xs f listed a w) (e : Ext w w') : wpR ro n P ops Q Z S xs f listed a w' := by
  cases f with
  | zero => exact fun w1 e1 hS => h w1 (e.trans e1) hS
  | succ f => exact fun w1 e1 hS => h w1 (e.trans e1) hS

theorem wpAny_of_wpR (hZ : ∀ f listed a w, Z f listed a w → wpAnyIn (Fw ro) n P .any ops Q f listed a w) : ∀ (f : Nat) (listed : Array Bool) (a : Act) (w : World), S w → wpR ro n P ops Q Z S xs f listed a w → wpAnyIn (Fw ro) n P .any ops Q f listed a w
  | 0, _, _, w, hS, h => h w (Ext.refl w) hS
  | f + 1, listed, a, w, hS, h => by
    obtain ⟨h1, h2⟩ := h w (Ext.refl w) hS
    refine ⟨h1, fun i hi => wpOpIn_mono (fun a' w' h' => ?_) (h2 i hi)⟩
    by_cases hx : xs i = true
    · rw [if_pos hx] at h'; exact hZ _ _ _ _ h'
    · rw [if_neg hx] at h'
      exact wpAny_of_wpR hZ f _ a' w' h'.1 h'.2

theorem wpOp_of_eAt {i : Nat} {o : Oper} {v : Value} {a : Act} {w : World} {K : Act → World → Prop} (hi : ops[i]? = some o) (hn : ND ro o) (hy : YE P ops S o v a) (hS : S w)
    (h : ∀ w', Ext w w' → K (a.put o.dst v) w') : wpOpIn (Fw ro) n P ops Q i K a w := by
  unfold wpOpIn
  simp only [hi]
  rcases hy with ⟨hw, hv⟩ | ⟨hw, rfl⟩
  · rw [if_pos hw]; exact wpIn_of_eAt hn (hv w hS) h
  · rw [if_neg (by simp [hw])]; exact ⟨fun _ _ => trivial, h w (Ext.refl w)⟩

theorem wpR_first {i : Nat} {oi : Oper} {v : Value} (hnd : ∀ (j : Nat) (o : Oper), ops[j]? = some o → ND ro o) (hi : ops[i]? = some oi) (hsel : ∀ (j : Nat) (o : Oper) cs b, ops[j]? = some o → o.op ≠ .select cs b)
    (hQ : ∀ c a w, ¬ Q (.panic c) a w) (hSE : ∀ w w', S w → Ext w w' → S w')
    (hX : ∀ listed, Closed ops listed → listed.getD i true = false → ∀ j ∈ Region.ready .any ops listed, xs j = false) :
    ∀ (f : Nat) (listed : Array Bool) (a : Act) (w : World), Closed ops listed →
      (∀ j oj, ops[j]? = some oj → j ≠ i → listed.getD j true = false → (∀ e ∈ oj.after, Region.binds .any e = true → e.on ≠ i) → oi.apart ops oj = true) →
      i ∈ Region.ready .any ops listed → YE P ops S oi v a →
      wpR ro n P ops Q Z S xs f (listed.setIfInBounds i true) (a.put oi.dst v) w → wpR ro n P ops Q Z S xs (f + 1) listed a w := by
  intro f
  induction f with
  | zero =>
    intro listed a w hcl _ hr hy H w1 he hS
    refine ⟨fun h => (by rw [h] at hr; cases hr), fun j hj => ?_⟩
    have hxj := hX listed hcl (mem_ready.1 hr).1 j hj
    by_cases hji : j = i
    · subst hji
      refine wpOp_of_eAt hi (hnd _ _ hi) hy hS fun w' e' => ?_
      rw [if_neg (by simp [hxj])]
      exact ⟨hSE _ _ hS e', H.ext (he.trans e')⟩
    · have := ready_mono hj hji
      rw [(H w1 he hS).1] at this
      cases this
  | succ f ih =>
    intro listed a w hcl hfree hr hy H w1 he hS
    refine ⟨fun h => (by rw [h] at hr; cases hr), fun j hj => ?_⟩
    have hxj := hX listed hcl (mem_ready.1 hr).1 j hj
    by_cases hji : j = i
    · subst hji
      refine wpOp_of_eAt hi (hnd _ _ hi) hy hS fun w' e' => ?_
      rw [if_neg (by simp [hxj])]
      exact ⟨hSE _ _ hS e', H.ext (he.trans e')⟩
    · have h1 := (H w1 he hS).2 j (ready_mono hj hji)
      obtain ⟨hjun, oj, hoj, hall⟩ := mem_ready.1 hj
      have hnot : ∀ e ∈ oj.after, Region.binds .any e = true → e.on ≠ i := fun e he hb heq => by
        have h1 := hall e he hb
        have h0 := getD_ft (mem_ready.1 hr).1
        rw [heq, h0] at h1
        cases h1
      have h2 := wpOp_putE hoj (hfree j oj hoj hji hjun hnot) (hnd _ _ hoj) (fun cs b => hsel i oi cs b hi) (fun cs b => hsel j oj cs b hoj) hQ hy h1
      have hfree' : ∀ k ok, ops[k]? = some ok → k ≠ i → (listed.setIfInBounds j true).getD k true = false →
          (∀ e ∈ ok.after, Region.binds .any e = true → e.on ≠ i) → oi.apart ops ok = true := fun k ok hk hki hun hno => by
        refine hfree k ok hk hki ?_ hno
        by_cases hjk : j = k
        · subst hjk; exact hjun
        · rw [getD_set_ne true hjk] at hun; exact hun
      refine wpOpIn_mono (fun a' w' h3 => ?_) h2
      rw [if_neg (by simp [hxj])] at h3 ⊢
      refine ⟨h3.2.1, ih (listed.setIfInBounds j true) a' w' (hcl.set hj) hfree' (ready_mono hr (Ne.symm hji)) h3.1 ?_⟩
      rw [Array.setIfInBounds_comm _ _ hji]
      exact h3.2.2
end

/-! ### the checks -/
def waits (l : List Oper) (j i : Nat) : Bool :=
  match l[j]? with
  | some oj => oj.after.any fun e => Region.binds .any e && e.on == i
  | none => false
def listAll (listed : Array Bool) : List Nat → Array Bool
  | [] => listed
  | i :: r => listAll (listed.setIfInBounds i true) r
def phaseB (l : List Oper) : List Nat → Array Bool → Bool
  | [], _ => true
  | i :: r, listed => (Region.ready .any l.toArray listed).contains i && Region.free .any l.toArray listed i && phaseB l r (listed.setIfInBounds i true)
def forcedB (l : List Oper) : List Nat → Array Bool → Bool
  | [], _ => true
  | t :: r, listed => (Region.ready .any l.toArray listed == [t]) && forcedB l r (listed.setIfInBounds t true)
def chainB (l : List Oper) : List Nat → Bool
  | [] => true
  | [_] => true
  | t :: u :: r => waits l u t && chainB l (u :: r)
def sinkB (l : List Oper) (ds : List Nat) (x1 : Option Nat) : Bool :=
  match x1 with
  | none => true
  | some x => ds.all fun d => (x :: ds).any fun j => Nat.blt d j && waits l j d
def mixB (l : List Oper) (ps es as ts : List Nat) : Bool :=
  Region.noSelect l.toArray && phaseB l ps (Array.replicate l.length false) && phaseB l es (listAll (Array.replicate l.length false) ps) &&
  forcedB l as (listAll (listAll (Array.replicate l.length false) ps) es) &&
  forcedB l ts (listAll (listAll (listAll (Array.replicate l.length false) ps) es) as) &&
  (Region.ready .any l.toArray (listAll (listAll (listAll (listAll (Array.replicate l.length false) ps) es) as) ts)).isEmpty &&
  (ps.length + es.length + as.length + ts.length == l.length) && chainB l ts && sinkB l (es ++ as) ts.head?

theorem waits_spec {l : List Oper} {j i : Nat} (h : waits l j i = true) : ∃ oj, l.toArray[j]? = some oj ∧ ∃ e ∈ oj.after, Region.binds .any e = true ∧ e.on = i := by
  unfold waits at h
  split at h
  · rename_i oj hj
    obtain ⟨e, he, hb⟩ := Array.any_eq_true'.1 h
    simp only [Bool.and_eq_true, beq_iff_eq] at hb
    exact ⟨oj, by simpa using hj, e, he, hb.1, hb.2⟩
  · cases h

/-- the first write is at hand or has come: all before it has come -/
theorem sink_all {l : List Oper} {ds : List Nat} {x : Nat} {listed : Array Bool} (hcl : Closed l.toArray listed) (hs : sinkB l ds (some x) = true)
    (hx : ∀ ox, l.toArray[x]? = some ox → ∀ e ∈ ox.after, Region.binds .any e = true → listed.getD e.on false = true) : ∀ d ∈ ds, listed.getD d false = true := by
  have hsz : ∃ M, ∀ j ∈ x :: ds, j ≤ M := ⟨(x :: ds).foldr max 0, fun j hj => by
    generalize x :: ds = q at *
    induction q with
    | nil => cases hj
    | cons y ys ih =>
      rcases List.mem_cons.1 hj with rfl | hj
      · simp; omega
      · have := ih hj; simp; omega⟩
  obtain ⟨M, hM⟩ := hsz
  have key : ∀ k d, M - d = k → d ∈ ds → listed.getD d false = true := by
    intro k
    induction k using Nat.strongRecOn with
    | _ k ih =>
      intro d hd hmem
      have h1 := List.all_eq_true.1 hs d hmem
      obtain ⟨j, hj, hj2⟩ := List.any_eq_true.1 h1
      simp only [Bool.and_eq_true, Nat.blt_eq] at hj2
      obtain ⟨oj, hoj, e, he, hb, hon⟩ := waits_spec hj2.2
      have hjM := hM j hj
      rcases List.mem_cons.1 hj with rfl | hj
      · rw [← hon]; exact hx oj hoj e he hb
      · have hl := ih (M - j) (by omega) j rfl hj
        rw [← hon]; exact hcl j oj hoj hl e he hb
  exact fun d hd => key _ d rfl hd

theorem chain_back {l : List Oper} {listed : Array Bool} (hcl : Closed l.toArray listed) : ∀ (ts : List Nat) (x : Nat), ts.head? = some x → chainB l ts = true → ∀ j ∈ ts,
    j ∈ Region.ready .any l.toArray listed ∨ listed.getD j false = true → (x ∈ Region.ready .any l.toArray listed ∨ listed.getD x false = true) := by
  intro ts
  induction ts with
  | nil => intro x hx; cases hx
  | cons t r ih =>
    intro x hx hc j hj hor
    simp only [List.head?_cons, Option.some.injEq] at hx
    subst hx
    cases r with
    | nil =>
      simp only [List.mem_singleton] at hj
      subst hj; exact hor
    | cons u r =>
      simp only [chainB, Bool.and_eq_true] at hc
      rcases List.mem_cons.1 hj with rfl | hj
      · exact hor
      · have hu := ih u rfl hc.2 j hj hor
        obtain ⟨ou, hou, e, he, hb, hon⟩ := waits_spec hc.1
        right
        rw [← hon]
        rcases hu with hu | hu
        · obtain ⟨_, o', ho', hall⟩ := mem_ready.1 hu
          have : ou = o' := Option.some.inj (hou.symm.trans ho')
          subst this
          exact hall e he hb
        · exact hcl u ou hou hu e he hb

theorem no_write_before {l : List Oper} {ds ts : List Nat} (hc : chainB l ts = true) (hs : sinkB l ds ts.head? = true) {i : Nat} (hi : i ∈ ds) :
    ∀ listed, Closed l.toArray listed → listed.getD i true = false → ∀ j ∈ Region.ready .any l.toArray listed, ts.contains j = false := by
  intro listed hcl hun j hj
  cases hb : ts.contains j with
  | false => rfl
  | true =>
    exfalso
    have hjm : j ∈ ts := by simpa using hb
    cases hh : ts.head? with
    | none => cases ts <;> simp_all
    | some x =>
      rw [hh] at hs
      have hx := chain_back hcl ts x hh hc j hjm (.inl hj)
      have := sink_all hcl hs (fun ox hox e he hb => by
        rcases hx with hx | hx
        · obtain ⟨_, o', ho', hall⟩ := mem_ready.1 hx
          have : ox = o' := Option.some.inj (hox.symm.trans ho')
          subst this
          exact hall e he hb
        · exact hcl x ox hox hx e he hb) i hi
      rw [getD_ft hun] at this
      cases this

/-! ### the walk -/
section walk
variable {P : Program} {ro : Option Nat} {n : Nat} {Z : Nat → Array Bool → Act → World → Prop} {N : Sz} {X : List Nat} {w0 : World} {l : List Oper} {Q : Exit → Act → World → Prop} {L : List (Nat × Value)} {H : List Blk}

def NQ (Q : Exit → Act → World → Prop) : Exit → Act → World → Prop
  | .normal, a, w => Q .normal a w
  | _, _, _ => False
theorem NQ.out (e : Exit) (a : Act) (w : World) (h : NQ Q e a w) : Q e a w := by cases e <;> first | exact h | exact (h : False).elim

/-- an operation that yields in whatever world -/
def PO (P : Program) (N : Sz) (o : Oper) (L : List (Nat × Value)) (v : Value) : Prop := o.guard = none ∧ ∀ a W, Fit N a L → (execOp a.eval o).run P W = .ok (.value v) W

def GPs (P : Program) (N : Sz) (l : List Oper) : List Nat → List (Nat × Value) → (List (Nat × Value) → Prop) → Prop
  | [], L, K => K L
  | i :: is, L, K => ∃ o v, l[i]? = some o ∧ dOK N o.dst = true ∧ PO P N o L v ∧ GPs P N l is (ins o.dst v L) K
def GEs (P : Program) (N : Sz) (X : List Nat) (w0 : World) (l : List Oper) (H : List Blk) : List Nat → List (Nat × Value) → (List (Nat × Value) → Prop) → Prop
  | [], L, K => K L
  | i :: is, L, K => ∃ o v, l[i]? = some o ∧ dOK N o.dst = true ∧ EOg P N X w0 l.toArray o L H v ∧ GEs P N X w0 l H is (ins o.dst v L) K
def GAs (P : Program) (N : Sz) (X : List Nat) (w0 : World) (l : List Oper) (H0 : List Blk) : List Nat → List (Nat × Value) → List Blk → (List (Nat × Value) → List Blk → Prop) → Prop
  | [], L, H, K => K L H
  | i :: is, L, H, K => ∃ o R, l[i]? = some o ∧ o.guard = none ∧ dOK N o.dst = true ∧ XO P N X w0 o L H R ∧ ∀ v H', R v H' → H0.Sublist H' ∧ GAs P N X w0 l H0 is (ins o.dst v L) H' K
def GI (ro : Option Nat) (n : Nat) (P : Program) (N : Sz) (X : List Nat) (w0 : World) (l : List Oper) (Q : Exit → Act → World → Prop) (is : List Nat) (L : List (Nat × Value)) (H : List Blk) : Prop :=
  (∀ (j : Nat) (o : Oper), l.toArray[j]? = some o → ND ro o) → ∀ a W, Fit N a L → Ow X w0 W H → wpOpsIn (Fw ro) n P l.toArray Q is a W

theorem gp_nil {K : List (Nat × Value) → Prop} (h : K L) : GPs P N l [] L K := h
theorem gp_cons {i : Nat} {is : List Nat} {K : List (Nat × Value) → Prop} {o : Oper} {v : Value} (ho : l[i]? = some o) (he : PO P N o L v) (hd : dOK N o.dst = true) (h : GPs P N l is (ins o.dst v L) K) : GPs P N l (i :: is) L K := ⟨o, v, ho, hd, he, h⟩
theorem ge_nil {K : List (Nat × Value) → Prop} (h : K L) : GEs P N X w0 l H [] L K := h
theorem ge_cons {i : Nat} {is : List Nat} {K : List (Nat × Value) → Prop} {o : Oper} {v : Value} (ho : l[i]? = some o) (he : EOg P N X w0 l.toArray o L H v) (hd : dOK N o.dst = true) (h : GEs P N X w0 l H is (ins o.dst v L) K) : GEs P N X w0 l H (i :: is) L K := ⟨o, v, ho, hd, he, h⟩
theorem ga_nil {H0 : List Blk} {K : List (Nat × Value) → List Blk → Prop} (h : K L H) : GAs P N X w0 l H0 [] L H K := h
theorem ga_cons {i : Nat} {is : List Nat} {H0 : List Blk} {K : List (Nat × Value) → List Blk → Prop} {o : Oper} {R : Value → List Blk → Prop} (ho : l[i]? = some o) (hx : XO P N X w0 o L H R) (hg : o.guard = none) (hd : dOK N o.dst = true)
    (h : ∀ v H', R v H' → H0.Sublist H' ∧ GAs P N X w0 l H0 is (ins o.dst v L) H' K) : GAs P N X w0 l H0 (i :: is) L H K := ⟨o, R, ho, hg, hd, hx, h⟩
theorem gi_nil (h : GQ N X w0 Q .normal L H) : GI ro n P N X w0 l Q [] L H := fun _ => h
theorem gi_e {i : Nat} {is : List Nat} {o : Oper} {v : Value} (ho : l[i]? = some o) (he : EOg P N X w0 l.toArray o L H v) (hd : dOK N o.dst = true) (h : GI ro n P N X w0 l Q is (ins o.dst v L) H) : GI ro n P N X w0 l Q (i :: is) L H := by
  intro hnd a W hF hO
  rw [wpOpsIn_cons]
  exact wpOp_of_eAt (S := fun W => Ow X w0 W H) (by simpa using ho) (hnd i o (by simpa using ho)) (he.cases hF) hO fun w' e => h hnd _ _ (hF.put hd v) (hO.ext e)
theorem gi_x {i : Nat} {is : List Nat} {o : Oper} {R : Value → List Blk → Prop} (ho : l[i]? = some o) (hx : XO P N X w0 o L H R) (hg : o.guard = none) (hd : dOK N o.dst = true)
    (h : ∀ v H', R v H' → GI ro n P N X w0 l Q is (ins o.dst v L) H') : GI ro n P N X w0 l Q (i :: is) L H := by
  intro hnd a W hF hO
  rw [wpOpsIn_cons]
  have ho' : l.toArray[i]? = some o := by simpa using ho
  unfold wpOpIn
  simp only [ho']
  rw [if_pos (by simp [Region.wanted, hg])]
  exact wpIn_of_wp (hnd i o ho') (hx a W hF hO _ Q fun v H' W' hR hO' _ => h v H' hR hnd _ _ (hF.put hd v) hO')
theorem gi_weak {is : List Nat} {L' : List (Nat × Value)} {H' : List Blk} (hL : Has L L') (hH : H'.Sublist H) (h : GI ro n P N X w0 l Q is L' H') : GI ro n P N X w0 l Q is L H :=
  fun hnd a W hF hO => h hnd a W (hF.weak hL) (hO.sub hH)

theorem any_of_ops : ∀ (ts : List Nat) (listed : Array Bool) (a : Act) (w : World), forcedB l ts listed = true → Region.ready .any l.toArray (listAll listed ts) = [] → wpOpsIn (Fw ro) n P l.toArray Q ts a w → wpAnyIn (Fw ro) n P .any l.toArray Q ts.length listed a w
  | [], _, _, _, _, hr, h => ⟨hr, h⟩
  | t :: r, listed, a, w, hf, hr, h => by
    simp only [forcedB, Bool.and_eq_true, beq_iff_eq] at hf
    refine ⟨fun h0 => (by rw [hf.1] at h0; cases h0), fun i hi => ?_⟩
    rw [hf.1, List.mem_singleton] at hi
    subst hi
    rw [wpOpsIn_cons] at h
    exact wpOpIn_mono (fun a' w' h' => any_of_ops r _ a' w' hf.2 hr h') h

theorem listAll_append (listed : Array Bool) (a b : List Nat) : listAll listed (a ++ b) = listAll (listAll listed a) b := by
  induction a generalizing listed with
  | nil => rfl
  | cons i r ih => exact ih _

theorem closed_forced : ∀ (ts : List Nat) (listed : Array Bool), Closed l.toArray listed → forcedB l ts listed = true → Closed l.toArray (listAll listed ts)
  | [], _, h, _ => h
  | t :: r, listed, h, hf => by
    simp only [forcedB, Bool.and_eq_true, beq_iff_eq] at hf
    exact closed_forced r _ (h.set (by rw [hf.1]; simp)) hf.2
theorem closed_phase : ∀ (ts : List Nat) (listed : Array Bool), Closed l.toArray listed → phaseB l ts listed = true → Closed l.toArray (listAll listed ts)
  | [], _, h, _ => h
  | t :: r, listed, h, hf => by
    simp only [phaseB, Bool.and_eq_true] at hf
    exact closed_phase r _ (h.set (by simpa using hf.1.1)) hf.2

theorem any_pure {f : Nat} {K : List (Nat × Value) → Prop} (hnd : ∀ (j : Nat) (o : Oper), l.toArray[j]? = some o → ND ro o) (hsel : Region.noSelect l.toArray = true) (hQ : ∀ c a w, ¬ Q (.panic c) a w) :
    ∀ (ps : List Nat) (listed : Array Bool) (L : List (Nat × Value)), phaseB l ps listed = true → GPs P N l ps L K →
      (∀ L', K L' → ∀ a W, Fit N a L' → Ow X w0 W H → wpAnyIn (Fw ro) n P .any l.toArray Q f (listAll listed ps) a W) →
      ∀ a W, Fit N a L → Ow X w0 W H → wpAnyIn (Fw ro) n P .any l.toArray Q (ps.length + f) listed a W
  | [], listed, L, _, h, hK, a, W, hF, hO => by simpa [listAll] using hK L h a W hF hO
  | i :: r, listed, L, hb, h, hK, a, W, hF, hO => by
    simp only [phaseB, Bool.and_eq_true] at hb
    obtain ⟨o, v, ho, hd, ⟨hg, hrun⟩, hrest⟩ := h
    have ih := any_pure hnd hsel hQ r (listed.setIfInBounds i true) (ins o.dst v L) hb.2 hrest hK (a.put o.dst v) W (hF.put hd v) hO
    rw [List.length_cons, show r.length + 1 + f = (r.length + f) + 1 by omega]
    have ho' : l.toArray[i]? = some o := by simpa using ho
    exact any_first hnd ho' (Region.noSelect_spec hsel) hQ _ listed a W (Region.free_spec ho' hb.1.2) (by simpa using hb.1.1) ⟨by simp [Region.wanted, hg], fun w => hrun a w hF⟩ ih

theorem r_reads {T : World → Prop} {f : Nat} {ts : List Nat} {K : List (Nat × Value) → Prop} (hnd : ∀ (j : Nat) (o : Oper), l.toArray[j]? = some o → ND ro o) (hsel : Region.noSelect l.toArray = true) (hQ : ∀ c a w, ¬ Q (.panic c) a w) :
    ∀ (es : List Nat) (listed : Array Bool) (L : List (Nat × Value)), Closed l.toArray listed → phaseB l es listed = true →
      (∀ i ∈ es, ∀ listed, Closed l.toArray listed → listed.getD i true = false → ∀ j ∈ Region.ready .any l.toArray listed, ts.contains j = false) → GEs P N X w0 l H es L K →
      (∀ L', K L' → ∀ a W, Fit N a L' → T W → wpR ro n P l.toArray Q Z (fun W => Ow X w0 W H) ts.contains f (listAll listed es) a W) →
      ∀ a W, Fit N a L → T W → wpR ro n P l.toArray Q Z (fun W => Ow X w0 W H) ts.contains (es.length + f) listed a W
  | [], listed, L, _, _, _, h, hK, a, W, hF, hO => by simpa [listAll] using hK L h a W hF hO
  | i :: r, listed, L, hcl, hb, hX, h, hK, a, W, hF, hO => by
    simp only [phaseB, Bool.and_eq_true] at hb
    obtain ⟨o, v, ho, hd, he, hrest⟩ := h
    have hir : i ∈ Region.ready .any l.toArray listed := by simpa using hb.1.1
    have ih := r_reads hnd hsel hQ r (listed.setIfInBounds i true) (ins o.dst v L) (hcl.set hir) hb.2 (fun j hj => hX j (List.mem_cons_of_mem _ hj)) hrest hK (a.put o.dst v) W (hF.put hd v) hO
    rw [List.length_cons, show r.length + 1 + f = (r.length + f) + 1 by omega]
    have ho' : l.toArray[i]? = some o := by simpa using ho
    exact wpR_first hnd ho' (Region.noSelect_spec hsel) hQ (fun w w' h e => h.ext e) (hX i (by simp)) (r.length + f) listed a W hcl (Region.free_spec ho' hb.1.2) hir (he.cases hF) ih

theorem r_news (hnd : ∀ (j : Nat) (o : Oper), l.toArray[j]? = some o → ND ro o) {f : Nat} {ts : List Nat} {H0 : List Blk} {K : List (Nat × Value) → List Blk → Prop} :
    ∀ (as : List Nat) (listed : Array Bool) (L : List (Nat × Value)) (H : List Blk), forcedB l as listed = true → (∀ i ∈ as, ts.contains i = false) → GAs P N X w0 l H0 as L H K →
      (∀ L' H', K L' H' → ∀ a W, Fit N a L' → Ow X w0 W H' → wpR ro n P l.toArray Q Z (fun W => Ow X w0 W H0) ts.contains f (listAll listed as) a W) →
      ∀ a W, Fit N a L → Ow X w0 W H → wpR ro n P l.toArray Q Z (fun W => Ow X w0 W H0) ts.contains (as.length + f) listed a W
  | [], listed, L, H, _, _, h, hK, a, W, hF, hO => by simpa [listAll] using hK L H h a W hF hO
  | i :: r, listed, L, H, hb, hX, h, hK, a, W, hF, hO => by
    simp only [forcedB, Bool.and_eq_true, beq_iff_eq] at hb
    obtain ⟨o, R, ho, hg, hd, hx, hrest⟩ := h
    rw [List.length_cons, show r.length + 1 + f = (r.length + f) + 1 by omega]
    intro w1 he _
    refine ⟨fun h0 => (by rw [hb.1] at h0; cases h0), fun j hj => ?_⟩
    rw [hb.1, List.mem_singleton] at hj
    subst hj
    have ho' : l.toArray[j]? = some o := by simpa using ho
    unfold wpOpIn
    simp only [ho']
    rw [if_pos (by simp [Region.wanted, hg])]
    refine wpIn_of_wp (hnd _ _ ho') (hx a w1 hF (hO.ext he) _ Q fun v H' W' hR hO' _ => ?_)
    rw [if_neg (by have := hX j (by simp); simp only [this]; simp)]
    obtain ⟨hs, hr⟩ := hrest v H' hR
    exact ⟨hO'.sub hs, r_news hnd r _ _ H' hb.2 (fun k hk => hX k (List.mem_cons_of_mem _ hk)) hr hK _ _ (hF.put hd v) hO'⟩

theorem r_tail (hnd : ∀ (j : Nat) (o : Oper), l.toArray[j]? = some o → ND ro o) {ts : List Nat} {H0 : List Blk} {listed : Array Bool} (hf : forcedB l ts listed = true) (hr : Region.ready .any l.toArray (listAll listed ts) = []) (h : GI ro n P N X w0 l Q ts L H) :
    ∀ a W, Fit N a L → Ow X w0 W H → wpR ro n P l.toArray Q (wpAnyIn (Fw ro) n P .any l.toArray Q) (fun W => Ow X w0 W H0) ts.contains ts.length listed a W := by
  intro a W hF hO
  cases ts with
  | nil => exact fun w1 e _ => ⟨hr, h hnd a w1 hF (hO.ext e)⟩
  | cons t r =>
    intro w1 e _
    have hf' := hf
    simp only [forcedB, Bool.and_eq_true, beq_iff_eq] at hf'
    refine ⟨fun h0 => (by rw [hf'.1] at h0; cases h0), fun j hj => ?_⟩
    rw [hf'.1, List.mem_singleton] at hj
    subst hj
    have h1 := h hnd a w1 hF (hO.ext e)
    rw [wpOpsIn_cons] at h1
    refine wpOpIn_mono (fun a' w' h' => ?_) h1
    rw [if_pos (by simp)]
    exact any_of_ops r _ a' w' hf'.2 hr h'

/-! a new variable that may be made at any time -/
def forcedFB (l : List Oper) (i : Nat) : List Nat → Array Bool → Bool
  | [], listed => (Region.ready .any l.toArray listed == [i])
  | t :: r, listed => (Region.ready .any l.toArray listed == [t, i] || Region.ready .any l.toArray listed == [i, t]) && forcedFB l i r (listed.setIfInBounds t true)
def otherDst (l : List Oper) (d : Nat) (as : List Nat) : Bool := as.all fun t => match l[t]? with | some o => !(o.dst == some d) | none => true

theorem put_other {a : Act} {x : Option Nat} {d : Nat} {u v : Value} (h : x ≠ some d) (hv : a.tmps[d]? = some v) : (a.put x u).tmps[d]? = some v := by
  cases x with
  | none => exact hv
  | some e =>
    have hne : e ≠ d := fun e' => h (by rw [e'])
    simp [Act.put, Array.getElem?_setIfInBounds_ne hne, hv]

theorem r_fl_done (hnd : ∀ (j : Nat) (o : Oper), l.toArray[j]? = some o → ND ro o) {f i d : Nat} {ts : List Nat} {H0 : List Blk} {τ : TypeId} {cs : List Value} {K : List (Nat × Value) → List Blk → Prop} :
    ∀ (as : List Nat) (listed : Array Bool) (L : List (Nat × Value)) (H : List Blk), forcedB l as listed = true → otherDst l d as = true → (∀ j ∈ as, ts.contains j = false) → GAs P N X w0 l H0 as L H K →
      (∀ L' H' g, K L' H' → ∀ a W, Fit N a L' → a.tmps[d]? = some (.pointer (some ⟨g, 0, none⟩)) → Ow X w0 W (⟨g, τ, cs⟩ :: H') → wpR ro n P l.toArray Q Z (fun W => Ow X w0 W H0) ts.contains f (listAll listed as) a W) →
      ∀ g a W, Fit N a L → a.tmps[d]? = some (.pointer (some ⟨g, 0, none⟩)) → Ow X w0 W (⟨g, τ, cs⟩ :: H) → wpR ro n P l.toArray Q Z (fun W => Ow X w0 W H0) ts.contains (as.length + f) listed a W
  | [], listed, L, H, _, _, _, h, hK, g, a, W, hF, hd, hO => by simpa [listAll] using hK L H g h a W hF hd hO
  | j :: r, listed, L, H, hb, hoth, hX, h, hK, g, a, W, hF, hdv, hO => by
    simp only [forcedB, Bool.and_eq_true, beq_iff_eq] at hb
    obtain ⟨o, R, ho, hg, hd, hx, hrest⟩ := h
    simp only [otherDst, List.all_cons, Bool.and_eq_true, ho] at hoth
    rw [List.length_cons, show r.length + 1 + f = (r.length + f) + 1 by omega]
    intro w1 he _
    refine ⟨fun h0 => (by rw [hb.1] at h0; cases h0), fun k hk => ?_⟩
    rw [hb.1, List.mem_singleton] at hk
    subst hk
    have ho' : l.toArray[k]? = some o := by simpa using ho
    unfold wpOpIn
    simp only [ho']
    rw [if_pos (by simp [Region.wanted, hg])]
    have hO1 := hO.ext he
    refine wpIn_of_wp (hnd _ _ ho') (hx a w1 hF (hO1.sub (List.sublist_cons_self _ _)) _ Q fun v H' W' hR hO' hFr => ?_)
    rw [if_neg (by have := hX k (by simp); simp only [this]; simp)]
    obtain ⟨hs, hr⟩ := hrest v H' hR
    exact ⟨hO'.sub hs, r_fl_done hnd (i := i) r _ _ H' hb.2 hoth.2 (fun m hm => hX m (List.mem_cons_of_mem _ hm)) hr hK g _ _ (hF.put hd v) (put_other (by simpa using hoth.1) hdv) (hO1.beside hO' hFr)⟩

theorem set_comm_all (listed : Array Bool) (i : Nat) : ∀ as : List Nat, i ∉ as → listAll (listed.setIfInBounds i true) as = (listAll listed as).setIfInBounds i true
  | [], _ => rfl
  | t :: r, h => by
    have h1 : i ≠ t := fun e => h (by simp [e])
    have h2 : i ∉ r := fun e => h (List.mem_cons_of_mem _ e)
    simp only [listAll]
    rw [Array.setIfInBounds_comm _ _ h1]
    exact set_comm_all _ i r h2

theorem r_fl (hnd : ∀ (j : Nat) (o : Oper), l.toArray[j]? = some o → ND ro o) {f i d : Nat} {ts : List Nat} {H0 : List Blk} {τ : TypeId} {cs : List Value} {oi : Oper} {K : List (Nat × Value) → List Blk → Prop} (hoi : l[i]? = some oi) (hop : oi.op = .alloc τ) (hgd : oi.guard = none) (hdst : oi.dst = some d) (hdN : Nat.blt d N.n = true) (hz : TyZ P τ cs)
    (hi : ts.contains i = false) :
    ∀ (as : List Nat) (listed : Array Bool) (L : List (Nat × Value)) (H : List Blk), i ∉ as → forcedFB l i as listed = true → forcedB l as (listed.setIfInBounds i true) = true → otherDst l d as = true → (∀ j ∈ as, ts.contains j = false) → H0.Sublist H → look L d = none ∨ True → GAs P N X w0 l H0 as L H K →
      (∀ L' H' g, K L' H' → ∀ a W, Fit N a L' → a.tmps[d]? = some (.pointer (some ⟨g, 0, none⟩)) → Ow X w0 W (⟨g, τ, cs⟩ :: H') → wpR ro n P l.toArray Q Z (fun W => Ow X w0 W H0) ts.contains f (listAll (listed.setIfInBounds i true) as) a W) →
      (∀ s v, look L s = some v → s ≠ d) → (∀ L' H', K L' H' → True) →
      ∀ a W, Fit N a L → Ow X w0 W H → wpR ro n P l.toArray Q Z (fun W => Ow X w0 W H0) ts.contains (as.length + (f + 1)) listed a W := by
  have halloc : ∀ (L : List (Nat × Value)) (H : List Blk), XO P N X w0 oi L H (RNew H τ cs) := fun L H => xo_alloc hop hz
  have hoi' : l.toArray[i]? = some oi := by simpa using hoi
  have fitd : ∀ {a : Act} {L : List (Nat × Value)} {v : Value}, Fit N a L → (∀ s v, look L s = some v → s ≠ d) → Fit N (a.put oi.dst v) L ∧ (a.put oi.dst v).tmps[d]? = some v := by
    intro a L v hF hL
    have hlt : d < N.n := by simpa [Nat.blt_eq] using hdN
    rw [hdst]
    refine ⟨⟨hF.defers, by simp [Act.put, hF.size], fun s u hs => ?_⟩, by simp [Act.put, hF.size, hlt]⟩
    have := hL s u hs
    simp [Act.put, Array.getElem?_setIfInBounds_ne (Ne.symm this), hF.at_ s u hs]
  intro as
  induction as with
  | nil =>
    intro listed L H _ hb _ _ _ hs _ h hK hL _ a W hF hO
    simp only [forcedFB, beq_iff_eq] at hb
    rw [List.length_nil, Nat.zero_add]
    intro w1 he _
    refine ⟨fun h0 => (by rw [hb] at h0; cases h0), fun j hj => ?_⟩
    rw [hb, List.mem_singleton] at hj
    subst hj
    unfold wpOpIn
    simp only [hoi']
    rw [if_pos (by simp [Region.wanted, hgd])]
    refine wpIn_of_wp (hnd _ _ hoi') (halloc L H a w1 hF (hO.ext he) _ Q fun v H' W' hR hO' _ => ?_)
    obtain ⟨g, rfl, rfl⟩ := hR
    rw [if_neg (by simp only [hi]; simp)]
    exact ⟨hO'.sub (hs.trans (List.sublist_cons_self _ _)), hK L H g h _ _ (fitd hF hL).1 (fitd hF hL).2 hO'⟩
  | cons t r ih =>
    intro listed L H hni hb hb2 hoth hX hs _ h hK hL hT a W hF hO
    have hoth0 := hoth
    simp only [forcedFB, Bool.and_eq_true, Bool.or_eq_true, beq_iff_eq] at hb
    have hit : i ≠ t := fun e => hni (by simp [e])
    rw [List.length_cons, show r.length + 1 + (f + 1) = (r.length + (f + 1)) + 1 by omega]
    intro w1 he _
    have hne : Region.ready .any l.toArray listed ≠ [] := by rcases hb.1 with e | e <;> rw [e] <;> simp
    refine ⟨fun h0 => absurd h0 hne, fun j hj => ?_⟩
    have hjj : j = t ∨ j = i := by
      rcases hb.1 with e | e <;> rw [e] at hj <;> simp at hj <;> omega
    rcases hjj with rfl | rfl
    · obtain ⟨o, R, ho, hg, hd, hx, hrest⟩ := h
      simp only [otherDst, List.all_cons, Bool.and_eq_true, ho] at hoth
      have ho' : l.toArray[j]? = some o := by simpa using ho
      unfold wpOpIn
      simp only [ho']
      rw [if_pos (by simp [Region.wanted, hg])]
      refine wpIn_of_wp (hnd _ _ ho') (hx a w1 hF (hO.ext he) _ Q fun v H' W' hR hO' _ => ?_)
      rw [if_neg (by have := hX j (by simp); simp only [this]; simp)]
      obtain ⟨hs', hr⟩ := hrest v H' hR
      simp only [forcedB, Bool.and_eq_true] at hb2
      refine ⟨hO'.sub hs', ih _ _ H' (fun e => hni (List.mem_cons_of_mem _ e)) hb.2 ?_ hoth.2 (fun m hm => hX m (List.mem_cons_of_mem _ hm)) hs' (.inr trivial) hr ?_ ?_ hT _ _ (hF.put hd v) hO'⟩
      · rw [Array.setIfInBounds_comm _ _ (Ne.symm hit)]; exact hb2.2
      · intro L' H' g hk a W
        rw [Array.setIfInBounds_comm _ _ (Ne.symm hit)]
        exact hK L' H' g hk a W
      · intro s u hsu
        have hod : o.dst ≠ some d := by simpa using hoth.1
        cases hdd : o.dst with
        | none => rw [hdd] at hsu; exact hL s u hsu
        | some e =>
          rw [hdd] at hsu hod
          by_cases hse : e = s
          · intro hsd; exact hod (by rw [hse, hsd])
          · simp only [ins] at hsu
            rw [look_cons_ne hse] at hsu
            exact hL s u hsu
    · unfold wpOpIn
      simp only [hoi']
      rw [if_pos (by simp [Region.wanted, hgd])]
      refine wpIn_of_wp (hnd _ _ hoi') (halloc L H a w1 hF (hO.ext he) _ Q fun v H' W' hR hO' _ => ?_)
      obtain ⟨g, rfl, rfl⟩ := hR
      rw [if_neg (by simp only [hi]; simp)]
      refine ⟨hO'.sub (hs.trans (List.sublist_cons_self _ _)), ?_⟩
      have := r_fl_done hnd (i := j) (f := f) (t :: r) (listed.setIfInBounds j true) L H hb2 hoth0 hX h hK g _ _ (fitd hF hL).1 (fitd hF hL).2 hO'
      rw [List.length_cons, show r.length + 1 + f = r.length + (f + 1) by omega] at this
      exact this

/-- no slot d is known -/
def noSlot (d : Nat) : List (Nat × Value) → Bool
  | [] => true
  | (k, _) :: r => !(Nat.beq k d) && noSlot d r
theorem noSlot_spec {d : Nat} : ∀ {L : List (Nat × Value)}, noSlot d L = true → ∀ s v, look L s = some v → s ≠ d
  | [], _, s, v, h => by simp [look] at h
  | (k, u) :: r, hh, s, v, h => by
    simp only [noSlot, Bool.and_eq_true, Bool.not_eq_true'] at hh
    by_cases e : k = s
    · subst e; exact beq_ne hh.1
    · rw [look_cons_ne e] at h; exact noSlot_spec hh.2 s v h

def mixFB (l : List Oper) (ps es as ts : List Nat) (i d : Nat) : Bool :=
  Region.noSelect l.toArray && phaseB l ps (Array.replicate l.length false) && phaseB l es (listAll (Array.replicate l.length false) ps) &&
  forcedFB l i as (listAll (listAll (Array.replicate l.length false) ps) es) &&
  forcedB l as ((listAll (listAll (Array.replicate l.length false) ps) es).setIfInBounds i true) &&
  forcedB l ts (listAll ((listAll (listAll (Array.replicate l.length false) ps) es).setIfInBounds i true) as) &&
  (Region.ready .any l.toArray (listAll (listAll ((listAll (listAll (Array.replicate l.length false) ps) es).setIfInBounds i true) as) ts)).isEmpty &&
  (ps.length + es.length + as.length + ts.length + 1 == l.length) && chainB l ts && sinkB l (es ++ as ++ [i]) ts.head? && !(as.contains i) && !(ts.contains i) && otherDst l d as && as.all (fun j => !(ts.contains j))

/-- **.. with a new variable of the statement's own** -/
theorem gc_draw_new_in (hnd : ∀ (j : Nat) (o : Oper), l.toArray[j]? = some o → ND ro o) {id i d : Nat} {τ ty : TypeId} {pos : String} {af : Array Edge} {cs : List Value} (ps es as ts : List Nat) (hm : P.follows .mixedOrders = true) (hB : mixFB l ps es as ts i d = true)
    (hoi : l[i]? = some ⟨some d, .alloc τ, ty, pos, af, none⟩) (hz : TyZ P τ cs) (hdN : Nat.blt d N.n = true)
    (h : GPs P N l ps L fun L1 => GEs P N X w0 l H es L1 fun L2 => noSlot d L2 = true ∧ GAs P N X w0 l H as L2 H fun L3 H3 => ∀ g, GI ro n P N X w0 l (NQ Q) ts ((d, .pointer (some ⟨g, 0, none⟩)) :: L3) (⟨g, τ, cs⟩ :: H3)) :
    ∀ a W, Fit N a L → Ow X w0 W H → (Code.region id l.toArray true).wpIn (Fw ro) n P Q a W := by
  simp only [mixFB, Bool.and_eq_true, beq_iff_eq, List.isEmpty_iff, Bool.not_eq_true'] at hB
  obtain ⟨⟨⟨⟨⟨⟨⟨⟨⟨⟨⟨⟨⟨hsel, hps⟩, hes⟩, hfl⟩, has⟩, hts⟩, hend⟩, hlen⟩, hch⟩, hsk⟩, hia⟩, hit⟩, hoth⟩, hat⟩ := hB
  have hQ : ∀ c a w, ¬ NQ Q (.panic c) a w := fun _ _ _ h => h
  have c0 := closed_none (ops := l.toArray) l.length
  have c1 := closed_phase ps _ c0 hps
  have hXd : ∀ j ∈ es, ∀ listed, Closed l.toArray listed → listed.getD j true = false → ∀ k ∈ Region.ready .any l.toArray listed, ts.contains k = false := fun j hj => no_write_before hch hsk (List.mem_append_left _ (List.mem_append_left _ hj))
  have hXa : ∀ j ∈ as, ts.contains j = false := fun j hj => by simpa using List.all_eq_true.1 hat j hj
  intro a W hF hO
  refine Code.wpIn_mono NQ.out (wpIn_region_any hm ?_)
  have hsz : l.toArray.size = ps.length + (es.length + (as.length + (ts.length + 1))) := by simp; omega
  rw [hsz]
  have hrep : Array.replicate (ps.length + (es.length + (as.length + (ts.length + 1)))) false = Array.replicate l.length false := by congr 1; omega
  rw [hrep]
  refine any_pure hnd hsel hQ ps _ L hps h ?_ a _ hF hO.drew
  intro L1 h1 a W hF hO
  refine wpAny_of_wpR (Z := wpAnyIn (Fw ro) n P .any l.toArray (NQ Q)) (S := fun W => Ow X w0 W H) (xs := ts.contains) (fun _ _ _ _ h => h) _ _ _ _ hO ?_
  refine r_reads (T := fun W => Ow X w0 W H) hnd hsel hQ es _ L1 c1 hes hXd h1 ?_ a W hF hO
  intro L2 h2 a W hF hO
  refine r_fl hnd (d := d) hoi rfl rfl rfl hdN hz hit as _ L2 H (by simpa using hia) hfl has hoth hXa (List.Sublist.refl _) (.inr trivial) h2.2 ?_ (noSlot_spec h2.1) (fun _ _ _ => trivial) a W hF hO
  intro L3 H3 g h3 a W hF hdv hO
  refine r_tail hnd hts hend (h3 g) a W ⟨hF.defers, hF.size, fun s v hs => ?_⟩ hO
  by_cases e : d = s
  · subst e
    rw [look_cons_eq] at hs
    cases hs
    exact hdv
  · rw [look_cons_ne e] at hs
    exact hF.at_ s v hs

/-- **A region that draws its order, walked in one order.** -/
theorem gc_draw_in (hnd : ∀ (j : Nat) (o : Oper), l.toArray[j]? = some o → ND ro o) {id : Nat} (ps es as ts : List Nat) (hm : P.follows .mixedOrders = true) (hB : mixB l ps es as ts = true)
    (h : GPs P N l ps L fun L1 => GEs P N X w0 l H es L1 fun L2 => GAs P N X w0 l H as L2 H fun L3 H3 => GI ro n P N X w0 l (NQ Q) ts L3 H3) :
    ∀ a W, Fit N a L → Ow X w0 W H → (Code.region id l.toArray true).wpIn (Fw ro) n P Q a W := by
  simp only [mixB, Bool.and_eq_true, beq_iff_eq, List.isEmpty_iff] at hB
  obtain ⟨⟨⟨⟨⟨⟨⟨⟨hsel, hps⟩, hes⟩, has⟩, hts⟩, hend⟩, hlen⟩, hch⟩, hsk⟩ := hB
  have hQ : ∀ c a w, ¬ NQ Q (.panic c) a w := fun _ _ _ h => h
  have c0 := closed_none (ops := l.toArray) l.length
  have c1 := closed_phase ps _ c0 hps
  have hXd : ∀ i ∈ es ++ as, ∀ listed, Closed l.toArray listed → listed.getD i true = false → ∀ j ∈ Region.ready .any l.toArray listed, ts.contains j = false := fun i hi => no_write_before hch hsk hi
  have hXa : ∀ i ∈ as, ts.contains i = false := by
    -- a new block's turn: it is not listed and ready at its own turn
    intro i hi
    have c2 := closed_phase es _ c1 hes
    have key : ∀ (bs : List Nat) (listed : Array Bool), Closed l.toArray listed → forcedB l bs listed = true → (∀ k ∈ bs, k ∈ es ++ as) → ∀ k ∈ bs, ts.contains k = false := by
      intro bs
      induction bs with
      | nil => intro _ _ _ _ k hk; cases hk
      | cons b r ih =>
        intro listed hcl hb hsub k hk
        simp only [forcedB, Bool.and_eq_true, beq_iff_eq] at hb
        have hbr : b ∈ Region.ready .any l.toArray listed := by rw [hb.1]; simp
        rcases List.mem_cons.1 hk with rfl | hk
        · exact hXd k (hsub k (by simp)) listed hcl (mem_ready.1 hbr).1 k hbr
        · exact ih _ (hcl.set hbr) hb.2 (fun m hm => hsub m (List.mem_cons_of_mem _ hm)) k hk
    exact key as _ c2 has (fun k hk => List.mem_append_right _ hk) i hi
  intro a W hF hO
  refine Code.wpIn_mono NQ.out (wpIn_region_any hm ?_)
  have hsz : l.toArray.size = ps.length + (es.length + (as.length + ts.length)) := by simp; omega
  rw [hsz]
  have hrep : Array.replicate (ps.length + (es.length + (as.length + ts.length))) false = Array.replicate l.length false := by congr 1; omega
  rw [hrep]
  refine any_pure hnd hsel hQ ps _ L hps h ?_ a _ hF hO.drew
  intro L1 h1 a W hF hO
  refine wpAny_of_wpR (Z := wpAnyIn (Fw ro) n P .any l.toArray (NQ Q)) (S := fun W => Ow X w0 W H) (xs := ts.contains) (fun _ _ _ _ h => h) _ _ _ _ hO ?_
  refine r_reads (T := fun W => Ow X w0 W H) hnd hsel hQ es _ L1 c1 hes (fun i hi => hXd i (List.mem_append_left _ hi)) h1 ?_ a W hF hO
  intro L2 h2 a W hF hO
  refine r_news hnd as _ L2 H has hXa h2 ?_ a W hF hO
  intro L3 H3 h3 a W hF hO
  exact r_tail hnd hts hend h3 a W hF hO
/-- what an earlier stage shows, a later one asks no more -/
theorem wpR_lift {ops : Array Oper} {S0 S1 : World → Prop} {xs0 : Nat → Bool} {x : Nat} {Z0 : Nat → Array Bool → Act → World → Prop} (h10 : ∀ w, S1 w → S0 w) (hS1 : ∀ w w', S1 w → Ext w w' → S1 w')
    (hX : ∀ listed, Closed ops listed → listed.getD x true = false → ∀ j ∈ Region.ready .any ops listed, xs0 j = false) :
    ∀ (f : Nat) (listed : Array Bool) (a : Act) (w : World), Closed ops listed → listed.getD x true = false → S1 w → wpR ro n P ops Q (fun f l a w => S0 w ∧ wpR ro n P ops Q Z0 S0 xs0 f l a w) S1 (fun j => j == x) f listed a w → wpR ro n P ops Q Z0 S0 xs0 f listed a w
  | 0, listed, a, w, _, _, h1, h => fun w1 e _ => h w1 e (hS1 _ _ h1 e)
  | f + 1, listed, a, w, hcl, hx, h1, h => fun w1 e _ => by
    obtain ⟨ha, hb⟩ := h w1 e (hS1 _ _ h1 e)
    refine ⟨ha, fun j hj => wpOpIn_mono (fun a' w' h' => ?_) (hb j hj)⟩
    rw [if_neg (by rw [hX listed hcl hx j hj]; simp)]
    by_cases hjx : j = x
    · rw [if_pos (by simpa using hjx)] at h'; exact h'
    · rw [if_neg (by simpa using hjx)] at h'
      refine ⟨h10 _ h'.1, wpR_lift h10 hS1 hX f _ a' w' (hcl.set hj) ?_ h'.1 h'.2⟩
      rw [getD_set_ne true hjx]; exact hx

def mix2B (l : List Oper) (es1 es2 : List Nat) (x : Nat) (ts : List Nat) : Bool :=
  Region.noSelect l.toArray && phaseB l es1 (Array.replicate l.length false) && phaseB l es2 (listAll (Array.replicate l.length false) es1) &&
  forcedB l [x] (listAll (listAll (Array.replicate l.length false) es1) es2) &&
  forcedB l ts (listAll (listAll (listAll (Array.replicate l.length false) es1) es2) [x]) &&
  (Region.ready .any l.toArray (listAll (listAll (listAll (listAll (Array.replicate l.length false) es1) es2) [x]) ts)).isEmpty &&
  (es1.length + es2.length + 1 + ts.length == l.length) && chainB l ts && sinkB l (es1 ++ es2 ++ [x]) ts.head? && chainB l [x] && sinkB l es2 (some x) && ((listAll (listAll (Array.replicate l.length false) es1) []).getD x true == false)

/-- **A region that draws its order: reads that may come behind a write that does not meet them.** -/
theorem gc_draw2_in (hnd : ∀ (j : Nat) (o : Oper), l.toArray[j]? = some o → ND ro o) {id : Nat} (es1 es2 : List Nat) (x : Nat) (ts : List Nat) (H0 : List Blk) (hm : P.follows .mixedOrders = true) (hB : mix2B l es1 es2 x ts = true) (hH : H0.Sublist H)
    (h : GEs P N X w0 l H0 es1 L fun L1 => GEs P N X w0 l H es2 L1 fun L2 => ∃ o R, l[x]? = some o ∧ o.guard = none ∧ dOK N o.dst = true ∧ XO P N X w0 o L2 H R ∧ ∀ v H', R v H' → H0.Sublist H' ∧ GI ro n P N X w0 l (NQ Q) ts (ins o.dst v L2) H') :
    ∀ a W, Fit N a L → Ow X w0 W H → (Code.region id l.toArray true).wpIn (Fw ro) n P Q a W := by
  simp only [mix2B, Bool.and_eq_true, beq_iff_eq, List.isEmpty_iff] at hB
  obtain ⟨⟨⟨⟨⟨⟨⟨⟨⟨⟨⟨hsel, hes1⟩, hes2⟩, hx⟩, hts⟩, hend⟩, hlen⟩, hch⟩, hsk⟩, hcx⟩, hsx⟩, hx0⟩ := hB
  have hQ : ∀ c a w, ¬ NQ Q (.panic c) a w := fun _ _ _ h => h
  have c0 := closed_none (ops := l.toArray) l.length
  have c1 := closed_phase es1 _ c0 hes1
  have hXd : ∀ i ∈ es1 ++ es2 ++ [x], ∀ listed, Closed l.toArray listed → listed.getD i true = false → ∀ j ∈ Region.ready .any l.toArray listed, ts.contains j = false := fun i hi => no_write_before hch hsk hi
  have hXx : ∀ i ∈ es2, ∀ listed, Closed l.toArray listed → listed.getD i true = false → ∀ j ∈ Region.ready .any l.toArray listed, [x].contains j = false := fun i hi => no_write_before hcx hsx hi
  intro a W hF hO
  refine Code.wpIn_mono NQ.out (wpIn_region_any hm ?_)
  have hsz : l.toArray.size = es1.length + (es2.length + (1 + ts.length)) := by simp; omega
  rw [hsz]
  have hrep : Array.replicate (es1.length + (es2.length + (1 + ts.length))) false = Array.replicate l.length false := by congr 1; omega
  rw [hrep]
  refine wpAny_of_wpR (Z := wpAnyIn (Fw ro) n P .any l.toArray (NQ Q)) (S := fun W => Ow X w0 W H0) (xs := ts.contains) (fun _ _ _ _ h => h) _ _ _ _ (hO.drew.sub hH) ?_
  refine r_reads (T := fun W => Ow X w0 W H) hnd hsel hQ es1 _ L c0 hes1 (fun i hi => hXd i (List.mem_append_left _ (List.mem_append_left _ hi))) h ?_ a _ hF hO.drew
  intro L1 h1 a W hF hO
  refine wpR_lift (x := x) (S1 := fun W => Ow X w0 W H) (fun w h => h.sub hH) (fun _ _ h e => h.ext e) (hXd x (by simp)) _ _ _ _ c1 hx0 hO ?_
  have hpred : (fun j => j == x) = [x].contains := by funext j; rw [Bool.eq_iff_iff]; simp
  rw [hpred]
  refine r_reads (ts := [x]) (T := fun W => Ow X w0 W H) hnd hsel hQ es2 _ L1 c1 hes2 hXx h1 ?_ a W hF hO
  intro L2 ⟨o, R, ho, hg, hd, hxo, hrest⟩ a W hF hO
  rw [show 1 + ts.length = ts.length + 1 by omega]
  intro w1 he _
  have hx' := hx
  simp only [forcedB, Bool.and_eq_true, beq_iff_eq] at hx'
  refine ⟨fun h0 => (by rw [hx'.1] at h0; cases h0), fun j hj => ?_⟩
  rw [hx'.1, List.mem_singleton] at hj
  subst hj
  have ho' : l.toArray[j]? = some o := by simpa using ho
  unfold wpOpIn
  simp only [ho']
  rw [if_pos (by simp [Region.wanted, hg])]
  refine wpIn_of_wp (hnd _ _ ho') (hxo a w1 hF (hO.ext he) _ _ fun v H' W' hR hO' _ => ?_)
  rw [if_pos (by simp)]
  obtain ⟨hs, hgi⟩ := hrest v H' hR
  exact ⟨hO'.sub hs, r_tail hnd hts hend hgi _ W' (hF.put hd v) hO'⟩

theorem nd_none {ops : Array Oper} (j : Nat) (o : Oper) (_ : ops[j]? = some o) : ND none o := .inl rfl
theorem gc_draw_new {id i d : Nat} {τ ty : TypeId} {pos : String} {af : Array Edge} {cs : List Value} (ps es as ts : List Nat) (hm : P.follows .mixedOrders = true) (hB : mixFB l ps es as ts i d = true)
    (hoi : l[i]? = some ⟨some d, .alloc τ, ty, pos, af, none⟩) (hz : TyZ P τ cs) (hdN : Nat.blt d N.n = true)
    (h : GPs P N l ps L fun L1 => GEs P N X w0 l H es L1 fun L2 => noSlot d L2 = true ∧ GAs P N X w0 l H as L2 H fun L3 H3 => ∀ g, GI none 0 P N X w0 l (NQ Q) ts ((d, .pointer (some ⟨g, 0, none⟩)) :: L3) (⟨g, τ, cs⟩ :: H3)) :
    GC P N X w0 Q (.region id l.toArray true) L H := fun a W hF hO => wpIn_wide.1 (gc_draw_new_in (ro := none) (n := 0) nd_none ps es as ts hm hB hoi hz hdN h a W hF hO)
theorem gc_draw {id : Nat} (ps es as ts : List Nat) (hm : P.follows .mixedOrders = true) (hB : mixB l ps es as ts = true)
    (h : GPs P N l ps L fun L1 => GEs P N X w0 l H es L1 fun L2 => GAs P N X w0 l H as L2 H fun L3 H3 => GI none 0 P N X w0 l (NQ Q) ts L3 H3) :
    GC P N X w0 Q (.region id l.toArray true) L H := fun a W hF hO => wpIn_wide.1 (gc_draw_in (ro := none) (n := 0) nd_none ps es as ts hm hB h a W hF hO)
end walk

/-! ### the forms that a walk uses: each operation is written out -/
section forms
variable {P : Program} {ro : Option Nat} {n : Nat} {N : Sz} {X : List Nat} {w0 : World} {ops : Array Oper} {l : List Oper} {Q : Exit → Act → World → Prop} {L : List (Nat × Value)} {H : List Blk} {rest : List Oper} {d : Nat} {op : Op} {ty : TypeId} {pos : String} {af : Array Edge} {gd : Option (Nat × Bool)} {v : Value} {R : Value → List Blk → Prop}

theorem ne (he : EO P N X w0 ⟨some d, op, ty, pos, af, none⟩ L H v) (hd : Nat.blt d N.n = true) (h : GO P N X w0 ops Q rest ((d, v) :: L) H) : GO P N X w0 ops Q (⟨some d, op, ty, pos, af, none⟩ :: rest) L H :=
  go_e (.inl ⟨rfl, he⟩) hd h
theorem ng {j s : Nat} {want b : Bool} (hs : (ops[j]?).bind (·.dst) = some s) (hb : look L s = some (.bool b)) (he : b = want → EO P N X w0 ⟨some d, op, ty, pos, af, some (j, want)⟩ L H v) (hd : Nat.blt d N.n = true)
    (h : GO P N X w0 ops Q rest ((d, if b = want then v else undef) :: L) H) : GO P N X w0 ops Q (⟨some d, op, ty, pos, af, some (j, want)⟩ :: rest) L H :=
  go_e (.inr (.inl ⟨j, want, s, b, v, rfl, hs, hb, he, rfl⟩)) hd h
theorem ns {j s : Nat} {want b : Bool} (hs : (ops[j]?).bind (·.dst) = some s) (hb : look L s = some (.bool b)) (hne : b ≠ want) (hd : Nat.blt d N.n = true)
    (h : GO P N X w0 ops Q rest ((d, undef) :: L) H) : GO P N X w0 ops Q (⟨some d, op, ty, pos, af, some (j, want)⟩ :: rest) L H :=
  go_skip rfl hs hb hne hd h
theorem ngc {j s : Nat} {want b : Bool} {C : Prop} [Decidable C] (hs : (ops[j]?).bind (·.dst) = some s) (hb : look L s = some (if C then .bool b else undef)) (he : C ∧ b = want → EO P N X w0 ⟨some d, op, ty, pos, af, some (j, want)⟩ L H v) (hd : Nat.blt d N.n = true)
    (h : GO P N X w0 ops Q rest ((d, if C ∧ b = want then v else undef) :: L) H) : GO P N X w0 ops Q (⟨some d, op, ty, pos, af, some (j, want)⟩ :: rest) L H := by
  by_cases hC : C
  · rw [if_pos hC] at hb
    refine ng hs hb (fun h => he ⟨hC, h⟩) hd ?_
    have e : (if C ∧ b = want then v else undef) = if b = want then v else undef := by simp [hC]
    rw [e] at h
    exact h
  · rw [if_neg hC] at hb
    have e : (if C ∧ b = want then v else undef) = undef := by simp [hC]
    rw [e] at h
    intro a W hF hO
    refine wpList_step fun K hK => ?_
    have hy : yielded ops a.tmps j = none := by
      have := hF.at_ s _ hb
      simp [yielded, hs, this, undef]
    rw [if_neg (by simp [Region.wanted, hy])]
    exact hK _ _ (h _ _ (hF.put (d := some d) hd _) hO)
theorem nx (hx : XO P N X w0 ⟨some d, op, ty, pos, af, none⟩ L H R) (hd : Nat.blt d N.n = true)
    (h : ∀ v H', R v H' → GO P N X w0 ops Q rest ((d, v) :: L) H') : GO P N X w0 ops Q (⟨some d, op, ty, pos, af, none⟩ :: rest) L H := go_x hx rfl hd h
theorem nxg {j s : Nat} {want : Bool} (hs : (ops[j]?).bind (·.dst) = some s) (hb : look L s = some (.bool want)) (hx : XO P N X w0 ⟨some d, op, ty, pos, af, some (j, want)⟩ L H R) (hd : Nat.blt d N.n = true)
    (h : ∀ v H', R v H' → GO P N X w0 ops Q rest ((d, v) :: L) H') : GO P N X w0 ops Q (⟨some d, op, ty, pos, af, some (j, want)⟩ :: rest) L H := go_xg hx rfl hs hb hd h
theorem nu (hx : XO P N X w0 ⟨none, op, ty, pos, af, none⟩ L H R) (h : ∀ v H', R v H' → GO P N X w0 ops Q rest L H') : GO P N X w0 ops Q (⟨none, op, ty, pos, af, none⟩ :: rest) L H := go_x hx rfl rfl h

theorem de {i : Nat} {is : List Nat} {K : List (Nat × Value) → Prop} (ho : l[i]? = some ⟨some d, op, ty, pos, af, none⟩) (he : EO P N X w0 ⟨some d, op, ty, pos, af, none⟩ L H v) (hd : Nat.blt d N.n = true) (h : GEs P N X w0 l H is ((d, v) :: L) K) : GEs P N X w0 l H (i :: is) L K :=
  ge_cons ho (.inl ⟨rfl, he⟩) hd h
theorem dg {i : Nat} {is : List Nat} {K : List (Nat × Value) → Prop} {j s : Nat} {want b : Bool} (ho : l[i]? = some ⟨some d, op, ty, pos, af, some (j, want)⟩) (hs : (l[j]?).bind (·.dst) = some s) (hb : look L s = some (.bool b)) (he : b = want → EO P N X w0 ⟨some d, op, ty, pos, af, some (j, want)⟩ L H v) (hd : Nat.blt d N.n = true)
    (h : GEs P N X w0 l H is ((d, if b = want then v else undef) :: L) K) : GEs P N X w0 l H (i :: is) L K :=
  ge_cons ho (.inr (.inl ⟨j, want, s, b, v, rfl, by simpa using hs, hb, he, rfl⟩)) hd h
theorem dgc {i : Nat} {is : List Nat} {K : List (Nat × Value) → Prop} {j s : Nat} {want b : Bool} {C : Prop} [Decidable C] (ho : l[i]? = some ⟨some d, op, ty, pos, af, some (j, want)⟩) (hs : (l[j]?).bind (·.dst) = some s) (hb : look L s = some (if C then .bool b else undef)) (he : C ∧ b = want → EO P N X w0 ⟨some d, op, ty, pos, af, some (j, want)⟩ L H v) (hd : Nat.blt d N.n = true)
    (h : GEs P N X w0 l H is ((d, if C ∧ b = want then v else undef) :: L) K) : GEs P N X w0 l H (i :: is) L K := by
  refine ge_cons (v := if C ∧ b = want then v else undef) ho ?_ hd h
  by_cases hC : C
  · rw [if_pos hC] at hb
    have e : (if C ∧ b = want then v else undef) = if b = want then v else undef := by simp [hC]
    rw [e]
    exact .inr (.inl ⟨j, want, s, b, v, rfl, by simpa using hs, hb, fun h => he ⟨hC, h⟩, rfl⟩)
  · rw [if_neg hC] at hb
    have e : (if C ∧ b = want then v else undef) = undef := by simp [hC]
    rw [e]
    exact .inr (.inr ⟨j, want, s, rfl, by simpa using hs, hb, rfl⟩)
theorem dp {i : Nat} {is : List Nat} {K : List (Nat × Value) → Prop} (ho : l[i]? = some ⟨some d, op, ty, pos, af, none⟩) (he : ∀ a W, Fit N a L → (execOp a.eval ⟨some d, op, ty, pos, af, none⟩).run P W = .ok (.value v) W) (hd : Nat.blt d N.n = true) (h : GPs P N l is ((d, v) :: L) K) : GPs P N l (i :: is) L K :=
  gp_cons ho ⟨rfl, he⟩ hd h
theorem da {i : Nat} {is : List Nat} {H0 : List Blk} {K : List (Nat × Value) → List Blk → Prop} (ho : l[i]? = some ⟨some d, op, ty, pos, af, none⟩) (hx : XO P N X w0 ⟨some d, op, ty, pos, af, none⟩ L H R) (hd : Nat.blt d N.n = true)
    (h : ∀ v H', R v H' → H0.Sublist H' ∧ GAs P N X w0 l H0 is ((d, v) :: L) H' K) : GAs P N X w0 l H0 (i :: is) L H K := ga_cons ho hx rfl hd h
theorem ie {i : Nat} {is : List Nat} (ho : l[i]? = some ⟨some d, op, ty, pos, af, none⟩) (he : EO P N X w0 ⟨some d, op, ty, pos, af, none⟩ L H v) (hd : Nat.blt d N.n = true) (h : GI ro n P N X w0 l Q is ((d, v) :: L) H) : GI ro n P N X w0 l Q (i :: is) L H :=
  gi_e ho (.inl ⟨rfl, he⟩) hd h
theorem ix {i : Nat} {is : List Nat} (ho : l[i]? = some ⟨some d, op, ty, pos, af, none⟩) (hx : XO P N X w0 ⟨some d, op, ty, pos, af, none⟩ L H R) (hd : Nat.blt d N.n = true)
    (h : ∀ v H', R v H' → GI ro n P N X w0 l Q is ((d, v) :: L) H') : GI ro n P N X w0 l Q (i :: is) L H := gi_x ho hx rfl hd h
theorem iu {i : Nat} {is : List Nat} (ho : l[i]? = some ⟨none, op, ty, pos, af, none⟩) (hx : XO P N X w0 ⟨none, op, ty, pos, af, none⟩ L H R)
    (h : ∀ v H', R v H' → GI ro n P N X w0 l Q is L H') : GI ro n P N X w0 l Q (i :: is) L H := gi_x ho hx rfl rfl h
theorem xo_of_eo {o : Oper} (he : EO P N X w0 o L H v) : XO P N X w0 o L H (RIs v H) := fun a W hF hO _ _ hK => wp_of_eAt (he a W hF hO) fun w' e => hK v H w' ⟨rfl, rfl⟩ (hO.ext e) (Fr.ext e)
theorem gq_nq (h : GQ N X w0 Q .normal L H) : GQ N X w0 (NQ Q) .normal L H := h

theorem po_field {o : Oper} {s : TypeId} {x : Operand} {f g k off : Nat} {v : Value} (ho : o.op = .fieldAddr s x f) (hf : FieldAt P s f off) (hx : ev L x = some (.pointer (some ⟨g, k, none⟩))) (hv : v = .pointer (some ⟨g, k + off, none⟩)) : ∀ a W, Fit N a L → (execOp a.eval o).run P W = .ok (.value v) W :=
  fun a W hF => by
    subst hv
    obtain ⟨fields, fd, n, hu, hfd, hsz, rfl⟩ := hf
    have hz := run_sizeOf (P := P) hsz W
    simp [execOp, ho, hF.eval hx, Instr.fieldAt, run_underlying hu, hfd, Instr.sureAddr, fieldPlace, hz, Addr.add_lit]
theorem po_mv {o : Oper} {x : Operand} {v : Value} (ho : o.op = .move x) (hx : ev L x = some v) : ∀ a W, Fit N a L → (execOp a.eval o).run P W = .ok (.value v) W :=
  fun a W hF => by simp [execOp, ho, hF.eval hx]

/-! ### loops with one to four letters -/
section loops
variable {α β γ δ : Type} {c : Code}
theorem loop1 (I : α → Prop) (μ : α → Nat) (Lx : α → List (Nat × Value)) (Hx : α → List Blk) (x : α) (h0 : I x) (hL : Has L (Lx x)) (hH : (Hx x).Sublist H)
    (round : ∀ x, I x → GC P N X w0 (Exit.then (fun a W => ∃ n, n < μ x ∧ RoundAt N X w0 I μ Lx Hx n a W) Q) c (Lx x) (Hx x)) : GC P N X w0 Q (.loop c) L H := gc_loop I μ Lx Hx x h0 hL hH round
theorem round1 {I : α → Prop} {μ : α → Nat} {Lx : α → List (Nat × Value)} {Hx : α → List Blk} {n : Nat} (x : α) (hI : I x) (hμ : μ x < n) (hL : Has L (Lx x)) (hH : (Hx x).Sublist H) :
    GQ N X w0 (Exit.then (fun a W => ∃ m, m < n ∧ RoundAt N X w0 I μ Lx Hx m a W) Q) .normal L H := gq_round x hI hμ hL hH
def RoundAt2 (N : Sz) (X : List Nat) (w0 : World) (I : α → β → Prop) (μ : α → β → Nat) (Lx : α → β → List (Nat × Value)) (Hx : α → β → List Blk) (n : Nat) (a : Act) (W : World) : Prop :=
  ∃ m, m < n ∧ ∃ x y, I x y ∧ μ x y = m ∧ Fit N a (Lx x y) ∧ Ow X w0 W (Hx x y)
theorem loop2 (I : α → β → Prop) (μ : α → β → Nat) (Lx : α → β → List (Nat × Value)) (Hx : α → β → List Blk) (x : α) (y : β) (h0 : I x y) (hL : Has L (Lx x y)) (hH : (Hx x y).Sublist H)
    (round : ∀ x y, I x y → GC P N X w0 (Exit.then (RoundAt2 N X w0 I μ Lx Hx (μ x y)) Q) c (Lx x y) (Hx x y)) : GC P N X w0 Q (.loop c) L H := by
  intro _ _ hF hO
  refine wp_loop_ghost (fun n a W => ∃ x y, I x y ∧ μ x y = n ∧ Fit N a (Lx x y) ∧ Ow X w0 W (Hx x y)) (μ x y) ⟨x, y, h0, rfl, hF.weak hL, hO.sub hH⟩ ?_
  rintro n a W ⟨x, y, hI, rfl, hF, hO⟩
  exact round x y hI a W hF hO
theorem round2 {I : α → β → Prop} {μ : α → β → Nat} {Lx : α → β → List (Nat × Value)} {Hx : α → β → List Blk} {n : Nat} (x : α) (y : β) (hI : I x y) (hμ : μ x y < n) (hL : Has L (Lx x y)) (hH : (Hx x y).Sublist H) :
    GQ N X w0 (Exit.then (RoundAt2 N X w0 I μ Lx Hx n) Q) .normal L H := fun _ _ hF hO => ⟨μ x y, hμ, x, y, hI, rfl, hF.weak hL, hO.sub hH⟩
def RoundAt3 (N : Sz) (X : List Nat) (w0 : World) (I : α → β → γ → Prop) (μ : α → β → γ → Nat) (Lx : α → β → γ → List (Nat × Value)) (Hx : α → β → γ → List Blk) (n : Nat) (a : Act) (W : World) : Prop :=
  ∃ m, m < n ∧ ∃ x y z, I x y z ∧ μ x y z = m ∧ Fit N a (Lx x y z) ∧ Ow X w0 W (Hx x y z)
theorem loop3 (I : α → β → γ → Prop) (μ : α → β → γ → Nat) (Lx : α → β → γ → List (Nat × Value)) (Hx : α → β → γ → List Blk) (x : α) (y : β) (z : γ) (h0 : I x y z) (hL : Has L (Lx x y z)) (hH : (Hx x y z).Sublist H)
    (round : ∀ x y z, I x y z → GC P N X w0 (Exit.then (RoundAt3 N X w0 I μ Lx Hx (μ x y z)) Q) c (Lx x y z) (Hx x y z)) : GC P N X w0 Q (.loop c) L H := by
  intro _ _ hF hO
  refine wp_loop_ghost (fun n a W => ∃ x y z, I x y z ∧ μ x y z = n ∧ Fit N a (Lx x y z) ∧ Ow X w0 W (Hx x y z)) (μ x y z) ⟨x, y, z, h0, rfl, hF.weak hL, hO.sub hH⟩ ?_
  rintro n a W ⟨x, y, z, hI, rfl, hF, hO⟩
  exact round x y z hI a W hF hO
theorem round3 {I : α → β → γ → Prop} {μ : α → β → γ → Nat} {Lx : α → β → γ → List (Nat × Value)} {Hx : α → β → γ → List Blk} {n : Nat} (x : α) (y : β) (z : γ) (hI : I x y z) (hμ : μ x y z < n) (hL : Has L (Lx x y z)) (hH : (Hx x y z).Sublist H) :
    GQ N X w0 (Exit.then (RoundAt3 N X w0 I μ Lx Hx n) Q) .normal L H := fun _ _ hF hO => ⟨μ x y z, hμ, x, y, z, hI, rfl, hF.weak hL, hO.sub hH⟩
def RoundAt4 (N : Sz) (X : List Nat) (w0 : World) (I : α → β → γ → δ → Prop) (μ : α → β → γ → δ → Nat) (Lx : α → β → γ → δ → List (Nat × Value)) (Hx : α → β → γ → δ → List Blk) (n : Nat) (a : Act) (W : World) : Prop :=
  ∃ m, m < n ∧ ∃ x y z u, I x y z u ∧ μ x y z u = m ∧ Fit N a (Lx x y z u) ∧ Ow X w0 W (Hx x y z u)
theorem loop4 (I : α → β → γ → δ → Prop) (μ : α → β → γ → δ → Nat) (Lx : α → β → γ → δ → List (Nat × Value)) (Hx : α → β → γ → δ → List Blk) (x : α) (y : β) (z : γ) (u : δ) (h0 : I x y z u) (hL : Has L (Lx x y z u)) (hH : (Hx x y z u).Sublist H)
    (round : ∀ x y z u, I x y z u → GC P N X w0 (Exit.then (RoundAt4 N X w0 I μ Lx Hx (μ x y z u)) Q) c (Lx x y z u) (Hx x y z u)) : GC P N X w0 Q (.loop c) L H := by
  intro _ _ hF hO
  refine wp_loop_ghost (fun n a W => ∃ x y z u, I x y z u ∧ μ x y z u = n ∧ Fit N a (Lx x y z u) ∧ Ow X w0 W (Hx x y z u)) (μ x y z u) ⟨x, y, z, u, h0, rfl, hF.weak hL, hO.sub hH⟩ ?_
  rintro n a W ⟨x, y, z, u, hI, rfl, hF, hO⟩
  exact round x y z u hI a W hF hO
theorem round4 {I : α → β → γ → δ → Prop} {μ : α → β → γ → δ → Nat} {Lx : α → β → γ → δ → List (Nat × Value)} {Hx : α → β → γ → δ → List Blk} {n : Nat} (x : α) (y : β) (z : γ) (u : δ) (hI : I x y z u) (hμ : μ x y z u < n) (hL : Has L (Lx x y z u)) (hH : (Hx x y z u).Sublist H) :
    GQ N X w0 (Exit.then (RoundAt4 N X w0 I μ Lx Hx n) Q) .normal L H := fun _ _ hF hO => ⟨μ x y z u, hμ, x, y, z, u, hI, rfl, hF.weak hL, hO.sub hH⟩
end loops

/-- where ways meet again -/
theorem seq_cut {α : Type} {x y : Code} (I : α → Prop) (Lx : α → List (Nat × Value)) (Hx : α → List Blk)
    (hx : GC P N X w0 (Exit.then (fun a W => ∃ z, I z ∧ Fit N a (Lx z) ∧ Ow X w0 W (Hx z)) Q) x L H) (hy : ∀ z, I z → GC P N X w0 Q y (Lx z) (Hx z)) : GC P N X w0 Q (.seq x y) L H := by
  intro a W hF hO
  refine wp_seq (wp_mono (hx a W hF hO) ?_)
  intro e a' W' h
  cases e with
  | normal =>
    obtain ⟨z, hI, hF', hO'⟩ := h
    exact hy z hI a' W' hF' hO'
  | exit id => exact h
  | goto l => exact h
  | ret => exact h
  | panic ch => exact h
  | outgrown => exact h
theorem cut_at {α : Type} {I : α → Prop} {Lx : α → List (Nat × Value)} {Hx : α → List Blk} (z : α) (hI : I z) (hL : Has L (Lx z)) (hH : (Hx z).Sublist H) :
    GQ N X w0 (Exit.then (fun a W => ∃ z, I z ∧ Fit N a (Lx z) ∧ Ow X w0 W (Hx z)) Q) .normal L H := fun _ _ hF hO => ⟨z, hI, hF.weak hL, hO.sub hH⟩

theorem ev_if {x : Operand} {C : Prop} [Decidable C] (h : C) (hx : ev L x = some (if C then v else undef)) : ev L x = some v := by rw [hx, if_pos h]
theorem evp_nil : evp L [] = some [] := rfl
theorem evp_cons {i : Nat} {x : Operand} {xs : List (Nat × Operand)} {vs : List (Nat × Value)} (h : ev L x = some v) (hr : evp L xs = some vs) : evp L ((i, x) :: xs) = some ((i, v) :: vs) := by simp [evp, h, hr]
theorem evs_nil : evs L [] = some [] := rfl
theorem evs_cons {x : Operand} {xs : List Operand} {vs : List Value} (h : ev L x = some v) (hr : evs L xs = some vs) : evs L (x :: xs) = some (v :: vs) := by simp [evs, h, hr]
/-- a callee's new blocks -/
theorem xo_fresh {o : Oper} {f : FuncId} {args : List Operand} {tys : Array TypeId} {vs : List Value} (ho : o.op = .call { callee := .value (.func f), args := args.toArray, argTypes := tys }) (hE : Ent P f) (hv : evs L args = some vs)
    (hc : ∀ W, Ow X w0 W H → Calls P f vs.toArray W fun e W' => ∃ v Hn, e = .returned v ∧ R v Hn ∧ Ow [] W W' Hn) : XO P N X w0 o L H (fun v H' => ∃ Hn, R v Hn ∧ H' = Hn ++ H) :=
  xo_call ho hE hv fun W hO => (hc W hO).mono fun _ _ ⟨v, Hn, he, hR, hO'⟩ => ⟨v, Hn ++ H, he, ⟨Hn, hR, rfl⟩, hO.news hO', Fr.news hO'⟩
theorem look_int {k : IntKind} {s : Nat} {a b : Int} (h : look L s = some (.int k a)) (e : a = b) : look L s = some (.int k b) := by rw [h, e]
theorem look_bool {s : Nat} {a b : Bool} (h : look L s = some (.bool a)) (e : a = b) : look L s = some (.bool b) := by rw [h, e]
theorem look_v {s : Nat} {a b : Value} (h : look L s = some a) (e : a = b) : look L s = some b := by rw [h, e]

/-! ### results -/
theorem res0 {fn : Func} (h : fn.results = #[]) : ∀ a W, Fit N a L → Ow X w0 W H → (results fn a.tmps).run P W = .ok (.tuple #[]) W := fun _ _ _ _ => results_none h _ _ _
theorem res1 {fn : Func} {t : Tmp} (h : fn.results = #[.tmp t]) (ht : look L t = some v) : ∀ a W, Fit N a L → Ow X w0 W H → (results fn a.tmps).run P W = .ok v W := fun a W hF _ => by
  rw [results_tmp h]
  simp [hF.at_ t v ht]
theorem res2 {fn : Func} {t u : Tmp} {v' : Value} (h : fn.results = #[.tmp t, .tmp u]) (ht : look L t = some v) (hu : look L u = some v') : ∀ a W, Fit N a L → Ow X w0 W H → (results fn a.tmps).run P W = .ok (.tuple #[v, v']) W := fun a W hF _ => by
  rw [results_tmp2 h]
  simp [hF.at_ t v ht, hF.at_ u v' hu]
theorem run_cell {t : TypeId} {n g : Nat} {W : World} (ht : TyA P t n) (i : Nat) {b : Blk} (hi : H[i]? = some b) (hg : b.g = g) (hn : b.cs.length = n) (hO : Ow X w0 W H) : (loadVar t ⟨g, 0, none⟩).run P W = .ok (.agg b.cs.toArray) W := by
  have hr := run_loadA (P := P) (W := W) ht (g := g) (o := 0) (cs := b.cs) hn (fun j _ => by rw [Nat.zero_add, ← hg]; exact hO.cell hi j)
  simpa [Instr.loadAt, Instr.sureAddr] using hr
/-- a struct alone -/
theorem resC {fn : Func} {t : Tmp} {τ : TypeId} {n g : Nat} (i : Nat) {b : Blk} (h : fn.results = #[.cell t τ]) (ht : TyA P τ n) (hp : look L t = some (.pointer (some ⟨g, 0, none⟩))) (hi : H[i]? = some b) (hg : b.g = g) (hn : b.cs.length = n) :
    ∀ a W, Fit N a L → Ow X w0 W H → (results fn a.tmps).run P W = .ok (.agg b.cs.toArray) W := fun a W hF hO => by
  have hr := run_cell ht i hi hg hn hO
  simp [results, h, hF.at_ t _ hp, asAddr, hr]
/-- a struct and a plain value -/
theorem resCT {fn : Func} {t u : Tmp} {τ : TypeId} {n g : Nat} (i : Nat) {b : Blk} (h : fn.results = #[.cell t τ, .tmp u]) (ht : TyA P τ n) (hp : look L t = some (.pointer (some ⟨g, 0, none⟩))) (hi : H[i]? = some b) (hg : b.g = g) (hn : b.cs.length = n) (hu : look L u = some v) :
    ∀ a W, Fit N a L → Ow X w0 W H → (results fn a.tmps).run P W = .ok (.tuple #[.agg b.cs.toArray, v]) W := fun a W hF hO => by
  have hr := run_cell ht i hi hg hn hO
  simp [results, h, hF.at_ t _ hp, hF.at_ u v hu, asAddr, hr]
/-- a struct and two plain values -/
theorem resCTT {fn : Func} {t u u2 : Tmp} {τ : TypeId} {n g : Nat} {v2 : Value} (i : Nat) {b : Blk} (h : fn.results = #[.cell t τ, .tmp u, .tmp u2]) (ht : TyA P τ n) (hp : look L t = some (.pointer (some ⟨g, 0, none⟩))) (hi : H[i]? = some b) (hg : b.g = g) (hn : b.cs.length = n) (hu : look L u = some v) (hu2 : look L u2 = some v2) :
    ∀ a W, Fit N a L → Ow X w0 W H → (results fn a.tmps).run P W = .ok (.tuple #[.agg b.cs.toArray, v, v2]) W := fun a W hF hO => by
  have hr := run_cell ht i hi hg hn hO
  simp [results, h, hF.at_ t _ hp, hF.at_ u v hu, hF.at_ u2 v2 hu2, asAddr, hr]
end forms
end Go.Eng
