/-
  A function is not nil; a result variable of one cell; the iterator over a clone. No program is named here.
-/
import Derived.Test.YtefblgildcaldaaBo
namespace Go.Bs
open Go.RowKit Go.Eng
section
variable {P : Program} {N : Sz} {X : List Nat} {w0 : World} {o : Oper} {L : List (Nat × Value)} {H : List Blk}
theorem eo_fnnil {t t2 : TypeId} {x : Operand} {fn : Fn} {us vs : Array Value} {α β γ} (ho : o.op = .binOp .eql t x (.const .nilFunc) t2) (hx : ev L x = some (.func fn us vs)) (ht : P.underlying t = some (.func α β γ)) : EO P N X w0 o L H (.bool false) :=
  eo_val fun a W hF _ => by
    have e1 : binOp .eql t (.func fn us vs) .nilFunc = (do pure (.bool (← Op.equal t (.func fn us vs) .nilFunc))) := rfl
    have e2 : (Op.equal t (.func fn us vs) .nilFunc).run P W = .ok false W := by
      show (Op.equalIn (9999 + 1) t (.func fn us vs) .nilFunc).run P W = _
      rw [Op.equalIn]
      simp only [Sem.run_bind, run_underlying ht, Result.andThen_ok, Sem.run_pure]
    simp only [execOp, ho, hF.eval hx, eval_const, eqGuard_at_func, e1, Sem.run_bind, Sem.run_pure, Result.andThen_ok, e2]
theorem resCS {fn : Func} {t : Tmp} {τ : TypeId} {g : Nat} {v : Value} (i : Nat) {b : Blk} (h : fn.results = #[.cell t τ]) (ht : TyS P τ) (hp : Go.Eng.look L t = some (.pointer (some ⟨g, 0, none⟩))) (hi : H[i]? = some b) (hg : b.g = g) (hv : b.cs[0]? = some v) :
    ∀ a W, Fit N a L → Ow X w0 W H → (results fn a.tmps).run P W = .ok v W := fun a W hF hO => by
  have hc : W.cell? ⟨g, 0, none⟩ = some v := by rw [← hg]; exact (hO.cell hi 0).trans hv
  have hr := Go.Eng.run_load (P := P) (W := W) ht hc
  have hr2 : (loadVar τ ⟨g, 0, none⟩).run P W = .ok v W := by simpa [Instr.loadAt, Instr.sureAddr] using hr
  simp [results, h, hF.at_ t _ hp, asAddr, hr2]
end
/-- a clone, in memory that is only read -/
def RLb (e : TypeId) (n : Nat) (f : Nat → Bool) (v : Value) (S : List Blk) : Prop := ∃ s : AS, v = .slice s.adr n s.cap ∧ s.Ok 1 n (tab n (bv f)) ∧ S = s.blks e (tab n (bv f))
theorem rlb_of {e : TypeId} {n : Nat} {f : Nat → Bool} {v : Value} {S : List Blk} (h : RApp [] e 1 n (tab n (bv f)) v S) : RLb e n f v S := by
  obtain ⟨s, hs, rfl, rfl⟩ := h
  exact ⟨s, AS.val_eq hs, hs, by simp⟩
/-- what 'Pixels' hands back -/
def RPix (d : FuncId) (M e : TypeId) (W H : Int) (n : Nat) (f : Nat → Bool) (v : Value) (Hn : List Blk) : Prop :=
  ∃ (g : Nat) (s : AS), v = .func (.func d) #[] #[.pointer (some ⟨g, 0, none⟩)] ∧ s.Ok 1 n (tab n (bv f)) ∧ Hn = ⟨g, M, [.int .i64 W, .int .i64 H, .slice s.adr n s.cap]⟩ :: s.blks e (tab n (bv f))
theorem mid_notin {A B C : List Blk} (h : ((A ++ (B ++ C)).map Blk.g).Nodup) {g : Nat} (hg : g ∈ B.map Blk.g) : g ∉ (A ++ C).map Blk.g := by
  rw [List.map_append, List.map_append] at h
  obtain ⟨_, h2, h3⟩ := List.nodup_append.1 h
  obtain ⟨_, _, h5⟩ := List.nodup_append.1 h2
  intro hm
  rw [List.map_append] at hm
  rcases List.mem_append.1 hm with hm | hm
  · exact h3 g hm g (List.mem_append.2 (.inl hg)) rfl
  · exact h5 g hg g hm rfl
/-- the facts that a walk of the iterator asks for -/
theorem pix_facts {W : World} {w0 : World} {X : List Nat} {A C S : List Blk} {g n : Nat} {s : AS} {M e : TypeId} {vs : List Value} {f : Nat → Bool} (hs : s.Ok 1 n (tab n (bv f))) (hS : S = ⟨g, M, vs⟩ :: s.blks e (tab n (bv f))) (hO : Ow X w0 W (A ++ (S ++ C))) :
    W.heap[g]? = some (.cells vs.toArray M (0, 0)) ∧ g ∉ (A ++ C).map Blk.g ∧ Rd W s.adr (tab n (bv f)) ∧ (0 < n → bl s.adr ∉ (A ++ C).map Blk.g) ∧ (0 < n → bl s.adr ≠ g) := by
  subst hS
  have hs1 : Ow X w0 W (⟨g, M, vs⟩ :: s.blks e (tab n (bv f))) := (own_app (own_app hO).2).1
  have hd := hO.dist
  refine ⟨(hs1.own _ List.mem_cons_self).1, mid_notin hd (by simp), AS.reads (F := [⟨g, M, vs⟩]) hs hs1, fun hn => ?_, fun hn => ?_⟩
  · cases s with
    | nil => have := hs.1; omega
    | at_ g' sp cap => exact mid_notin hd (by simp [AS.blks, AS.adr, bl])
  · cases s with
    | nil => have := hs.1; omega
    | at_ g' sp cap =>
      have := hs1.dist
      simp only [AS.blks, List.map_cons, List.map_nil, List.nodup_cons, List.mem_singleton] at this
      simp only [AS.adr, bl]
      exact fun e => this.1 e.symm
/-! ### the statement about the dark pixels in order -/
/-- as far as the loop went, the points were the document's -/
def gB (l : List (Int × Int)) (most : Int) (xs : List (Int × Int)) : Prop := xs = l.take xs.length ∧ (xs.length : Int) ≤ most
theorem gB_nil {l : List (Int × Int)} {most : Int} (h : 0 ≤ most) : gB l most [] := ⟨by simp, by simpa using h⟩
theorem take_next {l pre : List (Int × Int)} {x : Int × Int} (h : pre = l.take pre.length) (hl : pre.length < l.length) (hx : l.getD pre.length (0, 0) = x) : pre ++ [x] = l.take (pre ++ [x]).length := by
  rw [List.length_append, List.length_singleton, take_snoc hl, ← h, hx]
theorem pt_eq {l : List (Int × Int)} {i : Nat} {x : Int × Int} (h : (!([x.1, x.2] == [ptG l (i * 2 + 0), ptG l (i * 2 + 1)])) = false) : l.getD i (0, 0) = x := by
  rw [ptG_x, ptG_y] at h
  simp at h
  rw [List.getD_eq_getElem?_getD]
  exact Prod.ext h.1.symm h.2.symm
theorem pt_ne {l : List (Int × Int)} {i : Nat} {x : Int × Int} (h : (!([x.1, x.2] == [ptG l (i * 2 + 0), ptG l (i * 2 + 1)])) = true) (e : l.getD i (0, 0) = x) : False := by
  rw [ptG_x, ptG_y, e] at h
  simp at h
/-- where the body leaves the loop -/
def rB (l : List (Int × Int)) (most : Int) (Hx : List (Int × Int) → List Blk) (c : Code) (xs : List (Int × Int)) (H' : List Blk) : Prop :=
  H'.map Blk.g = (Hx []).map Blk.g ∧ ((c = .ret ∧ ∃ pre x, xs = pre ++ [x] ∧ pre = l.take pre.length ∧ ¬ (pre.length < l.length ∧ l.getD pre.length (0, 0) = x)) ∨
    (c = .exit 0 ∧ xs = l.take xs.length ∧ (xs.length : Int) = most + 1 ∧ H' = Hx xs))
theorem stop_pre {W H : Int} {n : Nat} {f : Nat → Bool} {xs : List (Int × Int)} (h : ∃ i, i < n ∧ f i = true ∧ vldB W H n = true ∧ xs = dotsL W f i ++ [((i : Int) % W, (i : Int) / W)]) : xs = (dotsV W H n f).take xs.length ∧ xs.length ≤ (dotsV W H n f).length := by
  obtain ⟨i, hi, hf, hv, rfl⟩ := h
  have e : dotsV W H n f = dotsL W f n := if_pos hv
  obtain ⟨r, hr⟩ := dotsL_pre W f (i := i + 1) (k := n) (by omega)
  rw [e, hr, dotsL_yes hf]
  exact ⟨(List.take_left' rfl).symm, by rw [List.length_append (bs := r)]; omega⟩
theorem stop_no {W H : Int} {n : Nat} {f : Nat → Bool} {xs : List (Int × Int)} (h : ∃ i, i < n ∧ f i = true ∧ vldB W H n = true ∧ xs = dotsL W f i ++ [((i : Int) % W, (i : Int) / W)])
    (k : ∃ pre x, xs = pre ++ [x] ∧ pre = (dotsV W H n f).take pre.length ∧ ¬ (pre.length < (dotsV W H n f).length ∧ (dotsV W H n f).getD pre.length (0, 0) = x)) : False := by
  obtain ⟨a, b⟩ := stop_pre h
  obtain ⟨pre, x, rfl, _, k2⟩ := k
  rw [List.length_append, List.length_singleton] at a b
  refine k2 ⟨by omega, ?_⟩
  rw [take_snoc (by omega)] at a
  have := (List.append_inj' a rfl).2
  simpa using this.symm
end Go.Bs
