/-
  Five bitmaps in a slice: what 'operations' hands back. No program is named here.
-/
import Derived.Test.YtmkdfbaklookdaaMr
namespace Go.Bs
open Go.RowKit Go.Eng

def pick5 {α : Type} (a b c d e : α) : Nat → α
  | 0 => a
  | 1 => b
  | 2 => c
  | 3 => d
  | _ => e
def opsM (m : Pm Bool) (rx ry : Int) : Nat → Pm Bool := pick5 (erodeR m rx ry).1 (dilateR m rx ry).1 (openR m rx ry).1 (closeR m rx ry).1 (majR m rx).1
def flat3 (k : Nat) (M : Nat → Pm Bool) (A : Nat → Option Addr) (c : Nat → Nat) : List Value := (List.range k).flatMap fun i => [.int .i64 (M i).W, .int .i64 (M i).H, .slice (A i) (M i).n (c i)]
theorem flat3_at {M : Nat → Pm Bool} {A : Nat → Option Addr} {c : Nat → Nat} {i j : Nat} (hi : i < 5) (hj : j < 3) : (flat3 5 M A c)[0 + i * 3 + j]? = [Value.int .i64 (M i).W, .int .i64 (M i).H, .slice (A i) (M i).n (c i)][j]? := by
  rcases (show i = 0 ∨ i = 1 ∨ i = 2 ∨ i = 3 ∨ i = 4 by omega) with rfl | rfl | rfl | rfl | rfl <;> rcases (show j = 0 ∨ j = 1 ∨ j = 2 by omega) with rfl | rfl | rfl <;> rfl
def ROps (t : TypeId) (M : Nat → Pm Bool) (v : Value) (b : Blk) (S : List Blk) : Prop :=
  ∃ g A c, v = .slice (some ⟨g, 0, none⟩) 5 5 ∧ b = ⟨g, t, flat3 5 M A c⟩ ∧ ∀ i, i < 5 → (M i).n ≤ c i ∧ Rds S (A i) (tab (M i).n (bv (M i).f))
theorem Rds.sub {S T : List Blk} {A : Option Addr} {xs : List Value} (h : Rds S A xs) (hs : S.Sublist T) : Rds T A xs := fun _ _ _ hO => h.rd (hO.sub hs)
theorem all5 {p : Nat → Prop} (h0 : p 0) (h1 : p 1) (h2 : p 2) (h3 : p 3) (h4 : p 4) : ∀ i, i < 5 → p i := by
  intro i hi
  rcases (show i = 0 ∨ i = 1 ∨ i = 2 ∨ i = 3 ∨ i = 4 by omega) with rfl | rfl | rfl | rfl | rfl <;> assumption
theorem opsM_le {m : Pm Bool} {rx ry : Int} {i : Nat} : (opsM m rx ry i).n ≤ 4194304 := by
  unfold opsM pick5
  split
  · exact erodeR_le
  · exact dilateR_le
  · exact openR_le
  · exact closeR_le
  · exact majR_le
theorem ops_mono {a b : Pm Bool} (hl : a.le b) {rx ry : Int} {i : Nat} : wiB (opsM a rx ry i) (opsM b rx ry i) = true := by
  unfold opsM pick5
  split
  · exact erode_mono hl
  · exact dilate_mono hl
  · exact open_mono hl
  · exact close_mono hl
  · exact maj_mono hl
theorem ops_zero {m : Pm Bool} (hv : m.vld = true) {i : Nat} : (opsM m 0 0 i).eqv m := by
  unfold opsM pick5
  split
  · exact erode_zero hv
  · exact dilate_zero hv
  · exact open_zero hv
  · exact close_zero hv
  · exact maj_zero hv
section
variable {P : Program} {N : Sz} {X : List Nat} {w0 : World} {o : Oper} {L : List (Nat × Value)} {H : List Blk}
/-- a callee's new block in front, its further blocks behind -/
theorem xo_fresh1T {R : Value → Blk → List Blk → Prop} {f : FuncId} {args : List Operand} {tys : Array TypeId} {vs : List Value} (ho : o.op = .call { callee := .value (.func f), args := args.toArray, argTypes := tys }) (hE : Ent P f) (hv : evs L args = some vs)
    (hc : ∀ W, Ow X w0 W H → Calls P f vs.toArray W fun e W' => ∃ v b S, e = .returned v ∧ R v b S ∧ Ow [] W W' (b :: S)) : XO P N X w0 o L H (fun v H' => ∃ b S, R v b S ∧ H' = b :: (H ++ S)) :=
  xo_call ho hE hv fun W hO => (hc W hO).mono fun _ _ ⟨v, b, S, he, hR, hO'⟩ => ⟨v, b :: (H ++ S), he, ⟨b, S, hR, rfl⟩, (own_perm_news hO hO').perm (List.perm_middle), by
    have h := fr_newsT (H := H) hO'
    exact ⟨h.size, h.keep, fun c hc => h.ids c (List.perm_middle.symm.mem_iff.1 hc)⟩⟩
end
theorem le_upd {n k : Nat} {f g : Nat → Bool} (hg : ∀ j, j < n → f j = true → g j = true) : ∀ j, j < n → f j = true → upd g k true j = true := by
  intro j hj hf
  by_cases e : j = k
  · subst e; exact upd_eq
  · rw [upd_ne e]; exact hg j hj hf
end Go.Bs
