/-
  Plain laws for the divided page: each pixel has at most one owner, each dark one has one, each box is tight and has no wide gap. No program is named here.
-/
import Derived.Test.YtnmiljloifbjeaaRu
import Derived.Test.YtnmiljloifbjeaaRw
namespace Go.Eng
open Go.RowKit
section
variable {P : Program} {N : Sz} {X : List Nat} {w0 : World} {Q : Exit → Act → World → Prop} {L : List (Nat × Value)} {H : List Blk} {α β γ δ ε ζ : Type} {c : Code}
def RoundAt6 (N : Sz) (X : List Nat) (w0 : World) (I : α → β → γ → δ → ε → ζ → Prop) (μ : α → β → γ → δ → ε → ζ → Nat) (Lx : α → β → γ → δ → ε → ζ → List (Nat × Value)) (Hx : α → β → γ → δ → ε → ζ → List Blk) (n : Nat) (a : Act) (W : World) : Prop :=
  ∃ x y z u v t, I x y z u v t ∧ μ x y z u v t = n ∧ Fit N a (Lx x y z u v t) ∧ Ow X w0 W (Hx x y z u v t)
theorem loop6 (I : α → β → γ → δ → ε → ζ → Prop) (μ : α → β → γ → δ → ε → ζ → Nat) (Lx : α → β → γ → δ → ε → ζ → List (Nat × Value)) (Hx : α → β → γ → δ → ε → ζ → List Blk) (x : α) (y : β) (z : γ) (u : δ) (v : ε) (t : ζ) (h0 : I x y z u v t) (hL : Has L (Lx x y z u v t)) (hH : (Hx x y z u v t).Sublist H)
    (round : ∀ x y z u v t, I x y z u v t → GC P N X w0 (Exit.then (fun a W => ∃ n, n < μ x y z u v t ∧ RoundAt6 N X w0 I μ Lx Hx n a W) Q) c (Lx x y z u v t) (Hx x y z u v t)) : GC P N X w0 Q (.loop c) L H := by
  intro _ _ hF hO
  refine wp_loop_ghost (RoundAt6 N X w0 I μ Lx Hx) (μ x y z u v t) ⟨x, y, z, u, v, t, h0, rfl, hF.weak hL, hO.sub hH⟩ ?_
  rintro n a W ⟨x, y, z, u, v, t, hI, rfl, hF, hO⟩
  exact round x y z u v t hI a W hF hO
theorem round6 {I : α → β → γ → δ → ε → ζ → Prop} {μ : α → β → γ → δ → ε → ζ → Nat} {Lx : α → β → γ → δ → ε → ζ → List (Nat × Value)} {Hx : α → β → γ → δ → ε → ζ → List Blk} {n : Nat} (x : α) (y : β) (z : γ) (u : δ) (v : ε) (t : ζ) (hI : I x y z u v t) (hμ : μ x y z u v t < n) (hL : Has L (Lx x y z u v t)) (hH : (Hx x y z u v t).Sublist H) :
    GQ N X w0 (Exit.then (fun a W => ∃ m, m < n ∧ RoundAt6 N X w0 I μ Lx Hx m a W) Q) .normal L H :=
  fun _ _ hF hO => ⟨_, hμ, x, y, z, u, v, t, hI, rfl, hF.weak hL, hO.sub hH⟩
end
end Go.Eng
namespace Go.Bs
open Go.RowKit Go.Eng
/-! ### arrays of truth values are compared -/
section
variable {P : Program} {N : Sz} {X : List Nat} {w0 : World} {o : Oper} {L : List (Nat × Value)} {H : List Blk}
theorem run_eq_arrB (w : World) (d : Nat) {t e : TypeId} {len : Nat} {xs : Array Value} {F : Nat → Bool} (ht : P.underlying t = some (.array len e)) (he : P.underlying e = some .bool) (hz : (P.info? e).map (·.size) = some 1) (hx : ∀ i, i < len → xs[i]? = some (.bool (F i))) (hk : P.plainKey e = true) :
    (Op.equalIn (d + 1 + 1) t (.agg xs) (.agg xs)).run P w = .ok true w := by
  have hs := Go.Eng.run_sizeOf (P := P) hz w
  rw [Op.equalIn]
  simp only [Sem.run_bind, run_underlying ht, Result.andThen_ok, hs]
  rw [Std.Legacy.Range.forIn_eq_forIn_range']
  have hl : ∀ i ∈ List.range' [0:len].start [0:len].size [0:len].step, i < len := by
    intro i hi
    have := List.mem_range'.1 hi
    simp at this
    omega
  generalize List.range' [0:len].start [0:len].size [0:len].step = l at *
  induction l with
  | nil => simp
  | cons i l ih =>
    have hp := run_part_plain (P := P) (w := w) hk (hx i (hl i (by simp)))
    simp only [List.forIn_cons, Sem.run_bind, Nat.mul_one, hp, Result.andThen_ok, run_equalIn_bool' _ _ _ _ _ he, Sem.run_ite, BEq.rfl, Bool.not_true, Bool.false_eq_true, if_false, Sem.run_pure]
    have := ih fun j hj => hl j (List.mem_cons_of_mem _ hj)
    simpa only [Nat.mul_one, Sem.run_bind] using this
theorem eo_neArr4 {t e t2 : TypeId} {x y : Operand} (ho : o.op = .binOp .neq t x y t2) (ht : P.underlying t = some (.array 4 e)) (he : P.underlying e = some .bool) (hz : (P.info? e).map (·.size) = some 1) (hk : P.plainKey e = true) (hg : P.eqGuardType P.depth t = false)
    (hx : ev L x = some (.agg #[.bool true, .bool true, .bool true, .bool true])) (hy : ev L y = some (.agg #[.bool true, .bool true, .bool true, .bool true])) : EO P N X w0 o L H (.bool false) :=
  eo_val fun a W hF _ => by
    have h := run_eq_arrB (P := P) W 9998 (xs := #[.bool true, .bool true, .bool true, .bool true]) (F := fun _ => true) ht he hz (fun i hi => by rcases i with _ | _ | _ | _ | i <;> first | rfl | omega) hk
    simp only [execOp, ho, hF.eval hx, hF.eval hy, Sem.run_bind, run_eqGuard_agg _ _ _ _ _ _ _ hg, Result.andThen_ok, run_neq_struct, h, Sem.run_pure, Bool.not_true]
end

/-! ### owners -/
def inB4 (b : Bx) (x y : Int) : Bool := decide (b.X ≤ x ∧ x < b.X + b.W ∧ b.Y ≤ y ∧ y < b.Y + b.H)
theorem inB4_iff {b : Bx} {x y : Int} : inB4 b x y = true ↔ BHas b x y := decide_eq_true_iff
def ownF (l : List Bx) (W : Int) (i : Nat) (j : Nat) : Bool := (l.take i).any fun b => inB4 b ((j : Int) % W) ((j : Int) / W)
def prtB (b : Bx) (W y x : Int) (j : Nat) : Bool := decide (b.X ≤ (j : Int) % W ∧ (j : Int) % W < b.X + b.W ∧ b.Y ≤ (j : Int) / W ∧ ((j : Int) / W < y ∨ ((j : Int) / W = y ∧ (j : Int) % W < x)))
def ownP (l : List Bx) (W : Int) (i : Nat) (b : Bx) (y x : Int) (j : Nat) : Bool := ownF l W i j || prtB b W y x j
section
variable {f : Nat → Bool} {W H gx gy x y : Int} {n i j q : Nat} {b : Bx} {l : List Bx} {f1 : Nat → Bool}
theorem own_new : (false : Bool) = ownF l W 0 j := rfl
theorem own_start : ownF l W i j = ownP l W i b b.Y b.X j := by
  unfold ownP
  have : prtB b W b.Y b.X j = false := decide_eq_false fun ⟨h1, _, h3, h4⟩ => by omega
  rw [this, Bool.or_false]
theorem own_row : ownP l W i b y (b.X + b.W) j = ownP l W i b (y + 1) b.X j := by
  unfold ownP
  congr 1
  unfold prtB
  exact decide_eq_decide.2 ⟨fun ⟨h1, h2, h3, h4⟩ => ⟨h1, h2, h3, by omega⟩, fun ⟨h1, h2, h3, h4⟩ => ⟨h1, h2, h3, by omega⟩⟩
theorem take_sn {α : Type} {l : List α} {i : Nat} {d : α} (h : i < l.length) : l.take (i + 1) = l.take i ++ [l.getD i d] := by
  rw [List.take_add_one, List.getElem?_eq_getElem h, List.getD_eq_getElem?_getD, List.getElem?_eq_getElem h]
  rfl
theorem own_done (hi : i < l.length) (hb : b = l.getD i bx0) (hy : y = b.Y + b.H) : ownP l W i b y b.X j = ownF l W (i + 1) j := by
  unfold ownF ownP ownF
  rw [take_sn (d := bx0) hi, ← hb, List.any_append, List.any_cons, List.any_nil, Bool.or_false]
  congr 1
  unfold prtB inB4
  exact decide_eq_decide.2 ⟨fun ⟨h1, h2, h3, h4⟩ => ⟨h1, h2, h3, by omega⟩, fun ⟨h1, h2, h3, h4⟩ => ⟨h1, h2, h3, by omega⟩⟩
theorem own_free (ha : l.Pairwise fun s t => ∀ x y, BHas s x y → BHas t x y → False) (hi : i < l.length) (hb : b = l.getD i bx0) (hh : BHas b ((j : Int) % W) ((j : Int) / W)) : ownF l W i j = false := by
  cases c : ownF l W i j with
  | false => rfl
  | true =>
    unfold ownF at c
    obtain ⟨t, t1, t2⟩ := List.any_eq_true.1 c
    have hd : l = l.take i ++ l.drop i := (List.take_append_drop i l).symm
    rw [hd, List.pairwise_append] at ha
    have hm : b ∈ l.drop i := by
      rw [hb, List.getD_eq_getElem?_getD, List.getElem?_eq_getElem hi]
      exact List.mem_iff_getElem?.2 ⟨0, by rw [List.getElem?_drop, Nat.add_zero, List.getElem?_eq_getElem hi]; rfl⟩
    exact (ha.2.2 t t1 b hm _ _ (inB4_iff.1 t2) hh).elim
theorem own_at (ha : l.Pairwise fun s t => ∀ x y, BHas s x y → BHas t x y → False) (hi : i < l.length) (hb : b = l.getD i bx0) (hx0 : 0 ≤ x) (hxW : x < W) (hq : (q : Int) = y * W + x) (hh : BHas b x y) : ownP l W i b y x q = false := by
  obtain ⟨e1, e2⟩ := dm hq hx0 hxW
  unfold ownP
  rw [own_free ha hi hb (by rw [e1, e2]; exact hh), Bool.false_or]
  exact decide_eq_false fun ⟨h1, _, h3, h4⟩ => by omega
theorem own_step (hx0 : 0 ≤ x) (hxW : x < W) (hq : (q : Int) = y * W + x) (hh : BHas b x y) (hI : ∀ j, j < n → f1 j = ownP l W i b y x j) : ∀ j, j < n → upd f1 q true j = ownP l W i b y (x + 1) j := by
  intro j hj
  obtain ⟨e1, e2⟩ := dm hq hx0 hxW
  obtain ⟨k1, k2, k3, k4⟩ := hh
  by_cases e : j = q
  · subst e
    rw [upd_eq]
    unfold ownP
    have : prtB b W y (x + 1) j = true := decide_eq_true ⟨by omega, by omega, by omega, by omega⟩
    rw [this, Bool.or_true]
  · rw [upd_ne e, hI j hj]
    unfold ownP
    congr 1
    unfold prtB
    have ne : ¬ ((j : Int) / W = y ∧ (j : Int) % W = x) := fun ⟨a, c⟩ => e (by
      have h1 := Int.mul_ediv_add_emod (j : Int) W
      rw [a, c, Int.mul_comm] at h1
      omega)
    exact decide_eq_decide.2 ⟨fun ⟨h1, h2, h3, h4⟩ => ⟨h1, h2, h3, by omega⟩, fun ⟨h1, h2, h3, h4⟩ => ⟨h1, h2, h3, by omega⟩⟩
theorem own_all (hv : vldB W H n = true) (hd : Dv f W H gx gy ⟨0, 0, W, H⟩ l) (hj : j < n) (hf : f j = true) (hi : i = l.length) : ownF l W i j = true := by
  subst hi
  obtain ⟨c1, c2, c3, c4, c5⟩ := cell_bd hv hj
  obtain ⟨t, t1, t2⟩ := hd.all ((j : Int) % W) ((j : Int) / W) ⟨c1, by simp only; omega, c3, by simp only; omega⟩ (by rw [px_j]; exact hf)
  unfold ownF
  rw [List.take_length]
  exact List.any_eq_true.2 ⟨t, t1, inB4_iff.2 t2⟩
/-! ### the sides of a box -/
def SdI (f : Nat → Bool) (W : Int) (b : Bx) (y x : Int) (s0 s1 s2 s3 : Bool) : Prop := ∀ u v, BHas b u v → (v < y ∨ (v = y ∧ u < x)) → pxD W f u v = true → (u = b.X → s0 = true) ∧ (u = b.X + b.W - 1 → s1 = true) ∧ (v = b.Y → s2 = true) ∧ (v = b.Y + b.H - 1 → s3 = true)
variable {s0 s1 s2 s3 : Bool}
theorem sd_new : SdI f W b b.Y b.X false false false false := fun u v ⟨h1, _, h3, _⟩ h _ => by omega
theorem sd_row (h : SdI f W b y (b.X + b.W) s0 s1 s2 s3) : SdI f W b (y + 1) b.X s0 s1 s2 s3 := fun u v hb hp hd => h u v hb (by have := hb.1; have := hb.2.1; omega) hd
theorem sd_light (h : SdI f W b y x s0 s1 s2 s3) (hl : pxD W f x y = false) : SdI f W b y (x + 1) s0 s1 s2 s3 := fun u v hb hp hd => by
  refine h u v hb ?_ hd
  by_cases e : v = y ∧ u = x
  · rw [e.1, e.2, hl] at hd; cases hd
  · omega
theorem sd_dark (h : SdI f W b y x s0 s1 s2 s3) : SdI f W b y (x + 1) (s0 || decide (x = b.X)) (s1 || decide (x = b.X + b.W - 1)) (s2 || decide (y = b.Y)) (s3 || decide (y = b.Y + b.H - 1)) := fun u v hb hp hd => by
  by_cases e : v = y ∧ u = x
  · obtain ⟨rfl, rfl⟩ := e
    refine ⟨fun c => ?_, fun c => ?_, fun c => ?_, fun c => ?_⟩ <;> rw [decide_eq_true c, Bool.or_true]
  · obtain ⟨a1, a2, a3, a4⟩ := h u v hb (by omega) hd
    exact ⟨fun c => by rw [a1 c, Bool.true_or], fun c => by rw [a2 c, Bool.true_or], fun c => by rw [a3 c, Bool.true_or], fun c => by rw [a4 c, Bool.true_or]⟩
theorem sd_end (ht : Tg f W H b) (h : SdI f W b y x s0 s1 s2 s3) (hy : y = b.Y + b.H) : s0 = true ∧ s1 = true ∧ s2 = true ∧ s3 = true := by
  have up : ∀ {u v}, BHas b u v → (v < y ∨ (v = y ∧ u < x)) := fun hb => by have := hb.2.2.2; omega
  obtain ⟨y1, p1, p2⟩ := ht.red.lef
  obtain ⟨y2, q1, q2⟩ := ht.red.rig
  obtain ⟨x1, r1, r2⟩ := ht.red.top
  obtain ⟨x2, t1, t2⟩ := ht.red.bot
  exact ⟨(h _ _ p1 (up p1) p2).1 rfl, (h _ _ q1 (up q1) q2).2.1 rfl, (h _ _ r1 (up r1) r2).2.2.1 rfl, (h _ _ t1 (up t1) t2).2.2.2 rfl⟩
/-! ### no wide gap -/
theorem lf_gap (h : isLf f W gx gy b) {v : Bool} (hq : q < (gpV f W b v).length) : ptG (gpV f W b v) (q * 2 + 1) < (if v = true then gx else gy) := by
  rw [ptG_y]
  have hm := getD_mem hq
  cases v
  · exact ((wid_spec (least := gy) (l := gpR f W b) gp_pos).2.2 h.2).2 _ hm
  · exact ((wid_spec (least := gx) (l := gpC f W b) gp_pos).2.2 h.1).2 _ hm
theorem gap_law (hv : vldB W H n = true) (ht : Tg f W H b) (hl : isLf f W gx gy b) {v : Bool} : (gapR ⟨W, H, n, f⟩ b v).2 = 0 ∧ ∀ q, q < (gapR ⟨W, H, n, f⟩ b v).1.length → ptG (gapR ⟨W, H, n, f⟩ b v).1 (q * 2 + 1) < (if v = true then gx else gy) := by
  rw [gapR_ok hv (tg_ins ht)]
  exact ⟨rfl, fun q hq => lf_gap hl hq⟩
theorem cutR_two (hv : vldB W H n = true) (h : (cutR ⟨W, H, n, f⟩ gx gy).2 ≠ 0) : (cutR ⟨W, H, n, f⟩ gx gy).2 = 3 ∧ (cutR ⟨W, H, n, f⟩ gx gy).1.length = 0 := by
  cases hg : gxy gx gy with
  | false => rw [cutR_range hv hg]; exact ⟨rfl, rfl⟩
  | true => rw [cutR_ok hv hg] at h; exact absurd rfl h
end
end Go.Bs
