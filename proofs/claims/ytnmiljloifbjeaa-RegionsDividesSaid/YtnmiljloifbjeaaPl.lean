/-
  Places that a seed determines: plain definitions and facts; bit operations of the model. No program is named here.
-/
import Derived.Test.YtnmiljloifbjeaaPr
namespace Go.Bs
open Go.RowKit Go.Eng

def xorK (k : IntKind) (a b : Int) : Int := k.wrap ((BitVec.ofInt k.bits a ^^^ BitVec.ofInt k.bits b).toNat)
def shlK (k : IntKind) (a : Int) (n : Nat) : Int := k.wrap (a * 2 ^ min n k.bits)
def shrK (k : IntKind) (a : Int) (n : Nat) : Int := a.fdiv (2 ^ min n k.bits)
section
variable {P : Program} {N : Sz} {X : List Nat} {w0 : World} {o : Oper} {L : List (Nat × Value)} {H : List Blk}
theorem eo_xork {t t2 : TypeId} {k : IntKind} {x y : Operand} {m n : Int} (ho : o.op = .binOp .xor t x y t2) (hx : ev L x = some (.int k m)) (hy : ev L y = some (.int k n)) : EO P N X w0 o L H (.int k (xorK k m n)) :=
  eo_val fun a W hF _ => by simp [execOp, ho, hF.eval hx, hF.eval hy, eqGuard, binOp, Op.intBits, xorK]
theorem eo_shlk {t t2 : TypeId} {k yk : IntKind} {x y : Operand} {m n : Int} (ho : o.op = .binOp .shl t x y t2) (hx : ev L x = some (.int k m)) (hy : ev L y = some (.int yk n)) (hn : 0 ≤ n) : EO P N X w0 o L H (.int k (shlK k m n.toNat)) :=
  eo_val fun a W hF _ => by
    have h : ¬ n < 0 := by omega
    simp [execOp, ho, hF.eval hx, hF.eval hy, eqGuard, binOp, Op.shift, shlK, h]
theorem eo_shrk {t t2 : TypeId} {k yk : IntKind} {x y : Operand} {m n : Int} (ho : o.op = .binOp .shr t x y t2) (hx : ev L x = some (.int k m)) (hy : ev L y = some (.int yk n)) (hn : 0 ≤ n) : EO P N X w0 o L H (.int k (shrK k m n.toNat)) :=
  eo_val fun a W hF _ => by
    have h : ¬ n < 0 := by omega
    simp [execOp, ho, hF.eval hx, hF.eval hy, eqGuard, binOp, Op.shift, shrK, h]
/-- make([]T, 0, n) -/
theorem xo_make0 {q : IntKind} {t e : TypeId} {bytes : Nat} {x y : Operand} {k k' : IntKind} {c : Int} (ho : o.op = .makeSlice t x y) (ht : P.underlying t = some (.slice e)) (he : TyE P e (.int q 0) bytes) (hx : ev L x = some (.int k 0)) (hy : ev L y = some (.int k' c)) (h0 : 0 ≤ c) (hb : bytes * c ≤ 281474976710656) (h63 : c ≤ 9223372036854775807) :
    XO P N X w0 o L H (fun v H' => ∃ s : AS, s.Ok 1 0 [] ∧ v = s.val 0 ∧ H' = H ++ s.blks e []) := by
  have h := xo_make (P := P) (N := N) (X := X) (w0 := w0) (L := L) (H := H) ho ht he hx hy (by omega) h0 hb h63
  refine fun a W hF hO K Q hK => h a W hF hO K Q fun v H' W' hR hO' hFr => ?_
  obtain ⟨g, rfl, rfl⟩ := hR
  refine hK _ (H ++ [⟨g, e, [] ++ List.replicate c.toNat (.int q 0)⟩]) W' ⟨.at_ g (List.replicate c.toNat (.int q 0)) c.toNat, ⟨by omega, by simp only [maxLen]; omega, rfl, by simp⟩, rfl, rfl⟩ (hO'.perm (List.perm_append_singleton _ _).symm) ?_
  exact ⟨hFr.size, hFr.keep, fun b hb => hFr.ids b ((List.perm_append_singleton _ _).mem_iff.1 hb)⟩
end
theorem u32_bd (z : Int) : 0 ≤ IntKind.u32.wrap z ∧ IntKind.u32.wrap z ≤ 4294967295 := by rw [IntKind.wrap_u32]; omega
theorem xor_bd {a b : Int} : 0 ≤ xorK .u32 a b ∧ xorK .u32 a b ≤ 4294967295 := u32_bd _
/-- the state after a state -/
def nxt (s : Int) : Int :=
  xorK .u32 (xorK .u32 (xorK .u32 s (shlK .u32 s 13)) (shrK .u32 (xorK .u32 s (shlK .u32 s 13)) 17)) (shlK .u32 (xorK .u32 (xorK .u32 s (shlK .u32 s 13)) (shrK .u32 (xorK .u32 s (shlK .u32 s 13)) 17)) 5)
theorem nxt_bd {s : Int} : 0 ≤ nxt s ∧ nxt s ≤ 4294967295 := xor_bd
def seed0 (s : Int) : Int := if xorK .u32 s 2654435769 = 0 then 1 else xorK .u32 s 2654435769
def stS (s : Int) : Nat → Int
  | 0 => seed0 s
  | i + 1 => nxt (stS s i)
theorem stS_bd {s : Int} {i : Nat} : 0 ≤ stS s i ∧ stS s i ≤ 4294967295 := by
  cases i with
  | zero =>
    show 0 ≤ seed0 s ∧ seed0 s ≤ _
    unfold seed0
    split
    · omega
    · exact xor_bd
  | succ i => exact nxt_bd
/-- the first free place from k on, round about -/
def probeF (ch : Nat → Bool) (N : Nat) : Nat → Nat → Nat
  | 0, k => k
  | t + 1, k => if ch k = true then probeF ch N t (if k + 1 = N then 0 else k + 1) else k
theorem probe_lt {ch : Nat → Bool} {N : Nat} (hN : 0 < N) : ∀ {t k : Nat}, k < N → probeF ch N t k < N
  | 0, k, h => h
  | t + 1, k, h => by
    unfold probeF
    split
    · exact probe_lt hN (by split <;> omega)
    · exact h
theorem probe_ex {ch : Nat → Bool} {N : Nat} (hN : 0 < N) : ∀ {t k : Nat}, k < N → (∃ i, i < t ∧ ch ((k + i) % N) = false) → ch (probeF ch N t k) = false
  | 0, _, _, ⟨i, h, _⟩ => absurd h (by omega)
  | t + 1, k, hk, ⟨i, hi, hc⟩ => by
    unfold probeF
    cases h : ch k with
    | false => simpa using h
    | true =>
      simp only [if_true]
      have i0 : i ≠ 0 := by
        intro e; subst e
        rw [Nat.add_zero, Nat.mod_eq_of_lt hk, h] at hc
        cases hc
      refine probe_ex hN (by split <;> omega) ⟨i - 1, by omega, ?_⟩
      by_cases e : k + 1 = N
      · rw [if_pos e]
        have : (k + i) % N = (0 + (i - 1)) % N := by
          rw [show k + i = (0 + (i - 1)) + N by omega, Nat.add_mod_right]
        rw [← this]; exact hc
      · rw [if_neg e, show k + 1 + (i - 1) = k + i by omega]; exact hc
theorem probe_free {ch : Nat → Bool} {N k : Nat} (hk : k < N) (h : ∃ j, j < N ∧ ch j = false) : ch (probeF ch N N k) = false := by
  obtain ⟨j, hj, hc⟩ := h
  refine probe_ex (by omega) hk ?_
  by_cases e : k ≤ j
  · exact ⟨j - k, by omega, by rw [show k + (j - k) = j by omega, Nat.mod_eq_of_lt hj]; exact hc⟩
  · exact ⟨j + N - k, by omega, by rw [show k + (j + N - k) = j + N by omega, Nat.add_mod_right, Nat.mod_eq_of_lt hj]; exact hc⟩
/-- what is chosen before place i; place i -/
def chF (N : Nat) (s : Int) : Nat → Nat → Bool
  | 0 => fun _ => false
  | i + 1 => upd (chF N s i) (probeF (chF N s i) N N (stS s (i + 1) % N).toNat) true
def plF (N : Nat) (s : Int) (i : Nat) : Nat := probeF (chF N s i) N N (stS s (i + 1) % N).toNat
theorem chF_succ {N : Nat} {s : Int} {i : Nat} : chF N s (i + 1) = upd (chF N s i) (plF N s i) true := rfl
theorem start_lt {N : Nat} {s : Int} (hN : 0 < N) : (s % (N : Int)).toNat < N := by
  have h1 := Int.emod_nonneg s (show (N : Int) ≠ 0 by omega)
  have h2 := Int.emod_lt_of_pos s (show (0 : Int) < N by omega)
  omega
theorem plF_lt {N : Nat} {s : Int} {i : Nat} (hN : 0 < N) : plF N s i < N := probe_lt hN (start_lt hN)
theorem sum_upd {f : Nat → Bool} {k : Nat} : ∀ {n : Nat}, sumN (bw (upd f k true)) n ≤ sumN (bw f) n + 1 ∧ (n ≤ k → sumN (bw (upd f k true)) n = sumN (bw f) n)
  | 0 => ⟨by simp [sumN], fun _ => rfl⟩
  | n + 1 => by
    obtain ⟨h1, h2⟩ := sum_upd (f := f) (k := k) (n := n)
    show sumN (bw (upd f k true)) n + bw (upd f k true) n ≤ sumN (bw f) n + bw f n + 1 ∧ (n + 1 ≤ k → sumN (bw (upd f k true)) n + bw (upd f k true) n = sumN (bw f) n + bw f n)
    by_cases e : n = k
    · subst e
      have := h2 (Nat.le_refl _)
      have b := (bw_bd (f := f) (i := n)).1
      have c := (bw_bd (f := upd f n true) (i := n)).2
      exact ⟨by omega, fun h => by omega⟩
    · have : bw (upd f k true) n = bw f n := by unfold bw; rw [upd_ne e]
      exact ⟨by omega, fun h => by rw [h2 (by omega), this]⟩
theorem chF_sum {N : Nat} {s : Int} : ∀ {i : Nat}, sumN (bw (chF N s i)) N ≤ i
  | 0 => by
    have : sumN (bw (chF N s 0)) N = sumN (fun _ => 0) N := sumN_congr fun k _ => rfl
    rw [this]
    have h := sumN_bd (h := fun _ => (0 : Int)) (lo := 0) (hi := 0) (L := 0) (R := N) (by omega) (fun _ _ _ => by omega)
    simp [sumN] at h
    simp
    omega
  | i + 1 => by
    have h1 := chF_sum (N := N) (s := s) (i := i)
    have h2 := (sum_upd (f := chF N s i) (k := plF N s i) (n := N)).1
    rw [chF_succ]
    push_cast
    omega
theorem chF_free {N : Nat} {s : Int} {i : Nat} (hi : i < N) : ∃ j, j < N ∧ chF N s i j = false := by
  refine Classical.byContradiction fun hn => ?_
  have hall : ∀ k, 0 ≤ k → k < N → bw (chF N s i) k = 1 := by
    intro k _ hk
    rw [bw_one]
    cases h : chF N s i k with
    | true => rfl
    | false => exact absurd ⟨k, hk, h⟩ hn
  have h := (sumN_full (h := bw (chF N s i)) (c := 1) (L := 0) (R := N) (by omega) (fun k _ _ => bw_bd.2)).2 hall
  have h2 := chF_sum (N := N) (s := s) (i := i)
  simp [sumN] at h
  omega
theorem plF_new {N : Nat} {s : Int} {i : Nat} (hi : i < N) : chF N s i (plF N s i) = false := probe_free (start_lt (by omega)) (chF_free hi)
/-- what is chosen stays so -/
theorem chF_mono {N : Nat} {s : Int} {i j k : Nat} (h : i ≤ k) (hc : chF N s i j = true) : chF N s k j = true := by
  induction k with
  | zero => have : i = 0 := by omega
            subst this; exact hc
  | succ k ih =>
    by_cases e : i = k + 1
    · subst e; exact hc
    · have := ih (by omega)
      rw [chF_succ]
      by_cases e2 : j = plF N s k
      · rw [e2, upd_eq]
      · rw [upd_ne e2]; exact this
/-- one step of the search -/
theorem probe_step {ch : Nat → Bool} {N t k r : Nat} (h : probeF ch N t k = r) (hr : ch r = false) (hc : ch k = true) : ∃ t', t = t' + 1 ∧ probeF ch N t' (if k + 1 = N then 0 else k + 1) = r := by
  cases t with
  | zero =>
    unfold probeF at h
    subst h
    rw [hc] at hr; cases hr
  | succ t =>
    unfold probeF at h
    rw [if_pos hc] at h
    exact ⟨t, rfl, h⟩
theorem probe_done {ch : Nat → Bool} {N t k r : Nat} (h : probeF ch N t k = r) (hc : ch k = false) : k = r := by
  cases t with
  | zero => exact h
  | succ t =>
    unfold probeF at h
    rw [if_neg (by simp [hc])] at h
    exact h
theorem mod_next {p N : Nat} {M : Int} (hp : p < N) (hM : (N : Int) = M) : ((p : Int) + 1) % M = (((if p + 1 = N then 0 else p + 1 : Nat)) : Int) := by
  subst hM
  by_cases h : p + 1 = N
  · rw [if_pos h, show (p : Int) + 1 = N by omega, Int.emod_self]; rfl
  · rw [if_neg h, Int.emod_eq_of_lt (by omega) (by omega)]; push_cast; rfl
/-- a list of numbers and an error number -/
def RXs (p : (Nat × (Nat → Int)) × Int) (v : Value) (S : List Blk) : Prop := ∃ A c, v = .tuple #[.slice A p.1.1 c, .int .i64 p.2] ∧ p.1.1 ≤ c ∧ Rds S A (tab p.1.1 (iv .i64 p.1.2))
def noL : Nat × (Nat → Int) := (0, fun _ => 0)
def placesR (w h n s : Int) : (Nat × (Nat → Int)) × Int :=
  if fitsB w h = true then (if n < 0 ∨ min (w * h) 65536 < n then (noL, 3) else ((n.toNat, fun i => (plF (w * h).toNat s i : Int)), 0)) else (noL, 23)
theorem placesR_ok {w h n s : Int} (hf : fitsB w h = true) (hn : ¬ (n < 0 ∨ min (w * h) 65536 < n)) : placesR w h n s = ((n.toNat, fun i => (plF (w * h).toNat s i : Int)), 0) := by unfold placesR; rw [if_pos hf, if_neg hn]
theorem placesR_range {w h n s : Int} (hf : fitsB w h = true) (hn : n < 0 ∨ min (w * h) 65536 < n) : placesR w h n s = (noL, 3) := by unfold placesR; rw [if_pos hf, if_pos hn]
theorem placesR_size {w h n s : Int} (hf : fitsB w h = false) : placesR w h n s = (noL, 23) := by unfold placesR; rw [if_neg (by simp [hf])]
theorem rxs_nil {w W : World} {H : List Blk} {er : Int} {p : (Nat × (Nat → Int)) × Int} (hO : Ow [] w W H) (hp : p = (noL, er)) : ∃ v Hn, Ending.returned (.tuple #[.slice none 0 0, .int .i64 er]) = .returned v ∧ RXs p v Hn ∧ Ow [] w W Hn := by
  subst hp
  exact ⟨_, [], rfl, ⟨none, 0, rfl, Nat.le_refl _, rds_nil⟩, hO.sub (List.nil_sublist _)⟩
theorem rxs_as {w W : World} {H : List Blk} {er : Int} {e : TypeId} {s : AS} {k : Nat} {F : Nat → Int} {p : (Nat × (Nat → Int)) × Int} (i : Nat) (hO : Ow [] w W H) (hH : H.drop i = s.blks e (tab k (iv .i64 F))) (hs : s.Ok 1 k (tab k (iv .i64 F))) (hp : p = ((k, F), er)) :
    ∃ v Hn, Ending.returned (.tuple #[s.val k, .int .i64 er]) = .returned v ∧ RXs p v Hn ∧ Ow [] w W Hn := by
  subst hp
  refine ⟨_, s.blks e (tab k (iv .i64 F)), rfl, ⟨s.adr, s.cap, by rw [AS.val_eq hs], as_le hs, rds_as hs⟩, hO.tl i hH (List.Sublist.refl _)⟩
theorem placesR_le {w h n s : Int} : (placesR w h n s).1.1 ≤ 65536 := by
  unfold placesR
  split
  · split
    · simp [noL]
    · simp only; omega
  · simp [noL]

/-! ### dirt -/
/-- pixels at places are inverted -/
def drtF (p : Nat → Nat) (f : Nat → Bool) : Nat → Nat → Bool
  | 0 => f
  | i + 1 => upd (drtF p f i) (p i) (!drtF p f i (p i))
def drtI (p : Nat → Nat) (f : Nat → Int) : Nat → Nat → Int
  | 0 => f
  | i + 1 => upd (drtI p f i) (p i) (IntKind.u8.wrap (255 - drtI p f i (p i)))
def dirtR (m : Pm Bool) (n s : Int) : Pm Bool × Int :=
  if m.vld = true then (if (placesR m.W m.H n s).2 = 0 then (⟨m.W, m.H, m.n, drtF (plF m.n s) m.f n.toNat⟩, 0) else (noB, (placesR m.W m.H n s).2)) else (noB, 1)
theorem dirtR_le {m : Pm Bool} {n s : Int} : (dirtR m n s).1.n ≤ 4194304 := by
  unfold dirtR
  split
  · split
    · rename_i h _; exact (vld_pos h).2
    · simp [noB]
  · simp [noB]
theorem places_zero {w h n s : Int} (h0 : (placesR w h n s).2 = 0) : fitsB w h = true ∧ ¬ (n < 0 ∨ min (w * h) 65536 < n) := by
  unfold placesR at h0
  split at h0
  · split at h0
    · cases h0
    · rename_i a b; exact ⟨a, b⟩
  · cases h0
end Go.Bs
