/-
  Prints: soil, and a print as a whole; means (plain laws). No program is named here.
-/
import Derived.Test.YtcdhbikginpogaaUn
import Derived.Test.YtcdhbikginpogaaRe
import Derived.Test.YtcdhbikginpogaaPd
namespace Go.Bs
open Go.RowKit Go.Eng

theorem vld_fits {W H : Int} {n : Nat} (h : vldB W H n = true) : fitsB W H = true := by
  simp only [vldB, Bool.and_eq_true] at h
  exact h.1
def invF (p : Nat → Nat) (f : Nat → Int) : Nat → Nat → Int
  | 0 => f
  | i + 1 => upd (invF p f i) (p i) (255 - invF p f i (p i))
theorem inv_pix {p : Nat → Nat} {f : Nat → Int} {n : Nat} (h : PixOk n f) : ∀ k, PixOk n (invF p f k)
  | 0 => h
  | k + 1 => fun i hi => by
    have a := inv_pix (p := p) h k
    show 0 ≤ upd (invF p f k) (p k) (255 - invF p f k (p k)) i ∧ upd (invF p f k) (p k) (255 - invF p f k (p k)) i ≤ 255
    unfold upd
    split
    · rename_i e; subst e; have := a _ hi; omega
    · exact a i hi
def soilR (m : Pm Int) (d s : Int) : Pm Int × Int :=
  if (placesR m.W m.H d s).2 = 0 then (⟨m.W, m.H, m.n, invF (plF m.n s) m.f d.toNat⟩, 0) else (noI, (placesR m.W m.H d s).2)
theorem soilR_ok {m : Pm Int} {d s : Int} (h : (placesR m.W m.H d s).2 = 0) : soilR m d s = (⟨m.W, m.H, m.n, invF (plF m.n s) m.f d.toNat⟩, 0) := if_pos h
theorem soilR_err {m : Pm Int} {d s : Int} (h : (placesR m.W m.H d s).2 ≠ 0) : soilR m d s = (noI, (placesR m.W m.H d s).2) := if_neg h
theorem soilR_le {m : Pm Int} {d s : Int} (hn : m.n ≤ 4194304) : (soilR m d s).1.n ≤ 4194304 := by
  unfold soilR
  split
  · exact hn
  · simp [noI]
theorem gray_pix {n : Nat} {f : Nat → Bool} : PixOk n (grayF f) := fun i _ => by unfold grayF; split <;> omega
theorem u8_bd0 (x : Int) : 0 ≤ IntKind.u8.wrap x ∧ IntKind.u8.wrap x ≤ 255 := by
  have h1 := Int.emod_nonneg x (show (256 : Int) ≠ 0 by omega)
  have h2 := Int.emod_lt_of_pos x (show (0 : Int) < 256 by omega)
  have e : IntKind.u8.wrap x = x % 256 := rfl
  omega
theorem blur_pix {n : Nat} {m : Pm Int} {r : Int} : PixOk n (blurF m r) := fun i _ => by unfold blurF meanI; exact u8_bd0 _
/-- a print -/
def printR (m : Pm Bool) (t bl d s : Int) : Pm Int × Int :=
  if m.vld = true then (if ((bl < 0 ∨ 64 < bl) ∨ d < 0) ∨ min (m.W * m.H) 65536 < d then (noI, 3) else soilR (blurR (grayR (turnR m t).1).1 bl).1 d s) else (noI, 1)
theorem printR_no {W H t bl d s : Int} {n : Nat} {f : Nat → Bool} (h : vldB W H n = false) : printR ⟨W, H, n, f⟩ t bl d s = (noI, 1) := if_neg (by simp [Pm.vld, h])
theorem printR_range {W H t bl d s : Int} {n : Nat} {f : Nat → Bool} (h : vldB W H n = true) (hr : ((bl < 0 ∨ 64 < bl) ∨ d < 0) ∨ min (W * H) 65536 < d) : printR ⟨W, H, n, f⟩ t bl d s = (noI, 3) := by
  unfold printR; rw [if_pos (by exact h), if_pos (by exact hr)]
theorem printR_ok {W H t bl d s : Int} {n : Nat} {f : Nat → Bool} (h : vldB W H n = true) (hr : ¬ (((bl < 0 ∨ 64 < bl) ∨ d < 0) ∨ min (W * H) 65536 < d)) : printR ⟨W, H, n, f⟩ t bl d s = soilR (blurR (grayR (turnR ⟨W, H, n, f⟩ t).1).1 bl).1 d s := by
  unfold printR; rw [if_pos (by exact h), if_neg (by exact hr)]
/-- what the steps of a print give -/
theorem print_steps {W H t bl : Int} {n : Nat} {f : Nat → Bool} (h : vldB W H n = true) :
    (turnR ⟨W, H, n, f⟩ t).2 = 0 ∧ (turnR ⟨W, H, n, f⟩ t).1.n = n ∧ vldB (turnR ⟨W, H, n, f⟩ t).1.W (turnR ⟨W, H, n, f⟩ t).1.H n = true ∧ (turnR ⟨W, H, n, f⟩ t).1.W * (turnR ⟨W, H, n, f⟩ t).1.H = W * H ∧
    grayR (turnR ⟨W, H, n, f⟩ t).1 = (⟨(turnR ⟨W, H, n, f⟩ t).1.W, (turnR ⟨W, H, n, f⟩ t).1.H, n, grayF (turnR ⟨W, H, n, f⟩ t).1.f⟩, 0) ∧
    (¬ (bl < 0 ∨ 64 < bl) → blurR (grayR (turnR ⟨W, H, n, f⟩ t).1).1 bl = (⟨(turnR ⟨W, H, n, f⟩ t).1.W, (turnR ⟨W, H, n, f⟩ t).1.H, n, blurF (grayR (turnR ⟨W, H, n, f⟩ t).1).1 bl⟩, 0)) := by
  obtain ⟨a, b⟩ := turn_err (m := ⟨W, H, n, f⟩) h t
  have hn : (turnR ⟨W, H, n, f⟩ t).1.n = n := by rw [turnR_ok h]
  have hv : vldB (turnR ⟨W, H, n, f⟩ t).1.W (turnR ⟨W, H, n, f⟩ t).1.H n = true := by
    have := b; unfold Pm.vld at this; rw [hn] at this; exact this
  have hg : grayR (turnR ⟨W, H, n, f⟩ t).1 = (⟨(turnR ⟨W, H, n, f⟩ t).1.W, (turnR ⟨W, H, n, f⟩ t).1.H, n, grayF (turnR ⟨W, H, n, f⟩ t).1.f⟩, 0) := by
    unfold grayR; rw [if_pos b, hn]
  refine ⟨a, hn, hv, ?_, hg, fun hb => ?_⟩
  · have e1 := (vldB_iff.1 h).2.2.2.2.2
    have e2 := (vldB_iff.1 hv).2.2.2.2.2
    omega
  · rw [hg]; exact blurR_ok hv hb
theorem printR_le {m : Pm Bool} {t bl d s : Int} : (printR m t bl d s).1.n ≤ 4194304 := by
  unfold printR
  split
  · split
    · simp [noI]
    · exact soilR_le blurR_le
  · simp [noI]
theorem rxi_pass0 {w W : World} {c : Nat} {S : List Blk} {A : Option Addr} {p q : Pm Int × Int} (hO : Ow [] w W S) (hk : q.1.n ≤ c) (hS : Rds S A (tab q.1.n (iv .u8 q.1.f))) (hz : q.2 = 0) (hp : p = q) :
    ∃ v Hn, Ending.returned (.tuple #[.agg #[.int .i64 q.1.W, .int .i64 q.1.H, .slice A q.1.n c], .int .i64 0]) = .returned v ∧ RXi p v Hn ∧ Ow [] w W Hn := by
  have h := rxi_pass hO hk hS hp
  rw [hz] at h
  exact h
end Go.Bs
