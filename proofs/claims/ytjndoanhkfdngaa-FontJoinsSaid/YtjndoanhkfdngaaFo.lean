/-
  The fixed font in plain Lean: each glyph is a number whose bits are its pixels. No program is named here.
-/
import Derived.Test.YtjndoanhkfdngaaSr
import Derived.Test.YtjndoanhkfdngaaEt
import Derived.Test.YtjndoanhkfdngaaMu
namespace Go.Bs
open Go.RowKit Go.Eng

def gL : List Nat := [0, 1074824225, 5285, 11105828170, 4819720132, 26610901603, 23946401062, 1091, 4363158596, 1145180225, 156718208, 139432064, 1143996416, 1015808, 3321888768, 35791360, 15692650286, 33424544964, 33357578798, 15619854623, 8891181448, 15620127807, 15621129292, 2216829471, 15613438510, 6728664622, 103812192, 1143999584, 8726284424, 32537600, 1145311297, 4299440686, 15097067054, 18842895918, 16694887983, 32246891582, 7836583207, 33321092159, 1108575295, 32801457710, 18842895921, 33424543903, 6753100060, 18560947505, 33320633377, 18842572657, 18850958897, 15621211694, 1108854319, 23946905134, 19106612783, 16660235326, 4433514655, 15621211697, 4648912433, 19182306865, 18834663985, 4433521201, 33321787935, 7550829607, 7654740103, 33285996544]
def knownB (c : Int) : Bool := (((decide (32 ≤ c) && decide (c ≤ 90)) || decide (c = 91)) || decide (c = 93)) || decide (c = 95)
theorem known_iff {c : Int} : knownB c = true ↔ ((32 ≤ c ∧ c ≤ 91) ∨ c = 93 ∨ c = 95) := by
  unfold knownB
  simp only [Bool.or_eq_true, Bool.and_eq_true, decide_eq_true_eq]
  omega
/-- the number of a character -/
def chX (c : Int) : Nat := if c ≤ 91 then (c - 32).toNat else if c = 93 then 60 else 61
/-- the character of a number -/
def chC (k : Nat) : Int := if k ≤ 59 then (k : Int) + 32 else if k = 60 then 93 else 95
def gNum (c : Int) : Nat := gL.getD (chX c) 0
def gpx (c : Int) (k : Nat) : Bool := (gNum c).testBit k
theorem chC_known {k : Nat} : knownB (chC k) = true := known_iff.2 (by unfold chC; split <;> (try split) <;> omega)
theorem chC_X {c : Int} (h : knownB c = true) : chC (chX c) = c ∧ chX c < 62 := by
  have := known_iff.1 h
  unfold chC chX
  split <;> split <;> (try split) <;> (try split) <;> omega
/-- what holds for all 62 characters -/
theorem for_known {p : Int → Bool} (h : ((List.range 62).all fun k => p (chC k)) = true) {c : Int} (hc : knownB c = true) : p c = true := by
  obtain ⟨e, l⟩ := chC_X hc
  have := List.all_eq_true.1 h (chX c) (List.mem_range.2 l)
  rw [e] at this
  exact this
/-- the document's rows of a glyph -/
def rowByte (c : Int) (p : Nat) : UInt8 := if p % 6 = 5 then 32 else if gpx c (p / 6 * 5 + p % 6) = true then 49 else 48
def glyS (c : Int) : ByteArray := ByteArray.mk ((List.range 41).map (rowByte c)).toArray
theorem glyS_size (c : Int) : (glyS c).size = 41 := by
  show ((List.range 41).map (rowByte c)).toArray.size = 41
  simp
theorem row_byte {c : Int} {p : Nat} (h : p < 41) : byI (glyS c) p = if p % 6 = 5 then 32 else if gpx c (p / 6 * 5 + p % 6) = true then 49 else 48 := by
  have hs : p < (glyS c).size := by rw [glyS_size]; exact h
  rw [byI_at hs]
  have e : (glyS c)[p]'hs = rowByte c p := by
    show (((List.range 41).map (rowByte c)).toArray)[p]'(by simpa using h) = _
    simp
  rw [e]
  unfold rowByte
  split
  · rfl
  · split <;> rfl
theorem row_low {c : Int} {p : Nat} (h : p < 41) : byI (glyS c) p < 128 := by
  rw [row_byte h]
  split
  · omega
  · split <;> omega
/-- the rows, or nothing -/
def refS (c : Int) : ByteArray := if knownB c = true then glyS c else ByteArray.mk #[]
theorem arr_get {cs : List Value} {n : Nat} {F : Nat → Value} {k : Nat} {v : Value} (h : cs = tab n F) (hk : k < n) (hv : F k = v) : cs[k]? = some v := by rw [h, tab_get hk, hv]
theorem gly_w {c : Int} {p : Nat} (h : p < 41) : rnW (glyS c) p = 1 := (rn_low (by rw [glyS_size]; exact h) (row_low h)).2
theorem gly_rn {c : Int} {p : Nat} (h : p < 41) : rnI (glyS c) p = byI (glyS c) p := (rn_low (by rw [glyS_size]; exact h) (row_low h)).1
theorem byte_bit {c : Int} {p k : Nat} (h : p < 41) (hn : byI (glyS c) p ≠ 32) (hk : k = p / 6 * 5 + min (p % 6) 5) : p % 6 ≠ 5 ∧ decide (byI (glyS c) p = 49) = gpx c k := by
  rw [row_byte h] at hn ⊢
  by_cases e : p % 6 = 5
  · rw [if_pos e] at hn; exact absurd rfl hn
  · refine ⟨e, ?_⟩
    rw [if_neg e, show k = p / 6 * 5 + p % 6 by omega]
    cases gpx c (p / 6 * 5 + p % 6) <;> rfl
theorem byte_sp {c : Int} {p : Nat} (h : p < 41) (hn : ¬ byI (glyS c) p ≠ 32) : p % 6 = 5 := by
  rw [row_byte h] at hn
  by_cases e : p % 6 = 5
  · exact e
  · rw [if_neg e] at hn
    exact absurd (by split <;> decide) hn
theorem gly_bit {c : Int} {p k : Nat} (h : p < 41) (hn : rnI (glyS c) p ≠ 32) (hk : k = p / 6 * 5 + min (p % 6) 5) : p % 6 ≠ 5 ∧ decide (rnI (glyS c) p = 49) = gpx c k := by
  rw [gly_rn h] at hn ⊢
  exact byte_bit h hn hk
theorem gly_sp {c : Int} {p : Nat} (h : p < 41) (hn : ¬ rnI (glyS c) p ≠ 32) : p % 6 = 5 := by
  rw [gly_rn h] at hn
  exact byte_sp h hn
/-- an empty string, by its bytes -/
theorem str_nil (s : ByteArray) : (s.toList == (ByteArray.mk #[]).toList) = decide (s.size = 0) := by
  have e1 : (ByteArray.mk #[]).toList = [] := by kernel_rfl
  rw [e1]
  have e2 : s.toList.length = s.size := by
    rw [ByteArray.toList_eq]
    exact Array.length_toList
  cases h : s.toList with
  | nil => rw [h] at e2; simp at e2; simp [← e2]
  | cons a l => rw [h] at e2; simp at e2; simp [← e2]
theorem refS_nil (c : Int) : ((refS c).toList == (ByteArray.mk #[]).toList) = !knownB c := by
  rw [str_nil]
  unfold refS
  cases knownB c with
  | true => rw [if_pos rfl, glyS_size]; rfl
  | false => rw [if_neg (by decide)]; rfl
theorem refS_yes {c : Int} (h : knownB c = true) : refS c = glyS c := if_pos h
theorem known_u8 {c : Int} (h : knownB c = true) : 32 ≤ c ∧ c ≤ 95 := by have := known_iff.1 h; omega
def glyR (c : Int) : Pm Bool × Int := if knownB c = true then (⟨5, 7, 35, gpx c⟩, 0) else (noB, 6)
theorem glyR_ok {c : Int} (h : knownB c = true) : glyR c = (⟨5, 7, 35, gpx c⟩, 0) := if_pos h
theorem glyR_no {c : Int} (h : knownB c = false) : glyR c = (noB, 6) := if_neg (by rw [h]; decide)
theorem glyR_le {c : Int} : (glyR c).1.n ≤ 4194304 := by
  unfold glyR
  split
  · show 35 ≤ 4194304
    omega
  · simp [noB]
/-! ### characters -/
def kcnt (c : Int) : Nat := if c ≤ 32 then 0 else if c ≤ 92 then (c - 32).toNat else if c ≤ 93 then 60 else if c ≤ 95 then 61 else 62
theorem kcnt_yes {c : Int} (h : knownB c = true) : kcnt (c + 1) = kcnt c + 1 ∧ chC (kcnt c) = c := by
  have := known_iff.1 h
  unfold kcnt chC
  constructor
  · repeat' split
    all_goals omega
  · repeat' split
    all_goals omega
theorem kcnt_no {c : Int} (h : knownB c = false) : kcnt (c + 1) = kcnt c := by
  have h2 : ¬ ((32 ≤ c ∧ c ≤ 91) ∨ c = 93 ∨ c = 95) := fun k => by rw [known_iff.2 k] at h; cases h
  unfold kcnt
  repeat' split
  all_goals omega
theorem kcnt_le {c : Int} : kcnt c ≤ 62 := by unfold kcnt; split <;> (try split) <;> (try split) <;> (try split) <;> omega
/-! ### distances -/
def distN (a b : Int) (k : Nat) : Int := sumN (fun j => if gpx a j ≠ gpx b j then 1 else 0) k
theorem distN_bd {a b : Int} : ∀ {k : Nat}, 0 ≤ distN a b k ∧ distN a b k ≤ k
  | 0 => by simp [distN, sumN]
  | k + 1 => by
    have := distN_bd (a := a) (b := b) (k := k)
    show 0 ≤ distN a b k + (if gpx a k ≠ gpx b k then 1 else 0) ∧ distN a b k + (if gpx a k ≠ gpx b k then 1 else 0) ≤ ((k + 1 : Nat) : Int)
    split <;> omega
theorem distN_yes {a b : Int} {k : Nat} (h : gpx a k ≠ gpx b k) : distN a b (k + 1) = distN a b k + 1 := by
  show distN a b k + (if gpx a k ≠ gpx b k then 1 else 0) = _
  rw [if_pos h]
theorem distN_no {a b : Int} {k : Nat} (h : ¬ gpx a k ≠ gpx b k) : distN a b (k + 1) = distN a b k := by
  show distN a b k + (if gpx a k ≠ gpx b k then 1 else 0) = _
  rw [if_neg h]
  omega
def distR (a b : Int) : Int × Int := if knownB a = true ∧ knownB b = true then (distN a b 35, 0) else (0, 6)
theorem distR_ok {a b : Int} (h : knownB a = true) (k : knownB b = true) : distR a b = (distN a b 35, 0) := if_pos ⟨h, k⟩
theorem distR_no {a b : Int} (h : knownB a = false ∨ knownB b = false) : distR a b = (0, 6) := if_neg (by rintro ⟨h1, h2⟩; rcases h with h | h <;> simp_all)
theorem distR_bd {a b : Int} : 0 ≤ (distR a b).1 ∧ (distR a b).1 ≤ 35 := by
  unfold distR
  split
  · have := distN_bd (a := a) (b := b) (k := 35)
    simp only
    omega
  · simp
theorem glyR_err {c : Int} (h : (glyR c).2 ≠ 0) : knownB c = false ∧ (glyR c).2 = 6 := by
  cases e : knownB c with
  | false => rw [glyR_no e]; exact ⟨rfl, rfl⟩
  | true => rw [glyR_ok e] at h; exact absurd rfl h
theorem glyR_zero {c : Int} (h : ¬ (glyR c).2 ≠ 0) : knownB c = true := by
  cases e : knownB c with
  | true => rfl
  | false => rw [glyR_no e] at h; exact absurd (by decide) h
/-- the least distance: the first i characters, and j of the next one's -/
def cloJ (b : Int) (i : Nat) : Nat → Int
  | 0 => b
  | j + 1 => min (cloJ b i j) (distN (chC i) (chC j) 35)
def cloI : Nat → Int
  | 0 => 35
  | i + 1 => cloJ (cloI i) i i
theorem cloJ_bd {b : Int} {i : Nat} (h : 0 ≤ b ∧ b ≤ 35) : ∀ {j : Nat}, 0 ≤ cloJ b i j ∧ cloJ b i j ≤ 35
  | 0 => h
  | j + 1 => by
    have a := cloJ_bd (i := i) h (j := j)
    have c := distN_bd (a := chC i) (b := chC j) (k := 35)
    show 0 ≤ min _ _ ∧ min _ _ ≤ 35
    omega
theorem cloI_bd : ∀ {i : Nat}, 0 ≤ cloI i ∧ cloI i ≤ 35
  | 0 => by simp [cloI]
  | i + 1 => cloJ_bd cloI_bd
/-! ### lines of text -/
def allK (s : ByteArray) : Bool := (List.range s.size).all fun j => knownB (byI s j)
theorem allK_iff {s : ByteArray} : allK s = true ↔ ∀ j, j < s.size → knownB (byI s j) = true := by
  unfold allK
  rw [List.all_eq_true]
  simp only [List.mem_range]
theorem allK_no {s : ByteArray} {j : Nat} (hj : j < s.size) (h : knownB (byI s j) = false) : allK s = false := by
  cases e : allK s with
  | false => rfl
  | true => rw [allK_iff.1 e j hj] at h; cases h
def widR (s : ByteArray) (k : Int) : Int × Int :=
  if s.size = 0 then (0, 5) else if allK s = true then (if k < 1 ∨ 64 < k then (0, 3) else if 4096 < (6 * (s.size : Int) - 1) * k then (0, 4) else ((6 * (s.size : Int) - 1) * k, 0)) else (0, 6)
theorem widR_0 {s : ByteArray} {k : Int} (h : s.size = 0) : widR s k = (0, 5) := if_pos h
theorem widR_c {s : ByteArray} {k : Int} (h : s.size ≠ 0) (h1 : allK s = false) : widR s k = (0, 6) := by unfold widR; rw [if_neg h, if_neg (by rw [h1]; decide)]
theorem widR_r {s : ByteArray} {k : Int} (h : s.size ≠ 0) (h1 : allK s = true) (h2 : k < 1 ∨ 64 < k) : widR s k = (0, 3) := by unfold widR; rw [if_neg h, if_pos h1, if_pos h2]
theorem widR_l {s : ByteArray} {k : Int} (h : s.size ≠ 0) (h1 : allK s = true) (h2 : ¬ (k < 1 ∨ 64 < k)) (h3 : 4096 < (6 * (s.size : Int) - 1) * k) : widR s k = (0, 4) := by unfold widR; rw [if_neg h, if_pos h1, if_neg h2, if_pos h3]
theorem widR_ok {s : ByteArray} {k : Int} (h : s.size ≠ 0) (h1 : allK s = true) (h2 : ¬ (k < 1 ∨ 64 < k)) (h3 : ¬ 4096 < (6 * (s.size : Int) - 1) * k) : widR s k = ((6 * (s.size : Int) - 1) * k, 0) := by unfold widR; rw [if_neg h, if_pos h1, if_neg h2, if_neg h3]
/-- what a width without an error says -/
theorem widR_zero {s : ByteArray} {k : Int} (h : ¬ (widR s k).2 ≠ 0) : s.size ≠ 0 ∧ allK s = true ∧ 1 ≤ k ∧ k ≤ 64 ∧ (widR s k).1 = (6 * (s.size : Int) - 1) * k ∧ (6 * (s.size : Int) - 1) * k ≤ 4096 := by
  have h' := Decidable.not_not.1 h
  unfold widR at h' ⊢
  by_cases a : s.size = 0
  · rw [if_pos a] at h'; cases h'
  · rw [if_neg a] at h' ⊢
    by_cases b : allK s = true
    · rw [if_pos b] at h' ⊢
      by_cases c : k < 1 ∨ 64 < k
      · rw [if_pos c] at h'; cases h'
      · rw [if_neg c] at h' ⊢
        by_cases d : 4096 < (6 * (s.size : Int) - 1) * k
        · rw [if_pos d] at h'; cases h'
        · rw [if_neg d]; exact ⟨a, b, by omega, by omega, rfl, by omega⟩
    · rw [if_neg b] at h'; cases h'
/-- a pixel of a line of text -/
def drwF (s : ByteArray) (k w : Int) (j : Nat) : Bool := decide ((j : Int) % w % (6 * k) < 5 * k) && gpx (byI s ((j : Int) % w / (6 * k)).toNat) ((j : Int) / w / k * 5 + (j : Int) % w % (6 * k) / k).toNat
def drwR (s : ByteArray) (k : Int) : Pm Bool × Int :=
  if (widR s k).2 = 0 then (⟨(widR s k).1, 7 * k, ((widR s k).1 * 7 * k).toNat, drwF s k (widR s k).1⟩, 0) else (noB, (widR s k).2)
theorem drwR_ok {s : ByteArray} {k : Int} (h : ¬ (widR s k).2 ≠ 0) : drwR s k = (⟨(widR s k).1, 7 * k, ((widR s k).1 * 7 * k).toNat, drwF s k (widR s k).1⟩, 0) := if_pos (Decidable.not_not.1 h)
theorem drwR_no {s : ByteArray} {k : Int} (h : (widR s k).2 ≠ 0) : drwR s k = (noB, (widR s k).2) := if_neg h
theorem wid_sz {s : ByteArray} {k : Int} (h : ¬ (widR s k).2 ≠ 0) : 0 < (widR s k).1 ∧ (widR s k).1 ≤ 4096 ∧ 0 < (widR s k).1 * 7 ∧ (widR s k).1 * 7 ≤ 28672 ∧ 0 < (widR s k).1 * 7 * k ∧ (widR s k).1 * 7 * k ≤ 1835008 := by
  obtain ⟨a, b, c, d, e, f⟩ := widR_zero h
  have p := Int.mul_pos (show 0 < 6 * (s.size : Int) - 1 by omega) (show 0 < k by omega)
  have q := Int.mul_le_mul (show (widR s k).1 * 7 ≤ 28672 by omega) d (by omega) (by omega)
  have r := Int.mul_pos (show 0 < (widR s k).1 * 7 by omega) (show 0 < k by omega)
  omega
theorem drwR_le {s : ByteArray} {k : Int} : (drwR s k).1.n ≤ 4194304 := by
  by_cases h : (widR s k).2 ≠ 0
  · rw [drwR_no h]; simp [noB]
  · rw [drwR_ok h]
    have := wid_sz h
    show ((widR s k).1 * 7 * k).toNat ≤ 4194304
    omega
/-- how far a line is drawn: u is where the character begins -/
def dnB (w : Int) (u k : Int) (y x : Int) (j : Nat) : Prop := (j : Int) % w < u ∨ ((j : Int) % w < u + 5 * k ∧ ((j : Int) / w < y ∨ ((j : Int) / w = y ∧ (j : Int) % w < u + x)))
def DrwI (s : ByteArray) (k w u y x : Int) (n : Nat) (f1 : Nat → Bool) : Prop := ∀ j, j < n → (dnB w u k y x j → f1 j = drwF s k w j) ∧ (¬ dnB w u k y x j → f1 j = false)
theorem drw_new {s : ByteArray} {k w : Int} {n : Nat} (hw : 0 < w) : DrwI s k w 0 0 0 n (fun _ => false) := fun j _ => by
  have a := Int.emod_nonneg (j : Int) (show w ≠ 0 by omega)
  have b : 0 ≤ (j : Int) / w := Int.ediv_nonneg (by omega) (by omega)
  refine ⟨fun h => ?_, fun _ => rfl⟩
  unfold dnB at h
  omega
theorem drw_px {s : ByteArray} {k w u : Int} {i q : Nat} {y x : Int} (hk : 1 ≤ k) (hu : u = 6 * (i : Int) * k) (hx0 : 0 ≤ x) (hx : x < 5 * k) (hy : 0 ≤ y) (hw : u + x < w) (hu0 : 0 ≤ u) (hq : (q : Int) = y * w + u + x) :
    drwF s k w q = gpx (byI s i) (y / k * 5 + x / k).toNat ∧ (q : Int) % w = u + x ∧ (q : Int) / w = y := by
  have e := dm (k := (q : Int)) (y := y) (x := u + x) (B := w) (by omega) (by omega) hw
  have d := dm (k := u + x) (y := (i : Int)) (x := x) (B := 6 * k) (by rw [hu, ← Int.mul_assoc, Int.mul_comm (i : Int) 6]) hx0 (by omega)
  refine ⟨?_, e.2, e.1⟩
  unfold drwF
  rw [e.1, e.2, d.1, d.2, decide_eq_true hx, Bool.true_and]
  rfl
theorem drw_set {s : ByteArray} {k w u : Int} {i q n : Nat} {y x : Int} {f1 : Nat → Bool} {b : Bool} (hI : DrwI s k w u y x n f1) (hk : 1 ≤ k) (hu : u = 6 * (i : Int) * k) (hx0 : 0 ≤ x) (hx : x < 5 * k) (hy : 0 ≤ y) (hw : u + x < w) (hu0 : 0 ≤ u) (hq : (q : Int) = y * w + u + x)
    (hb : gpx (byI s i) (y / k * 5 + x / k).toNat = b) : DrwI s k w u y (x + 1) n (upd f1 q b) := fun j hj => by
  obtain ⟨p1, p2, p3⟩ := drw_px (s := s) hk hu hx0 hx hy hw hu0 hq
  obtain ⟨h1, h2⟩ := hI j hj
  by_cases e : j = q
  · subst e
    unfold upd dnB
    rw [if_pos rfl, p1, hb]
    exact ⟨fun _ => rfl, fun h => absurd (by omega) h⟩
  · have ne : ¬ ((j : Int) % w = u + x ∧ (j : Int) / w = y) := fun ⟨a, c⟩ => e (by
      have := Int.mul_ediv_add_emod (j : Int) w
      rw [a, c, Int.mul_comm] at this
      omega)
    unfold upd
    rw [if_neg e]
    unfold dnB at *
    exact ⟨fun h => h1 (by omega), fun h => h2 (by omega)⟩
/-- a light pixel need not be set -/
theorem drw_keep {s : ByteArray} {k w u : Int} {i n : Nat} {y x : Int} {f1 : Nat → Bool} (hI : DrwI s k w u y x n f1) (hk : 1 ≤ k) (hu : u = 6 * (i : Int) * k) (hx0 : 0 ≤ x) (hx : x < 5 * k) (hy : 0 ≤ y) (hw : u + x < w) (hu0 : 0 ≤ u)
    (hb : gpx (byI s i) (y / k * 5 + x / k).toNat = false) : DrwI s k w u y (x + 1) n f1 := fun j hj => by
  obtain ⟨h1, h2⟩ := hI j hj
  by_cases e : (j : Int) % w = u + x ∧ (j : Int) / w = y
  · have ej := Int.mul_ediv_add_emod (j : Int) w
    rw [e.1, e.2, Int.mul_comm] at ej
    obtain ⟨p1, p2, p3⟩ := drw_px (s := s) (q := j) hk hu hx0 hx hy hw hu0 (by omega)
    have hf := h2 (by unfold dnB; omega)
    rw [hf, p1, hb]
    exact ⟨fun _ => rfl, fun _ => rfl⟩
  · unfold dnB at *
    exact ⟨fun h => h1 (by omega), fun h => h2 (by omega)⟩
theorem drw_row {s : ByteArray} {k w u : Int} {n : Nat} {y : Int} {x : Int} {f1 : Nat → Bool} (hI : DrwI s k w u y x n f1) (hx : x = 5 * k) : DrwI s k w u (y + 1) 0 n f1 := fun j hj => by
  obtain ⟨h1, h2⟩ := hI j hj
  unfold dnB at *
  exact ⟨fun h => h1 (by omega), fun h => h2 (by omega)⟩
theorem drw_next {s : ByteArray} {k w u : Int} {i n : Nat} {y : Int} {f1 : Nat → Bool} (hI : DrwI s k w u y 0 n f1) (hk : 1 ≤ k) (hu : u = 6 * (i : Int) * k) (hu0 : 0 ≤ u) (hy : y = 7 * k) (hw : 0 < w) (hn : (n : Int) ≤ w * 7 * k) : DrwI s k w (u + 6 * k) 0 0 n f1 := fun j hj => by
  obtain ⟨h1, h2⟩ := hI j hj
  have a := Int.emod_nonneg (j : Int) (show w ≠ 0 by omega)
  have b : 0 ≤ (j : Int) / w := Int.ediv_nonneg (by omega) (by omega)
  have c : (j : Int) / w < 7 * k := Int.ediv_lt_of_lt_mul hw (by rw [Int.mul_comm, ← Int.mul_assoc]; omega)
  by_cases e : u + 5 * k ≤ (j : Int) % w ∧ (j : Int) % w < u + 6 * k
  · have d := dm (k := (j : Int) % w) (y := (i : Int)) (x := (j : Int) % w - u) (B := 6 * k) (by rw [hu, ← Int.mul_assoc, Int.mul_comm (i : Int) 6]; omega) (by omega) (by omega)
    have z : drwF s k w j = false := by
      unfold drwF
      rw [d.2, decide_eq_false (by omega)]
      rfl
    have hf := h2 (by unfold dnB; omega)
    rw [hf, z]
    exact ⟨fun _ => rfl, fun _ => rfl⟩
  · unfold dnB at *
    exact ⟨fun h => h1 (by omega), fun h => h2 (by omega)⟩
theorem drw_done {s : ByteArray} {k w u : Int} {n : Nat} {f1 : Nat → Bool} (hI : DrwI s k w u 0 0 n f1) (hw : 0 < w) (hu : w ≤ u) : ∀ j, j < n → f1 j = drwF s k w j := fun j hj => by
  have b := Int.emod_lt_of_pos (j : Int) hw
  exact (hI j hj).1 (.inl (by omega))
theorem drw_u {p n : Nat} {k V : Int} (hV : V = (6 * (n : Int) - 1) * k) (hp : p < n) (hk : 1 ≤ k) : 0 ≤ 6 * (p : Int) * k ∧ 6 * (p : Int) * k + 5 * k ≤ V ∧ 6 * ((p + 1 : Nat) : Int) * k = 6 * (p : Int) * k + 6 * k := by
  have a := Int.mul_le_mul_of_nonneg_right (show 6 * (p : Int) + 5 ≤ 6 * (n : Int) - 1 by omega) (show 0 ≤ k by omega)
  rw [Int.add_mul, ← hV] at a
  have b : 0 ≤ 6 * (p : Int) * k := Int.mul_nonneg (by omega) (by omega)
  refine ⟨b, a, ?_⟩
  rw [show 6 * ((p + 1 : Nat) : Int) = 6 * (p : Int) + 6 by omega, Int.add_mul]
theorem drw_e {n : Nat} {k V : Int} (hV : V = (6 * (n : Int) - 1) * k) (hk : 1 ≤ k) : V ≤ 6 * (n : Int) * k := by
  rw [hV]
  exact Int.mul_le_mul_of_nonneg_right (by omega) (by omega)
theorem kn_rn {s : ByteArray} {p : Nat} (h : p < s.size) : knownB (rnI s p) = knownB (byI s p) := by
  by_cases e : byI s p < 128
  · rw [(rn_low h e).1]
  · have a := rn_high h e
    cases k1 : knownB (rnI s p) with
    | true => have := known_u8 k1; omega
    | false =>
      cases k2 : knownB (byI s p) with
      | true => have := known_u8 k2; omega
      | false => rfl
theorem kn_w {s : ByteArray} {p : Nat} (h : p < s.size) (hk : knownB (byI s p) = true) : rnI s p = byI s p ∧ rnW s p = 1 := rn_low h (by have := known_u8 hk; omega)
theorem ret_ii {a b a' b' : Int} (h : (a, b) = (a', b')) : Ending.returned (.tuple #[.int .i64 a, .int .i64 b]) = .returned (.tuple #[.int .i64 a', .int .i64 b']) := by
  cases h; rfl
/-- a list of bytes, in memory that is only read -/
def RLu (n : Nat) (G : Nat → Int) (v : Value) (S : List Blk) : Prop := ∃ A c, v = .slice A n c ∧ n ≤ c ∧ Rds S A (tab n (iv .u8 G))
theorem rlu_as {w W : World} {H : List Blk} {e : TypeId} {s : AS} {k n : Nat} {G : Nat → Int} (i : Nat) (hO : Ow [] w W H) (hH : H.drop i = s.blks e (tab k (iv .u8 G))) (hs : s.Ok 1 k (tab k (iv .u8 G))) (hn : k = n) :
    ∃ v Hn, Ending.returned (s.val k) = .returned v ∧ RLu n G v Hn ∧ Ow [] w W Hn := by
  subst hn
  exact ⟨_, s.blks e (tab k (iv .u8 G)), rfl, ⟨s.adr, s.cap, by rw [AS.val_eq hs], as_le hs, rds_as hs⟩, hO.tl i hH (List.Sublist.refl _)⟩
def wordB (c : Int) : Bool := (decide (48 ≤ c) && decide (c ≤ 57)) || (decide (65 ≤ c) && decide (c ≤ 90))
theorem word_known {c : Int} (h : knownB c = false) : wordB c = false := by
  cases k : wordB c with
  | false => rfl
  | true =>
    unfold wordB at k
    simp only [Bool.or_eq_true, Bool.and_eq_true, decide_eq_true_eq] at k
    rw [known_iff.2 (by omega)] at h
    cases h
/-! ### shapes -/
theorem word_rows : ((List.range 62).all fun k => (List.range 7).all fun y => !wordB (chC k) || gpx (chC k) (5 * y) || gpx (chC k) (5 * y + 1) || gpx (chC k) (5 * y + 2) || gpx (chC k) (5 * y + 3) || gpx (chC k) (5 * y + 4)) = true := by kernel_rfl
theorem dist_sym {a b : Int} : ∀ {k : Nat}, distN a b k = distN b a k
  | 0 => rfl
  | k + 1 => by
    show distN a b k + (if gpx a k ≠ gpx b k then 1 else 0) = distN b a k + (if gpx b k ≠ gpx a k then 1 else 0)
    rw [dist_sym (k := k)]
    by_cases h : gpx a k = gpx b k
    · rw [if_neg (by simp [h]), if_neg (by simp [h])]
    · rw [if_pos h, if_pos (fun e => h e.symm)]
theorem dist_self {a : Int} : ∀ {k : Nat}, distN a a k = 0
  | 0 => rfl
  | k + 1 => by rw [distN_no (by simp), dist_self]
/-- the least distance, by whole numbers -/
def popN (m : Nat) : Nat → Nat
  | 0 => 0
  | k + 1 => popN m k + (if m.testBit k = true then 1 else 0)
theorem dist_pop {a b : Int} : ∀ {k : Nat}, distN a b k = popN (gNum a ^^^ gNum b) k
  | 0 => rfl
  | k + 1 => by
    show distN a b k + (if gpx a k ≠ gpx b k then 1 else 0) = ((popN (gNum a ^^^ gNum b) k + (if (gNum a ^^^ gNum b).testBit k = true then 1 else 0) : Nat) : Int)
    rw [dist_pop (k := k), Nat.testBit_xor]
    unfold gpx
    cases (gNum a).testBit k <;> cases (gNum b).testBit k <;> simp
theorem cloJ_min {b : Int} {i : Nat} : ∀ {j : Nat}, cloJ b i j ≤ b ∧ ∀ k, k < j → cloJ b i j ≤ distN (chC i) (chC k) 35
  | 0 => ⟨Int.le_refl _, fun k h => by omega⟩
  | j + 1 => by
    obtain ⟨a, c⟩ := cloJ_min (b := b) (i := i) (j := j)
    refine ⟨by show min _ _ ≤ b; omega, fun k hk => ?_⟩
    show min _ _ ≤ _
    by_cases e : k = j
    · subst e; omega
    · have := c k (by omega); omega
theorem cloI_min : ∀ {i : Nat} {p q : Nat}, p < i → q < p → cloI i ≤ distN (chC p) (chC q) 35
  | 0, _, _, h, _ => by omega
  | i + 1, p, q, h, h2 => by
    obtain ⟨a, c⟩ := cloJ_min (b := cloI i) (i := i) (j := i)
    by_cases e : p = i
    · subst e; exact c q h2
    · have := cloI_min (i := i) (p := p) (q := q) (by omega) h2
      show cloJ _ _ _ ≤ _
      omega
theorem cloJ_ge {b M : Int} {i : Nat} (hb : M ≤ b) : ∀ {j : Nat}, (∀ k, k < j → M ≤ distN (chC i) (chC k) 35) → M ≤ cloJ b i j
  | 0, _ => hb
  | j + 1, h => by
    have a := cloJ_ge hb (j := j) (fun k hk => h k (by omega))
    have c := h j (by omega)
    show M ≤ min _ _
    omega
theorem cloI_ge {M : Int} (hM : M ≤ 35) : ∀ {i : Nat}, (∀ p q, p < i → q < p → M ≤ distN (chC p) (chC q) 35) → M ≤ cloI i
  | 0, _ => hM
  | i + 1, h => cloJ_ge (cloI_ge hM (i := i) fun p q hp hq => h p q (by omega) hq) fun k hk => h i k (by omega) hk
def pairT (i j : Nat) : Bool := let d := popN (gL.getD i 0 ^^^ gL.getD j 0) 35; decide (2 ≤ d) && (decide (4 ≤ d) || !wordB (chC i) || !wordB (chC j))
theorem pairs_all : ((List.range 62).all fun i => (List.range i).all fun j => pairT i j) = true := by kernel_rfl
theorem gNum_ch {k : Nat} (h : k < 62) : gNum (chC k) = gL.getD k 0 := by
  unfold gNum
  congr 1
  unfold chX chC
  repeat' split
  all_goals omega
theorem pair_spec {i j : Nat} (hi : i < 62) (hj : j < i) : 2 ≤ distN (chC i) (chC j) 35 ∧ (4 ≤ distN (chC i) (chC j) 35 ∨ wordB (chC i) = false ∨ wordB (chC j) = false) := by
  have h := List.all_eq_true.1 (List.all_eq_true.1 pairs_all i (List.mem_range.2 hi)) j (List.mem_range.2 hj)
  unfold pairT at h
  simp only [Bool.and_eq_true, Bool.or_eq_true, decide_eq_true_eq, Bool.not_eq_true'] at h
  rw [dist_pop, gNum_ch hi, gNum_ch (by omega)]
  obtain ⟨h1, h2⟩ := h
  refine ⟨by omega, ?_⟩
  rcases h2 with (h2 | h2) | h2
  · left; omega
  · exact .inr (.inl h2)
  · exact .inr (.inr h2)
theorem clo_two : 2 ≤ cloI 62 := cloI_ge (by omega) fun p q hp hq => (pair_spec hp hq).1
theorem shape_pair {a b : Int} (ha : knownB a = true) (hb : knownB b = true) (hn : a ≠ b) : cloI 62 ≤ distN a b 35 ∧ (4 ≤ distN a b 35 ∨ wordB a = false ∨ wordB b = false) := by
  obtain ⟨ea, la⟩ := chC_X ha
  obtain ⟨eb, lb⟩ := chC_X hb
  have hne : chX a ≠ chX b := fun e => hn (by rw [← ea, ← eb, e])
  rcases Nat.lt_or_ge (chX a) (chX b) with h | h
  · have p1 := pair_spec lb h
    have p2 := cloI_min (i := 62) lb h
    rw [ea, eb] at p1 p2
    rw [dist_sym]
    exact ⟨p2, p1.2.imp id Or.symm⟩
  · have p1 := pair_spec la (show chX b < chX a by omega)
    have p2 := cloI_min (i := 62) la (show chX b < chX a by omega)
    rw [ea, eb] at p1 p2
    exact ⟨p2, p1.2⟩
theorem shape_row {a : Int} (ha : knownB a = true) (hw : wordB a = true) {y : Nat} (hy : y < 7) : gpx a (5 * y) = true ∨ gpx a (5 * y + 1) = true ∨ gpx a (5 * y + 2) = true ∨ gpx a (5 * y + 3) = true ∨ gpx a (5 * y + 4) = true := by
  have h := for_known (p := fun c => (List.range 7).all fun y => !wordB c || gpx c (5 * y) || gpx c (5 * y + 1) || gpx c (5 * y + 2) || gpx c (5 * y + 3) || gpx c (5 * y + 4)) word_rows ha
  have h2 := List.all_eq_true.1 h y (List.mem_range.2 hy)
  simp only [hw, Bool.not_true, Bool.false_or, Bool.or_eq_true] at h2
  simpa [or_assoc] using h2
/-- a dark pixel in the first column, of the first k rows -/
def colF (a : Int) : Nat → Bool
  | 0 => false
  | k + 1 => colF a k || gpx a (5 * k)
theorem first_all : ((List.range 62).all fun k => colF (chC k) 7 == !decide (chC k = 32)) = true := by kernel_rfl
theorem shape_col {a : Int} (ha : knownB a = true) : colF a 7 = !decide (a = 32) := by
  have h := for_known (p := fun c => colF c 7 == !decide (c = 32)) first_all ha
  simpa using h
theorem dist_err {a b : Int} (ha : knownB a = true) (h : (distR a b).2 ≠ 0) : knownB b = false := by
  cases hb : knownB b with
  | false => rfl
  | true => rw [distR_ok ha hb] at h; exact absurd rfl h
theorem dist_zero {a b : Int} (h : ¬ (distR a b).2 ≠ 0) : knownB b = true := by
  cases hb : knownB b with
  | true => rfl
  | false => rw [distR_no (.inr hb)] at h; exact absurd (by decide) h
end Go.Bs
