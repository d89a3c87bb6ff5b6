/-
  Regions in mixed orders with several new variables that may be made at any time. No program is named here.
-/
import Derived.Test.YtnmiljloifbjeaaRk
namespace Go.Eng
open Go.RowKit
/-- a new variable: its operation, its slot, its type, its zero -/
structure Fl where
  i : Nat
  d : Nat
  τ : TypeId
  cs : List Value
def Fl.blk (p : Fl × Nat) : Blk := ⟨p.2, p.1.τ, p.1.cs⟩
def Fl.ptr (g : Nat) : Value := .pointer (some ⟨g, 0, none⟩)
structure FlOk (P : Program) (N : Sz) (l : List Oper) (x : Fl) : Prop where
  op : ∃ ty pos af, l[x.i]? = some ⟨some x.d, .alloc x.τ, ty, pos, af, none⟩
  dn : Nat.blt x.d N.n = true
  z : TyZ P x.τ x.cs
theorem fls_nil {P : Program} {N : Sz} {l : List Oper} : ∀ x ∈ ([] : List Fl), FlOk P N l x := fun x h => absurd h (by simp)
theorem fls_cons {P : Program} {N : Sz} {l : List Oper} {x : Fl} {r : List Fl} (h : FlOk P N l x) (hr : ∀ y ∈ r, FlOk P N l y) : ∀ y ∈ x :: r, FlOk P N l y := fun y hy => by
  rcases List.mem_cons.1 hy with rfl | hy
  · exact h
  · exact hr y hy
theorem listAll_perm {xs ys : List Nat} (h : xs.Perm ys) : ∀ listed : Array Bool, listAll listed xs = listAll listed ys := by
  induction h with
  | nil => intro _; rfl
  | cons x _ ih => intro listed; exact ih _
  | swap x y l =>
    intro listed
    simp only [listAll]
    by_cases e : x = y
    · rw [e]
    · rw [Array.setIfInBounds_comm _ _ e]
  | trans _ _ i1 i2 => intro listed; rw [i1, i2]
theorem Fr.more {H H' : List Blk} {W W' : World} (h : Fr H W H' W') (b : Blk) : Fr (b :: H) W (b :: H') W' :=
  ⟨h.size, fun k hk hn => h.keep k hk (fun hm => hn (by rw [List.map_cons]; exact List.mem_cons_of_mem _ hm)), fun c hc => by
    rcases List.mem_cons.1 hc with rfl | hc
    · exact .inl (by simp)
    · exact (h.ids c hc).imp (fun q => by rw [List.map_cons]; exact List.mem_cons_of_mem _ q) id⟩
theorem Ow.besides {X : List Nat} {w0 W W' : World} {H H' : List Blk} : ∀ {B : List Blk}, Ow X w0 W (B ++ H) → Ow X w0 W' H' → Fr H W H' W' → Ow X w0 W' (B ++ H') ∧ Fr (B ++ H) W (B ++ H') W'
  | [], _, h', f => ⟨h', f⟩
  | b :: B, h, h', f => by
    have i := Ow.besides (B := B) (h.sub (List.sublist_cons_self _ _)) h' f
    exact ⟨h.beside i.1 i.2, i.2.more b⟩
/-- rem: variables still to be made; as: operations whose turn is forced but for them -/
def fsB (l : List Oper) : Nat → List Nat → List Nat → Array Bool → Bool
  | 0, rem, as, _ => rem.isEmpty && as.isEmpty
  | m + 1, rem, as, listed =>
    !(Region.ready .any l.toArray listed).isEmpty && (Region.ready .any l.toArray listed).all (fun j => rem.contains j || as.head? == some j) &&
    rem.all (fun i => fsB l m (rem.erase i) as (listed.setIfInBounds i true)) && (match as with | [] => true | t :: r => fsB l m rem r (listed.setIfInBounds t true))
def FlSt (N : Sz) (X : List Nat) (w0 : World) (Ds : List (Fl × Nat)) (L : List (Nat × Value)) (H : List Blk) (a : Act) (W : World) : Prop :=
  Fit N a L ∧ (∀ p ∈ Ds, a.tmps[p.1.d]? = some (Fl.ptr p.2)) ∧ Ow X w0 W (Ds.map Fl.blk ++ H)
section
variable {P : Program} {N : Sz} {X : List Nat} {w0 : World} {l : List Oper} {Q : Exit → Act → World → Prop} {L : List (Nat × Value)} {H H0 : List Blk} {Z : Nat → Array Bool → Act → World → Prop}
theorem fit_new {a : Act} {d : Nat} {v : Value} (hF : Fit N a L) (hd : Nat.blt d N.n = true) (hL : ∀ s u, look L s = some u → s ≠ d) : Fit N (a.put (some d) v) L ∧ (a.put (some d) v).tmps[d]? = some v := by
  have hlt : d < N.n := by simpa [Nat.blt_eq] using hd
  refine ⟨⟨hF.defers, by simp [Act.put, hF.size], fun s u hs => ?_⟩, by simp [Act.put, hF.size, hlt]⟩
  have := hL s u hs
  simp [Act.put, Array.getElem?_setIfInBounds_ne (Ne.symm this), hF.at_ s u hs]
theorem r_fls {f : Nat} {D : List Nat} {K : List (Nat × Value) → List Blk → Prop} :
    ∀ (m : Nat) (rem : List Fl) (as : List Nat) (Ds : List (Fl × Nat)) (listed : Array Bool) (L : List (Nat × Value)) (H : List Blk), rem.length + as.length = m → fsB l m (rem.map Fl.i) as listed = true → Closed l.toArray listed →
      (∀ x ∈ rem, FlOk P N l x ∧ x.d ∈ D) → (rem.map Fl.d).Nodup → (rem.map Fl.i).Nodup → (∀ p ∈ Ds, p.1.d ∈ D ∧ ∀ x ∈ rem, x.d ≠ p.1.d) →
      (∀ t ∈ as, ∀ o, l[t]? = some o → ∀ e ∈ D, o.dst ≠ some e) → (∀ s v, look L s = some v → s ∉ D) → H0.Sublist H → GAs P N X w0 l H0 as L H K →
      (∀ L' H' Ds', K L' H' → Closed l.toArray (listAll listed (as ++ rem.map Fl.i)) → (Ds'.map Prod.fst).Perm (Ds.map Prod.fst ++ rem) → ∀ a W, FlSt N X w0 Ds' L' H' a W →
        wpR none 0 P l.toArray Q Z (fun W => Ow X w0 W H0) (fun _ => false) f (listAll listed (as ++ rem.map Fl.i)) a W) →
      ∀ a W, FlSt N X w0 Ds L H a W → wpR none 0 P l.toArray Q Z (fun W => Ow X w0 W H0) (fun _ => false) (m + f) listed a W := by
  intro m
  induction m with
  | zero =>
    intro rem as Ds listed L H hm hb hcl hr hnd hni hD hda hL hs h hK a W hst
    have e1 : rem = [] := List.eq_nil_of_length_eq_zero (by omega)
    have e2 : as = [] := List.eq_nil_of_length_eq_zero (by omega)
    subst e1; subst e2
    rw [Nat.zero_add]
    exact hK L H Ds h hcl (by simp) a W hst
  | succ m ih =>
    intro rem as Ds listed L H hm hb hcl hr hnd hni hD hda hL hs h hK a W hst
    obtain ⟨hF, hp, hO⟩ := hst
    simp only [fsB, Bool.and_eq_true, Bool.not_eq_true', List.isEmpty_eq_false_iff, List.all_eq_true] at hb
    obtain ⟨⟨⟨b1, b2⟩, b3⟩, b4⟩ := hb
    rw [show m + 1 + f = (m + f) + 1 by omega]
    intro w1 he _
    refine ⟨fun h0 => absurd h0 b1, fun j hj => ?_⟩
    have hcl' := hcl.set hj
    have hjj : j ∈ rem.map Fl.i ∨ as.head? = some j := by
      have := b2 j hj
      simpa using this
    rcases hjj with hjr | hjh
    · obtain ⟨x, hx, rfl⟩ := List.mem_map.1 hjr
      obtain ⟨r1, r2, rfl⟩ := List.append_of_mem hx
      obtain ⟨⟨⟨ty, pos, af, ho⟩, hdn, hz⟩, hxD⟩ := hr x hx
      have ho' : l.toArray[x.i]? = some ⟨some x.d, .alloc x.τ, ty, pos, af, none⟩ := by simpa using ho
      have hni2 := hni
      rw [List.map_append, List.map_cons, List.nodup_append] at hni2
      have hnx : x.i ∉ r1.map Fl.i := fun c => hni2.2.2 _ c x.i (by simp) rfl
      have her : ((r1 ++ x :: r2).map Fl.i).erase x.i = (r1 ++ r2).map Fl.i := by
        rw [List.map_append, List.map_cons, List.erase_append_right _ hnx, List.erase_cons_head, List.map_append]
      have hb3 := b3 x.i hjr
      rw [her] at hb3
      have hsub : (r1 ++ r2).Sublist (r1 ++ x :: r2) := List.Sublist.append (List.Sublist.refl _) (List.sublist_cons_self _ _)
      have hperm : (as ++ (r1 ++ x :: r2).map Fl.i).Perm (x.i :: (as ++ (r1 ++ r2).map Fl.i)) := by
        rw [List.map_append, List.map_cons, List.map_append]
        refine (List.Perm.append_left as List.perm_middle).trans ?_
        exact List.perm_middle
      have hla : listAll listed (as ++ (r1 ++ x :: r2).map Fl.i) = listAll (listed.setIfInBounds x.i true) (as ++ (r1 ++ r2).map Fl.i) := listAll_perm hperm listed
      rw [hla] at hK
      unfold wpOpIn
      simp only [ho']
      rw [if_pos (by simp [Region.wanted])]
      refine wpIn_of_wp (nd_none _ _ ho') (xo_alloc (N := N) (X := X) (w0 := w0) (L := L) (H := Ds.map Fl.blk ++ H) rfl hz a w1 hF (hO.ext he) _ Q fun v H' W' hR hO' _ => ?_)
      obtain ⟨g, rfl, rfl⟩ := hR
      rw [if_neg (by simp)]
      refine ⟨hO'.sub ((hs.trans (List.sublist_append_right _ _)).trans (List.sublist_cons_self _ _)), ?_⟩
      have hnd2 := hnd
      rw [List.map_append, List.map_cons, List.nodup_append, List.nodup_cons] at hnd2
      have hxr : ∀ y ∈ r1 ++ r2, y.d ≠ x.d := fun y hy e => by
        rcases List.mem_append.1 hy with hy | hy
        · exact hnd2.2.2 _ (List.mem_map.2 ⟨y, hy, rfl⟩) x.d (by simp) e
        · exact hnd2.2.1.1 (List.mem_map.2 ⟨y, hy, e⟩)
      have hfn := fit_new (v := Fl.ptr g) hF hdn (fun s u hsu e => hL s u hsu (e ▸ hxD))
      refine ih (r1 ++ r2) as ((x, g) :: Ds) _ L H (by simp at hm ⊢; omega) hb3 hcl' (fun y hy => hr y (hsub.subset hy)) (hnd.sublist (hsub.map _)) (hni.sublist (hsub.map _)) ?_ hda hL hs h ?_ _ _ ⟨hfn.1, ?_, hO'⟩
      · intro p hp'
        rcases List.mem_cons.1 hp' with rfl | hp'
        · exact ⟨hxD, fun y hy => hxr y hy⟩
        · exact ⟨(hD p hp').1, fun y hy => (hD p hp').2 y (hsub.subset hy)⟩
      · intro L' H' Ds' k hc hpm
        refine hK L' H' Ds' k hc (hpm.trans ?_)
        simp only [List.map_cons, List.cons_append]
        exact (List.perm_middle.symm.trans (List.Perm.append_left _ List.perm_middle.symm)) |> fun q => by simpa using q
      · intro p hp'
        rcases List.mem_cons.1 hp' with rfl | hp'
        · exact hfn.2
        · exact put_other (fun e => (hD p hp').2 x hx (by injection e)) (hp p hp')
    · cases as with
      | nil => cases hjh
      | cons t r =>
        simp only [List.head?_cons, Option.some.injEq] at hjh
        subst hjh
        obtain ⟨o, R, ho, hg, hd, hx, hrest⟩ := h
        have ho' : l.toArray[t]? = some o := by simpa using ho
        unfold wpOpIn
        simp only [ho']
        rw [if_pos (by simp [Region.wanted, hg])]
        have hO1 := hO.ext he
        refine wpIn_of_wp (nd_none _ _ ho') (hx a w1 hF (hO1.sub (List.sublist_append_right _ _)) _ Q fun v H' W' hR hO' hFr => ?_)
        rw [if_neg (by simp)]
        obtain ⟨hs', hrr⟩ := hrest v H' hR
        have hod := hda t (by simp) o ho
        refine ⟨hO'.sub hs', ih rem r Ds _ _ H' (by simp at hm ⊢; omega) b4 hcl' hr hnd hni hD (fun u hu => hda u (List.mem_cons_of_mem _ hu)) ?_ hs' hrr hK _ _ ⟨hF.put hd v, fun p hp' => put_other (hod _ (hD p hp').1) (hp p hp'), (hO1.besides hO' hFr).1⟩⟩
        intro s u hsu
        cases hdd : o.dst with
        | none => rw [hdd] at hsu; exact hL s u hsu
        | some e =>
          rw [hdd] at hsu hod
          by_cases hse : e = s
          · exact fun c => hod s c (by rw [hse])
          · simp only [ins] at hsu
            rw [look_cons_ne hse] at hsu
            exact hL s u hsu
/-- the variables in their own order -/
theorem fl_order {fs : List Fl} {xs : List Fl} (h : xs.Perm fs) : ∀ {Ds : List (Fl × Nat)}, Ds.map Prod.fst = xs → ∃ Ds' : List (Fl × Nat), Ds'.map Prod.fst = fs ∧ Ds'.Perm Ds := by
  induction h with
  | nil => intro Ds hD; exact ⟨Ds, hD, List.Perm.refl _⟩
  | cons x _ ih =>
    intro Ds hD
    cases Ds with
    | nil => cases hD
    | cons p r =>
      simp only [List.map_cons, List.cons.injEq] at hD
      obtain ⟨D2, h1, h2⟩ := ih hD.2
      exact ⟨p :: D2, by simp [h1, hD.1], h2.cons _⟩
  | swap x y zs =>
    intro Ds hD
    cases Ds with
    | nil => cases hD
    | cons p r =>
      cases r with
      | nil => simp at hD
      | cons q r =>
        simp only [List.map_cons, List.cons.injEq] at hD
        exact ⟨q :: p :: r, by simp [hD.1, hD.2.1, hD.2.2], List.Perm.swap _ _ _⟩
  | trans _ _ i1 i2 =>
    intro Ds hD
    obtain ⟨D1, h1, h2⟩ := i1 hD
    obtain ⟨D2, h3, h4⟩ := i2 h1
    exact ⟨D2, h3, h4.trans h2⟩
def FlK : List Fl → (List (Nat × Value) → List Blk → Prop) → Prop
  | [], K => K [] []
  | x :: r, K => ∀ g, FlK r (fun Ls Bs => K ((x.d, .pointer (some ⟨g, 0, none⟩)) :: Ls) (⟨g, x.τ, x.cs⟩ :: Bs))
def Fl.slot (p : Fl × Nat) : Nat × Value := (p.1.d, Fl.ptr p.2)
theorem flK_at : ∀ {fs : List Fl} {K : List (Nat × Value) → List Blk → Prop} {Ds : List (Fl × Nat)}, FlK fs K → Ds.map Prod.fst = fs → K (Ds.map Fl.slot) (Ds.map Fl.blk)
  | [], _, [], h, _ => h
  | x :: r, K, (y, g) :: Ds, h, hD => by
    simp only [List.map_cons, List.cons.injEq] at hD
    obtain ⟨rfl, hD⟩ := hD
    exact flK_at (K := fun Ls Bs => K ((y.d, .pointer (some ⟨g, 0, none⟩)) :: Ls) (⟨g, y.τ, y.cs⟩ :: Bs)) (h g) hD
theorem fit_slots {a : Act} : ∀ {Ds : List (Fl × Nat)}, Fit N a L → (∀ p ∈ Ds, a.tmps[p.1.d]? = some (Fl.ptr p.2)) → Fit N a (Ds.map Fl.slot ++ L)
  | [], hF, _ => hF
  | p :: r, hF, h => by
    have i := fit_slots (Ds := r) hF (fun q hq => h q (List.mem_cons_of_mem _ hq))
    refine ⟨i.defers, i.size, fun s v hs => ?_⟩
    simp only [List.map_cons, List.cons_append, Fl.slot] at hs
    by_cases e : p.1.d = s
    · subst e
      rw [look_cons_eq] at hs
      cases hs
      exact h p (by simp)
    · rw [look_cons_ne e] at hs
      exact i.at_ s v hs
def fsAll (l : List Oper) (es as ts : List Nat) (fs : List Nat) (ds : List Nat) : Bool :=
  Region.noSelect l.toArray && phaseB l es (Array.replicate l.length false) && fsB l (fs.length + as.length) fs as (listAll (Array.replicate l.length false) es) &&
  mixM l (ts.map fun i => (i, false)) (listAll (listAll (Array.replicate l.length false) es) (as ++ fs)) && (es.length + ((fs.length + as.length) + ts.length) == l.length) &&
  as.all (fun t => match l[t]? with | some o => (match o.dst with | some e => !ds.contains e | none => true) | none => true) && decide ds.Nodup && decide fs.Nodup
def noSlots (ds : List Nat) : List (Nat × Value) → Bool
  | [] => true
  | (k, _) :: r => !ds.contains k && noSlots ds r
theorem noSlots_spec {ds : List Nat} : ∀ {L : List (Nat × Value)}, noSlots ds L = true → ∀ s v, look L s = some v → s ∉ ds
  | [], _, s, v, h => by simp [look] at h
  | (k, u) :: r, hh, s, v, h => by
    simp only [noSlots, Bool.and_eq_true, Bool.not_eq_true'] at hh
    by_cases e : k = s
    · subst e; simpa using hh.1
    · rw [look_cons_ne e] at h; exact noSlots_spec hh.2 s v h
/-- reads of the blocks H0 (which the region does not change), then new blocks, between which the new variables fs are made, then the rest by turns -/
theorem gc_drawF {id : Nat} (es as ts : List Nat) (fs : List Fl) (hs : H0.Sublist H) (hm : P.follows .mixedOrders = true) (hB : fsAll l es as ts (fs.map Fl.i) (fs.map Fl.d) = true) (hfs : ∀ x ∈ fs, FlOk P N l x)
    (h : GEs P N X w0 l H0 es L fun L2 => noSlots (fs.map Fl.d) L2 = true ∧ GAs P N X w0 l H0 as L2 H fun L3 H3 => FlK fs fun Ls Bs => H0.Sublist H3 ∧ GMs P N X w0 l H0 (ts.map fun i => (i, false)) (Ls ++ L3) (Bs ++ H3) fun L' H' => GQ N X w0 (NQ Q) .normal L' H') :
    GC P N X w0 Q (.region id l.toArray true) L H := by
  simp only [fsAll, Bool.and_eq_true, beq_iff_eq, List.all_eq_true, decide_eq_true_eq] at hB
  obtain ⟨⟨⟨⟨⟨⟨⟨hsel, hes⟩, hfb⟩, hts⟩, hlen⟩, hdst⟩, hnd⟩, hni⟩ := hB
  have hQ : ∀ c a w, ¬ NQ Q (.panic c) a w := fun _ _ _ h => h
  have c0 := closed_none (ops := l.toArray) l.length
  refine fun a W hF hO => wpIn_wide.1 (Code.wpIn_mono (F := Fw none) (n := 0) NQ.out (wpIn_region_any hm ?_))
  have hsz : l.toArray.size = es.length + ((fs.length + as.length) + ts.length) := by simp at hlen ⊢; omega
  rw [hsz]
  have hrep : Array.replicate (es.length + ((fs.length + as.length) + ts.length)) false = Array.replicate l.length false := by congr 1; simp at hlen; omega
  rw [hrep]
  refine wpAny_of_wpR (ro := none) (n := 0) (Z := wpAnyIn (Fw none) 0 P .any l.toArray (NQ Q)) (S := fun W => Ow X w0 W H0) (xs := fun _ => false) (fun _ _ _ _ h => h) _ _ _ _ (hO.drew.sub hs) ?_
  refine r_reads (ts := []) (T := fun W => Ow X w0 W H) nd_none hsel hQ es _ L c0 hes (fun _ _ _ _ _ _ _ => rfl) h ?_ a _ hF hO.drew
  intro L2 h2 a W hF hO
  refine r_fls (D := fs.map Fl.d) (fs.length + as.length) fs as [] _ L2 H rfl (by simpa using hfb) (closed_phase es _ c0 hes) (fun x hx => ⟨hfs x hx, List.mem_map.2 ⟨x, hx, rfl⟩⟩) hnd hni (by simp) ?_ (noSlots_spec h2.1) hs h2.2 ?_ a W ⟨hF, by simp, hO⟩
  · intro t ht o ho e he c
    have := hdst t ht
    rw [ho] at this
    simp only [c, Bool.not_eq_true'] at this
    have h3 : (fs.map Fl.d).contains e = true := by simpa using he
    rw [h3] at this
    cases this
  · intro L3 H3 Ds h3 hc hpm a W hst
    obtain ⟨hF, hp, hO⟩ := hst
    obtain ⟨D2, d1, d2⟩ := fl_order (by simpa using hpm) (Ds := Ds) rfl
    have hk := flK_at h3 d1
    refine (?_ : wpR none 0 P l.toArray (NQ Q) _ _ _ ts.length _ a W)
    have hl : ts.length = (ts.map fun i => (i, false)).length := by simp
    rw [hl]
    refine r_mix hsel hQ _ _ _ _ hc hts hk.2 a W (fit_slots hF fun p hp' => hp p (d2.subset hp')) (hO.perm ?_)
    exact List.Perm.append_right _ (d2.symm.map _)
end
end Go.Eng
