/- A region in the order of its text; the slots that are kept; the rows that are numbered anew. -/
import Derived.Test.YtngcejakoaoojaaB2
namespace Go.Sm
open Go Go.RowKit

section
variable {P : Program} {T : TT} {Pr : Nat → Prop} {w0 : World} {cargs : List Value} {nt : Nat}

theorem lk_cons (d : Nat) (v : AV) (l : List (Nat × AV)) (t : Nat) : lk ((d, v) :: l) t = if d = t then some v else lk l t := by
  show (bif Nat.beq d t then some v else lk l t) = _
  cases h : Nat.beq d t with
  | true =>
    have := Nat.eq_of_beq_eq_true h
    simp [this]
  | false =>
    have : d ≠ t := fun e => by subst e; rw [Nat.beq_refl] at h; cases h
    simp [this]

/-- What a guard says. -/
inductive Guard (all : List Oper) (g : Option (Nat × Bool)) (s : St) : Bool → St → Prop
  | always : g = none → Guard all g s true s
  | test (j : Nat) (want b : Bool) (o : Oper) (d : Nat) : g = some (j, want) → all[j]? = some o → o.dst = some d → lk s.sl d = some (.fv (.el (.sc (.bo b)))) → Guard all g s (b == want) ⟨(d, .fv (.el (.sc (.bo b)))) :: s.sl, s.H⟩
  | skip (j : Nat) (want : Bool) (o : Oper) (d : Nat) : g = some (j, want) → all[j]? = some o → o.dst = some d → lk s.sl d = some .un → Guard all g s false s

theorem guardK_ok {all : List Oper} {g : Option (Nat × Bool)} {s : St} {yes no : St → R} {out : Out} (h : guardK all g s yes no = some out) :
    ∃ b s1, Guard all g s b s1 ∧ (if b then yes s1 else no s1) = some out := by
  unfold guardK at h
  split at h
  · exact ⟨true, s, .always rfl, h⟩
  · rename_i j want
    split at h
    · cases h
    · rename_i o ho
      split at h
      · cases h
      · rename_i d hd
        split at h
        · rename_i b hb
          refine ⟨b == want, _, .test j want b o d rfl ho hd hb, ?_⟩
          cases b <;> cases want <;> exact h
        · rename_i hb
          exact ⟨false, s, .skip j want o d rfl ho hd hb, h⟩
        · cases h

theorem Guard.same {all : List Oper} {g : Option (Nat × Bool)} {s s1 : St} {b : Bool} (h : Guard all g s b s1) : (∀ t, lk s1.sl t = lk s.sl t) ∧ s1.H = s.H := by
  cases h with
  | always _ => exact ⟨fun _ => rfl, rfl⟩
  | test j want b o d h1 h2 h3 h4 =>
    refine ⟨fun t => ?_, rfl⟩
    rw [lk_cons]
    split
    · rename_i e; subst e; exact h4.symm
    · rfl
  | skip j want o d h1 h2 h3 h4 => exact ⟨fun _ => rfl, rfl⟩

theorem getD_lt {a : Array Value} {d : Nat} {v : Value} (h : a.getD d undef = v) (hv : v ≠ undef) : a[d]? = some v := by
  rcases Nat.lt_or_ge d a.size with hl | hl
  · simp [Array.getD, hl] at h ⊢; exact h
  · simp [Array.getD, Nat.not_lt.2 hl] at h; exact absurd h.symm hv

/-- The model's guard says the same. -/
theorem Guard.wanted {ops : Array Oper} {o : Oper} {s s1 : St} {b : Bool} (h : Guard ops.toList o.guard s b s1) {a : Act} {w : World} {ρ : List Value}
    (hs : ∀ d, optIn (some d) (o.looksAt ops) = true → ∀ v, lk s.sl d = some v → AVR w Pr ρ cargs v (a.tmps.getD d undef)) : Region.wanted o (yielded ops a.tmps) = b := by
  have look : ∀ (j : Nat) (want : Bool) (o' : Oper) (d : Nat), o.guard = some (j, want) → ops.toList[j]? = some o' → o'.dst = some d → optIn (some d) (o.looksAt ops) = true ∧ ((ops[j]?).bind (·.dst)) = some d := by
    intro j want o' d h1 h2 h3
    have h4 : ops[j]? = some o' := by rw [← h2]; simp
    have h5 : ((ops[j]?).bind (·.dst)) = some d := by rw [h4]; exact h3
    refine ⟨?_, h5⟩
    have hm : d ∈ o.looksAt ops := by
      unfold Oper.looksAt
      rw [h1]
      simp [h5]
    have key : ∀ l : List Nat, d ∈ l → memN d l = true := by
      intro l
      induction l with
      | nil => intro h; cases h
      | cons x l ih =>
        intro h
        unfold memN
        cases h with
        | head => rw [Nat.beq_refl]; rfl
        | tail _ h => rw [ih h, Bool.or_true]
    exact key _ hm
  unfold Region.wanted
  cases h with
  | always h => rw [h]
  | test j want b o' d h1 h2 h3 h4 =>
    obtain ⟨h5, h6⟩ := look j want o' d h1 h2 h3
    have hv : a.tmps.getD d undef = .bool b := hs d h5 _ h4
    have hv2 := getD_lt hv (by unfold undef; intro e; cases e)
    rw [h1]
    dsimp only
    unfold yielded
    rw [h6]
    simp [hv2]
  | skip j want o' d h1 h2 h3 h4 =>
    obtain ⟨h5, h6⟩ := look j want o' d h1 h2 h3
    have hv : a.tmps.getD d undef = undef := hs d h5 _ h4
    rw [h1]
    dsimp only
    unfold yielded
    rw [h6]
    simp only [Option.bind_some]
    rcases Nat.lt_or_ge d a.tmps.size with hl | hl
    · have : a.tmps[d]? = some undef := by simp [Array.getD, hl] at hv ⊢; exact hv
      rw [this]
      rfl
    · rw [Array.getElem?_eq_none hl]
      rfl

theorem getD_set (a : Array Value) (d t : Nat) (v : Value) (h : d < a.size) : (a.setIfInBounds d v).getD t undef = if d = t then v else a.getD t undef := by
  simp only [Array.getD_eq_getD_getElem?, Array.getElem?_setIfInBounds]
  by_cases e : d = t
  · subst e
    simp [h]
  · simp [e]

/-- A slot that is written. -/
theorem SR.put {s : St} {a : Act} {w w' : World} {ρ ρ' : List Value} {dst : Option Nat} {av : AV} {H' : Hp} {v : Value} (h : SR Pr w0 cargs nt s a w ρ) (hd : dstOk nt dst = true)
    (hr : ∀ (r : Nat) (u : Value), ρ[r]? = some u → ρ'[r]? = some u) (hv : AVR w' Pr ρ' cargs av v) (hH : HR w' Pr ρ' H') (hk : Keep Pr w w') : SR Pr w0 cargs nt (putS s dst av H') (a.put dst v) w' ρ' := by
  have hold : ∀ t u, lk s.sl t = some u → AVR w' Pr ρ' cargs u (a.tmps.getD t undef) := fun t u hu => (h.slots t u hu).keep hk.block hr
  cases dst with
  | none => exact ⟨h.size, h.defers, hold, hH, h.keep.trans hk⟩
  | some d =>
    have hd' : d < a.tmps.size := by rw [h.size]; exact of_decide_eq_true hd
    refine ⟨by simp [Act.put, h.size], h.defers, fun t u hu => ?_, hH, h.keep.trans hk⟩
    simp only [putS] at hu
    rw [lk_cons] at hu
    simp only [Act.put]
    rw [getD_set _ _ _ _ hd']
    split at hu
    · rename_i e
      cases hu
      rw [if_pos e]
      exact hv
    · rename_i e
      rw [if_neg e]
      exact hold t u hu

theorem SR.lt {s : St} {a : Act} {w : World} {ρ : List Value} (h : SR Pr w0 cargs nt s a w ρ) (hp : ∀ k, Pr k → k < w0.heap.size) : ∀ k, Pr k → k < w.heap.size := fun k hk => Nat.lt_of_lt_of_le (hp k hk) h.keep.size

theorem SR.guard {all : List Oper} {g : Option (Nat × Bool)} {s s1 : St} {b : Bool} {a : Act} {w : World} {ρ : List Value} (h : SR Pr w0 cargs nt s a w ρ) (hg : Guard all g s b s1) : SR Pr w0 cargs nt s1 a w ρ := by
  obtain ⟨h1, h2⟩ := hg.same
  exact ⟨h.size, h.defers, fun t v hv => h.slots t v (by rw [← h1 t]; exact hv), by rw [h2]; exact h.heap, h.keep⟩

/-- **A REGION IN THE ORDER OF ITS TEXT.** -/
theorem opsK_ok (hT : TOK P T) (nf : Nat) (hp : ∀ k, Pr k → k < w0.heap.size) {ops : Array Oper} {Q : Exit → Act → World → Prop} {out : Out} {k : St → R} : ∀ (os : List Oper) (s : St) (a : Act) (w : World) (ρ : List Value),
    opsK T false nt ops.toList os s k = some out → SR Pr w0 cargs nt s a w ρ → (∀ s' a' w' ρ', k s' = some out → SR Pr w0 cargs nt s' a' w' ρ' → Ext nf ρ ρ' → Q .normal a' w') → wpList P ops Q os a w
  | [], s, a, w, ρ, h, hs, hQ => hQ s a w ρ h hs (Ext.refl _ _)
  | o :: os, s, a, w, ρ, h, hs, hQ => by
    unfold opsK at h
    cases hd : dstOk nt o.dst with
    | false => rw [hd] at h; cases h
    | true =>
      rw [hd] at h
      simp only [cond_true] at h
      obtain ⟨b, s1, hg, h1⟩ := guardK_ok h
      have hw : Region.wanted o (yielded ops a.tmps) = b := hg.wanted (w := w) (Pr := Pr) (ρ := ρ) (cargs := cargs) fun d _ v hv => hs.slots d v hv
      have hs1 := hs.guard hg
      unfold wpList
      rw [hw]
      cases b with
      | false =>
        simp only [Bool.false_eq_true, if_false] at h1 ⊢
        refine opsK_ok hT nf hp os _ _ w ρ h1 (hs1.put hd (fun _ _ h => h) rfl hs1.heap (Keep.refl _ _)) hQ
      | true =>
        simp only [if_true] at h1 ⊢
        obtain ⟨av, H', hk, hdoes⟩ := opK_does hT h1
        refine .inl ((hdoes a w Pr ρ cargs (hs.lt hp) hs1.heap (Opd.of_slots fun t _ v hv => hs1.slots t v hv)).wp ?_)
        rintro v w' ⟨ρ', hr, hv, hH, hkeep⟩
        exact opsK_ok hT nf hp os _ _ w' ρ' hk (hs1.put hd hr hv hH hkeep) fun s2 a2 w2 ρ2 h2 hs2 he => hQ s2 a2 w2 ρ2 h2 hs2 fun r u h3 h4 => he r u h3 (hr r u h4)

/-! ### The slots that are kept -/

theorem memN_iff {n : Nat} : ∀ {l : List Nat}, memN n l = true ↔ n ∈ l
  | [] => by simp [memN]
  | m :: l => by
    unfold memN
    rw [Bool.or_eq_true, memN_iff (l := l), List.mem_cons]
    constructor
    · rintro (h | h)
      · exact .inl (Nat.eq_of_beq_eq_true h)
      · exact .inr h
    · rintro (rfl | h)
      · exact .inl (Nat.beq_refl _)
      · exact .inr h

theorem once_mem {n : Nat} : ∀ {l : List Nat}, n ∈ once l ↔ n ∈ l
  | [] => by simp [once]
  | m :: l => by
    unfold once
    cases h : memN m l with
    | true =>
      rw [cond_true, once_mem (l := l), List.mem_cons]
      constructor
      · exact .inr
      · rintro (rfl | h2)
        · exact memN_iff.1 h
        · exact h2
    | false =>
      rw [cond_false, List.mem_cons, List.mem_cons, once_mem (l := l)]

theorem once_nodup : ∀ (l : List Nat), (once l).Nodup
  | [] => by simp [once]
  | m :: l => by
    unfold once
    cases h : memN m l with
    | true => exact once_nodup l
    | false =>
      rw [cond_false, List.nodup_cons]
      refine ⟨fun hm => ?_, once_nodup l⟩
      rw [once_mem, ← memN_iff, h] at hm
      cases hm

theorem place_get {n : Nat} : ∀ {l : List Nat}, n ∈ l → l[place n l]? = some n
  | [], h => by cases h
  | m :: l, h => by
    unfold place
    cases hb : Nat.beq n m with
    | true => have := Nat.eq_of_beq_eq_true hb; subst this; rfl
    | false =>
      have hne : n ≠ m := fun e => by subst e; rw [Nat.beq_refl] at hb; cases hb
      rw [cond_false]
      have : n ∈ l := by
        cases h with
        | head => exact absurd rfl hne
        | tail _ h => exact h
      simpa using place_get this

theorem keep_lk {l : List (Nat × AV)} : ∀ {ts : List Nat} {l' : List (Nat × AV)}, keepSlots l ts = some l' → ∀ t v, lk l' t = some v → lk l t = some v
  | [], l', h, t, v, hv => by simp [keepSlots] at h; subst h; cases hv
  | t' :: ts, l', h, t, v, hv => by
    unfold keepSlots at h
    split at h
    · rename_i u r hu hr
      cases h
      rw [lk_cons] at hv
      split at hv
      · rename_i e; subst e; cases hv; exact hu
      · exact keep_lk hr t v hv
    · cases h

theorem lk_map (f : AV → AV) : ∀ (l : List (Nat × AV)) (t : Nat), lk (l.map fun x => (x.1, f x.2)) t = (lk l t).map f
  | [], t => rfl
  | (d, v) :: l, t => by
    rw [List.map_cons, lk_cons, lk_cons, lk_map f l t]
    split <;> rfl

theorem lk_mem : ∀ {l : List (Nat × AV)} {t : Nat} {v : AV}, lk l t = some v → ∃ d, (d, v) ∈ l
  | [], t, v, h => by cases h
  | (d, u) :: l, t, v, h => by
    rw [lk_cons] at h
    split at h
    · cases h; exact ⟨d, by simp⟩
    · obtain ⟨d', hd⟩ := lk_mem h
      exact ⟨d', List.mem_cons_of_mem _ hd⟩

section
variable {w : World} {ρ : List Value} {ids : List Nat}

theorem ren_get {r : Nat} {v : Value} (hr : r ∈ ids) (hv : ρ[r]? = some v) : (ids.map fun r => ρ.getD r undef)[place r ids]? = some v := by
  rw [List.getElem?_map, place_get hr]
  simp [List.getD, hv]

theorem PtR.ren {p : PT} {v : Value} (hm : ∀ r ∈ refsP p, r ∈ ids) (h : PtR w Pr ρ p v) : PtR w Pr (ids.map fun r => ρ.getD r undef) (renP ids p) v := by
  obtain ⟨b, sz, i, j⟩ := p
  cases b with
  | v vec => exact h
  | r r =>
    obtain ⟨vr, g, h1, h2, h3⟩ := h
    exact ⟨vr, g, ren_get (hm r (by simp [refsP])) h1, h2, h3⟩

theorem AllR.map_left {α α' β : Type} {R : α → β → Prop} {R' : α' → β → Prop} (f : α → α') : ∀ {as : List α} {bs : List β}, (∀ a ∈ as, ∀ b, R a b → R' (f a) b) → AllR R as bs → AllR R' (as.map f) bs
  | [], [], _, _ => trivial
  | a :: as, b :: bs, hm, h => ⟨hm a (by simp) b h.1, AllR.map_left f (fun a ha => hm a (by simp [ha])) h.2⟩
  | [], _ :: _, _, h => h.elim
  | _ :: _, [], _, h => h.elim

theorem FVR.ren {x : FV} {v : Value} (hm : ∀ r ∈ refsF x, r ∈ ids) (h : FVR w Pr ρ cargs x v) : FVR w Pr (ids.map fun r => ρ.getD r undef) cargs (renF ids x) v := by
  cases x with
  | el e => exact h
  | nil => exact h
  | vw o vec => exact h
  | own r => exact ren_get (hm r (by simp [refsF])) h
  | pt p => exact PtR.ren (fun r hr => hm r hr) h
  | fn f caps =>
    obtain ⟨cs, h1, h2⟩ := h
    exact ⟨cs, h1, AllR.map_left _ (fun p hp v hv => PtR.ren (fun r hr => hm r (List.mem_flatMap.2 ⟨p, hp, hr⟩)) hv) h2⟩

theorem AVR.ren {x : AV} {v : Value} (hm : ∀ r ∈ refsA x, r ∈ ids) (h : AVR w Pr ρ cargs x v) : AVR w Pr (ids.map fun r => ρ.getD r undef) cargs (renA ids x) v := by
  cases x with
  | un => exact h
  | fv x => exact FVR.ren hm h
  | tup xs =>
    obtain ⟨vs, h1, h2⟩ := h
    exact ⟨vs, h1, AllR.map_left _ (fun x hx v hv => FVR.ren (fun r hr => hm r (List.mem_flatMap.2 ⟨x, hx, hr⟩)) hv) h2⟩
end

theorem rowAt_map {H : Hp} {ids : List Nat} {i : Nat} {row : Row} (h : rowAt (ids.map (rowOf H)) i = some row) : ∃ r, ids[i]? = some r ∧ rowAt H r = some row := by
  unfold rowAt at h
  split at h
  · rename_i row' hr
    cases h
    rw [List.getElem?_map] at hr
    obtain ⟨r, h1, h2⟩ := Option.map_eq_some_iff.1 hr
    refine ⟨r, h1, ?_⟩
    unfold rowOf at h2
    split at h2
    · rename_i x hx
      unfold rowAt
      rw [hx, h2]
    · cases h2
  · cases h

theorem refsP_lt {w : World} {ρ : List Value} {p : PT} {v : Value} (h : PtR w Pr ρ p v) : ∀ r ∈ refsP p, ∃ u, ρ[r]? = some u := by
  obtain ⟨b, sz, i, j⟩ := p
  intro r hr
  cases b with
  | v vec => simp [refsP] at hr
  | r r' =>
    simp [refsP] at hr
    subst hr
    obtain ⟨vr, g, h1, _⟩ := h
    exact ⟨vr, h1⟩

theorem refsF_lt {w : World} {ρ : List Value} {x : FV} {v : Value} (h : FVR w Pr ρ cargs x v) : ∀ r ∈ refsF x, ∃ u, ρ[r]? = some u := by
  intro r hr
  cases x with
  | el e => simp [refsF] at hr
  | nil => simp [refsF] at hr
  | vw o vec => simp [refsF] at hr
  | own r' => simp [refsF] at hr; subst hr; exact ⟨v, h⟩
  | pt p => exact refsP_lt h r hr
  | fn f caps =>
    obtain ⟨cs, _, h2⟩ := h
    obtain ⟨p, hp, hr2⟩ := List.mem_flatMap.1 hr
    obtain ⟨i, hi⟩ := List.getElem?_of_mem hp
    obtain ⟨u, _, hu⟩ := h2.get i p hi
    exact refsP_lt hu r hr2

theorem refsA_lt {w : World} {ρ : List Value} {x : AV} {v : Value} (h : AVR w Pr ρ cargs x v) : ∀ r ∈ refsA x, ∃ u, ρ[r]? = some u := by
  intro r hr
  cases x with
  | un => simp [refsA] at hr
  | fv x => exact refsF_lt h r hr
  | tup xs =>
    obtain ⟨vs, _, h2⟩ := h
    obtain ⟨x, hx, hr2⟩ := List.mem_flatMap.1 hr
    obtain ⟨i, hi⟩ := List.getElem?_of_mem hx
    obtain ⟨u, _, hu⟩ := h2.get i x hi
    exact refsF_lt hu r hr2

theorem keep_mem {l : List (Nat × AV)} : ∀ {ts : List Nat} {l' : List (Nat × AV)}, keepSlots l ts = some l' → ∀ t v, (t, v) ∈ l' → lk l t = some v
  | [], l', h, t, v, hv => by simp [keepSlots] at h; subst h; cases hv
  | t' :: ts, l', h, t, v, hv => by
    unfold keepSlots at h
    split at h
    · rename_i u r hu hr
      cases h
      cases hv with
      | head => exact hu
      | tail _ hv => exact keep_mem hr t v hv
    · cases h

/-- **THE SLOTS THAT ARE KEPT, THE ROWS NUMBERED ANEW.** -/
theorem stays_spec {ids : List Nat} : ∀ {nf : Nat}, stays nf ids = true → ∀ r, r < nf → ids[r]? = some r
  | 0, _, r, h => by omega
  | n + 1, h, r, hr => by
    unfold stays at h
    rw [Bool.and_eq_true] at h
    by_cases e : r = n
    · subst e
      have h2 := h.2
      split at h2
      · rename_i m hm
        rw [hm, Nat.eq_of_beq_eq_true h2]
      · cases h2
    · exact stays_spec h.1 r (by omega)

theorem normS_ok {nf : Nat} {ts : List Nat} {s s' : St} (h : normS nf ts s = some s') {a : Act} {w : World} {ρ : List Value} (hs : SR Pr w0 cargs nt s a w ρ) : ∃ ρ', SR Pr w0 cargs nt s' a w ρ' ∧ Ext nf ρ ρ' := by
  unfold normS at h
  split at h
  · rename_i l hl
    cases hst : stays nf (once (l.flatMap fun x => refsA x.2)) with
    | false => rw [hst] at h; cases h
    | true =>
    rw [hst] at h
    cases h
    generalize hids : once (l.flatMap fun x => refsA x.2) = ids at hst
    have hnd : ids.Nodup := by rw [← hids]; exact once_nodup _
    have hmem : ∀ x ∈ l, ∀ r ∈ refsA x.2, r ∈ ids := fun x hx r hr => by rw [← hids, once_mem]; exact List.mem_flatMap.2 ⟨x, hx, hr⟩
    have hval : ∀ r ∈ ids, ∃ u, ρ[r]? = some u := by
      intro r hr
      rw [← hids, once_mem] at hr
      obtain ⟨⟨t, v⟩, hx, hr2⟩ := List.mem_flatMap.1 hr
      exact refsA_lt (hs.slots t v (keep_mem hl t v hx)) r hr2
    refine ⟨ids.map fun r => ρ.getD r undef, ?_, fun r u h1 h2 => by rw [List.getElem?_map, stays_spec hst r h1]; simp [List.getD, h2]⟩
    refine ⟨hs.size, hs.defers, fun t v hv => ?_, ⟨by simp, fun i row hrow => ?_, fun i i' row row' v v' g hne h1 h2 h3 h4 h5 => ?_⟩, hs.keep⟩
    · dsimp only at hv
      rw [lk_map (renA ids)] at hv
      obtain ⟨u, hu, rfl⟩ := Option.map_eq_some_iff.1 hv
      obtain ⟨d, hd⟩ := lk_mem hu
      exact (hs.slots t u (keep_lk hl t u hu)).ren (fun r hr => hmem _ hd r hr)
    · obtain ⟨r, h1, h2⟩ := rowAt_map hrow
      obtain ⟨v, h3, h4⟩ := hs.heap.row r row h2
      refine ⟨v, ?_, h4⟩
      rw [List.getElem?_map, h1]
      simp [List.getD, h3]
    · obtain ⟨r, a1, a2⟩ := rowAt_map h1
      obtain ⟨r', b1, b2⟩ := rowAt_map h2
      obtain ⟨u, hu, _⟩ := hs.heap.row r row a2
      obtain ⟨u', hu', _⟩ := hs.heap.row r' row' b2
      rw [List.getElem?_map, a1] at h3
      rw [List.getElem?_map, b1] at h4
      simp [List.getD, hu] at h3
      simp [List.getD, hu'] at h4
      subst h3 h4
      have hrr : r ≠ r' := by
        intro e
        subst e
        apply hne
        have hi : i < ids.length := by
          rcases Nat.lt_or_ge i ids.length with h' | h'
          · exact h'
          · rw [List.getElem?_eq_none h'] at a1; cases a1
        exact (List.getElem?_inj hi hnd).1 (a1.trans b1.symm)
      exact hs.heap.apart r r' row row' _ _ g hrr a2 b2 hu hu' h5
  · cases h

end
end Go.Sm
