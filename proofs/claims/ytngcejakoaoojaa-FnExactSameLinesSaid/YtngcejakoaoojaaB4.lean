/- A region in whatever order; the code; the loops. -/
import Derived.Test.YtngcejakoaoojaaB3
namespace Go.Sm
open Go Go.RowKit

section
variable {P : Program} {T : TT} {Pr : Nat → Prop} {w0 : World} {cargs : List Value} {nt : Nat}

/-- The way of the machine through a region. -/
inductive Path (P : Program) (all : List Oper) (nt : Nat) : List Oper → St → List AV → St → Prop
  | nil (s : St) : Path P all nt [] s [] s
  | yes (o : Oper) (os : List Oper) (s s1 s' : St) (av : AV) (avs : List AV) : dstOk nt o.dst = true → Guard all o.guard s true s1 → Quiet P o s1 av → Path P all nt os (putS s1 o.dst av s1.H) avs s' → Path P all nt (o :: os) s (av :: avs) s'
  | no (o : Oper) (os : List Oper) (s s1 s' : St) (avs : List AV) : dstOk nt o.dst = true → Guard all o.guard s false s1 → Path P all nt os (putS s1 o.dst .un s1.H) avs s' → Path P all nt (o :: os) s (.un :: avs) s'

theorem opsK_path (hT : TOK P T) {all : List Oper} {out : Out} {k : St → R} : ∀ (os : List Oper) (s : St), opsK T true nt all os s k = some out → ∃ avs s', Path P all nt os s avs s' ∧ k s' = some out
  | [], s, h => ⟨[], s, .nil s, h⟩
  | o :: os, s, h => by
    unfold opsK at h
    cases hd : dstOk nt o.dst with
    | false => rw [hd] at h; cases h
    | true =>
      rw [hd] at h
      simp only [cond_true] at h
      obtain ⟨b, s1, hg, h1⟩ := guardK_ok h
      cases b with
      | true =>
        simp only [if_true] at h1
        obtain ⟨av, hk, hq⟩ := opK_quiet hT h1
        obtain ⟨avs, s', hp, hk'⟩ := opsK_path hT os _ hk
        exact ⟨av :: avs, s', .yes o os s s1 s' av avs hd hg hq hp, hk'⟩
      | false =>
        simp only [Bool.false_eq_true, if_false] at h1
        obtain ⟨avs, s', hp, hk'⟩ := opsK_path hT os _ h1
        have hH := hg.same.2
        exact ⟨.un :: avs, s', .no o os s s1 s' avs hd hg hp, hk'⟩

theorem Path.heap {all os : List Oper} {s s' : St} {avs : List AV} (h : Path P all nt os s avs s') : s'.H = s.H := by
  induction h with
  | nil s => rfl
  | yes o os s s1 s' av avs h1 h2 h3 h4 ih => rw [ih]; cases o.dst <;> exact h2.same.2
  | no o os s s1 s' avs h1 h2 h4 ih => rw [ih]; cases o.dst <;> exact h2.same.2

theorem lk_put {s s1 : St} {all : List Oper} {g : Option (Nat × Bool)} {b : Bool} (hg : Guard all g s b s1) {dst : Option Nat} {av : AV} {H : Hp} {t : Nat} {v : AV} (h : lk (putS s1 dst av H).sl t = some v) :
    (dst = some t ∧ v = av) ∨ (dst ≠ some t ∧ lk s.sl t = some v) := by
  cases dst with
  | none => exact .inr ⟨by simp, by rw [← hg.same.1 t]; exact h⟩
  | some d =>
    simp only [putS] at h
    rw [lk_cons] at h
    split at h
    · rename_i e; cases h; exact .inl ⟨by rw [e], rfl⟩
    · rename_i e; exact .inr ⟨fun h => e (by cases h; rfl), by rw [← hg.same.1 t]; exact h⟩

theorem Path.len {all os : List Oper} {s s' : St} {avs : List AV} (h : Path P all nt os s avs s') : avs.length = os.length := by
  induction h with
  | nil s => rfl
  | yes o os s s1 s' av avs h1 h2 h3 h4 ih => simp [ih]
  | no o os s s1 s' avs h1 h2 h4 ih => simp [ih]

/-- Where a slot's value at the end comes from. -/
theorem Path.final {all os : List Oper} {s s' : St} {avs : List AV} (h : Path P all nt os s avs s') {t : Nat} {v : AV} (hv : lk s'.sl t = some v) :
    (∃ (j : Nat) (o : Oper), os[j]? = some o ∧ o.dst = some t ∧ avs[j]? = some v) ∨ (lk s.sl t = some v ∧ ∀ (j : Nat) (o : Oper), os[j]? = some o → o.dst ≠ some t) := by
  induction h with
  | nil s => exact .inr ⟨hv, fun j o h => by simp at h⟩
  | yes o os s s1 s' av avs h1 h2 h3 h4 ih =>
    rcases ih hv with ⟨j, o', a1, a2, a3⟩ | ⟨a1, a2⟩
    · exact .inl ⟨j + 1, o', by simpa using a1, a2, by simpa using a3⟩
    · rcases lk_put h2 a1 with ⟨b1, rfl⟩ | ⟨b1, b2⟩
      · exact .inl ⟨0, o, rfl, b1, rfl⟩
      · refine .inr ⟨b2, fun j o' hj => ?_⟩
        cases j with
        | zero => simp at hj; subst hj; exact b1
        | succ j => exact a2 j o' (by simpa using hj)
  | no o os s s1 s' avs h1 h2 h4 ih =>
    rcases ih hv with ⟨j, o', a1, a2, a3⟩ | ⟨a1, a2⟩
    · exact .inl ⟨j + 1, o', by simpa using a1, a2, by simpa using a3⟩
    · rcases lk_put h2 a1 with ⟨b1, rfl⟩ | ⟨b1, b2⟩
      · exact .inl ⟨0, o, rfl, b1, rfl⟩
      · refine .inr ⟨b2, fun j o' hj => ?_⟩
        cases j with
        | zero => simp at hj; subst hj; exact b1
        | succ j => exact a2 j o' (by simpa using hj)

/-- One operation on the way: the state that it finds. -/
structure At (P : Program) (all : List Oper) (nt : Nat) (os : List Oper) (s : St) (avs : List AV) (i : Nat) (o : Oper) (av : AV) : Prop where
  dst : dstOk nt o.dst = true
  step : ∃ (si s1 : St), si.H = s.H ∧ ((Guard all o.guard si true s1 ∧ Quiet P o s1 av) ∨ (Guard all o.guard si false s1 ∧ av = .un)) ∧
    ∀ (t : Nat) (v : AV), lk si.sl t = some v → (∃ (j : Nat) (o' : Oper), j < i ∧ os[j]? = some o' ∧ o'.dst = some t ∧ avs[j]? = some v) ∨
      (lk s.sl t = some v ∧ ∀ (j : Nat) (o' : Oper), j < i → os[j]? = some o' → o'.dst ≠ some t)

theorem Path.at {all os : List Oper} {s s' : St} {avs : List AV} (h : Path P all nt os s avs s') {i : Nat} {o : Oper} {av : AV} (ho : os[i]? = some o) (ha : avs[i]? = some av) : At P all nt os s avs i o av := by
  induction h generalizing i with
  | nil s => simp at ho
  | yes o1 os s s1 s' av1 avs h1 h2 h3 h4 ih =>
    cases i with
    | zero =>
      simp at ho ha
      subst ho ha
      exact ⟨h1, s, s1, rfl, .inl ⟨h2, h3⟩, fun t v hv => .inr ⟨hv, fun j o' hj => by omega⟩⟩
    | succ i =>
      obtain ⟨d1, si, si1, e1, e2, e3⟩ := ih (by simpa using ho) (by simpa using ha)
      refine ⟨d1, si, si1, by rw [e1]; cases o1.dst <;> exact h2.same.2, e2, fun t v hv => ?_⟩
      rcases e3 t v hv with ⟨j, o', a1, a2, a3, a4⟩ | ⟨a1, a2⟩
      · exact .inl ⟨j + 1, o', by omega, by simpa using a2, a3, by simpa using a4⟩
      · rcases lk_put h2 a1 with ⟨b1, rfl⟩ | ⟨b1, b2⟩
        · exact .inl ⟨0, o1, by omega, rfl, b1, rfl⟩
        · refine .inr ⟨b2, fun j o' hj hjo => ?_⟩
          cases j with
          | zero => simp at hjo; subst hjo; exact b1
          | succ j => exact a2 j o' (by omega) (by simpa using hjo)
  | no o1 os s s1 s' avs h1 h2 h4 ih =>
    cases i with
    | zero =>
      simp at ho ha
      subst ho ha
      exact ⟨h1, s, s1, rfl, .inr ⟨h2, rfl⟩, fun t v hv => .inr ⟨hv, fun j o' hj => by omega⟩⟩
    | succ i =>
      obtain ⟨d1, si, si1, e1, e2, e3⟩ := ih (by simpa using ho) (by simpa using ha)
      refine ⟨d1, si, si1, by rw [e1]; cases o1.dst <;> exact h2.same.2, e2, fun t v hv => ?_⟩
      rcases e3 t v hv with ⟨j, o', a1, a2, a3, a4⟩ | ⟨a1, a2⟩
      · exact .inl ⟨j + 1, o', by omega, by simpa using a2, a3, by simpa using a4⟩
      · rcases lk_put h2 a1 with ⟨b1, rfl⟩ | ⟨b1, b2⟩
        · exact .inl ⟨0, o1, by omega, rfl, b1, rfl⟩
        · refine .inr ⟨b2, fun j o' hj hjo => ?_⟩
          cases j with
          | zero => simp at hjo; subst hjo; exact b1
          | succ j => exact a2 j o' (by omega) (by simpa using hjo)

/-! ### What the static look says -/

theorem edgeTo_iff {o : Oper} {i : Nat} (h : edgeTo o i = true) : ∃ e ∈ o.after, Region.binds .any e = true ∧ e.on = i := by
  unfold edgeTo at h
  rw [List.any_eq_true] at h
  obtain ⟨e, he, h2⟩ := h
  rw [Bool.and_eq_true] at h2
  exact ⟨e, by simpa using he, h2.1, Nat.eq_of_beq_eq_true h2.2⟩

theorem later_spec {all : Array Oper} {i : Nat} {o : Oper} : ∀ {os : List Oper}, laterOk all i o os = true → ∀ (j : Nat) (o' : Oper), os[j]? = some o' → pairOk all i o o' = true
  | [], _, j, o', h => by simp at h
  | o1 :: os, h, j, o', hj => by
    unfold laterOk at h
    rw [Bool.and_eq_true] at h
    cases j with
    | zero => simp at hj; subst hj; exact h.1
    | succ j => exact later_spec h.2 j o' (by simpa using hj)

theorem draw_spec {all : Array Oper} : ∀ {n : Nat} {os : List Oper}, drawFrom all n os = true → ∀ (i : Nat) (o : Oper), os[i]? = some o →
    (∀ e ∈ o.after, Region.binds .any e = true → e.on < n + i) ∧ ∀ (j : Nat) (o' : Oper), i < j → os[j]? = some o' → pairOk all (n + i) o o' = true
  | n, [], _, i, o, h => by simp at h
  | n, o1 :: os, h, i, o, hi => by
    unfold drawFrom at h
    rw [Bool.and_eq_true, Bool.and_eq_true] at h
    cases i with
    | zero =>
      simp at hi
      subst hi
      refine ⟨fun e he hb => ?_, fun j o' hj hjo => ?_⟩
      · have h1 := List.all_eq_true.1 h.1.1 e (by simpa using he)
        rw [hb] at h1
        simp at h1
        exact h1
      · obtain ⟨q, rfl⟩ : ∃ q, j = q + 1 := ⟨j - 1, by omega⟩
        exact later_spec h.1.2 q o' (by simpa using hjo)
    | succ i =>
      obtain ⟨h1, h2⟩ := draw_spec h.2 i o (by simpa using hi)
      refine ⟨fun e he hb => by have := h1 e he hb; omega, fun j o' hj hjo => ?_⟩
      obtain ⟨q, rfl⟩ : ∃ q, j = q + 1 := ⟨j - 1, by omega⟩
      have := h2 q o' (by omega) (by simpa using hjo)
      rwa [show n + 1 + i = n + (i + 1) from by omega] at this

theorem optIn_mem {d : Nat} {l : List Nat} (h : d ∈ l) : optIn (some d) l = true := memN_iff.2 h

theorem pair_spec {all : Array Oper} {i : Nat} {o o' : Oper} (h : pairOk all i o o' = true) :
    ((∃ e ∈ o'.after, Region.binds .any e = true ∧ e.on = i) ∨ ((∀ d, o.dst = some d → d ∉ o'.looksAt all) ∧ ∀ d, o'.dst = some d → d ∉ o.looksAt all)) ∧ ∀ d, o.dst = some d → o'.dst ≠ some d := by
  unfold pairOk at h
  rw [Bool.and_eq_true, Bool.or_eq_true, Bool.and_eq_true] at h
  refine ⟨?_, fun d hd hd' => ?_⟩
  · rcases h.1 with h1 | ⟨h1, h2⟩
    · exact .inl (edgeTo_iff h1)
    · refine .inr ⟨fun d hd hm => ?_, fun d hd hm => ?_⟩
      · rw [hd, optIn_mem hm] at h1; cases h1
      · rw [hd, optIn_mem hm] at h2; cases h2
  · rw [hd, hd'] at h
    simp [sameDst] at h

/-! ### Whatever order -/

/-- What holds on the way. -/
structure Inv (Pr : Nat → Prop) (w1 : World) (ρ cargs : List Value) (nt : Nat) (ops : Array Oper) (s : St) (avs : List AV) (listed : Array Bool) (a : Act) (w : World) : Prop where
  size : a.tmps.size = nt
  defers : a.defers = []
  same : Same w1 w
  lsize : listed.size = ops.size
  done : ∀ (j : Nat) (o : Oper) (av : AV) (t : Nat), ops.toList[j]? = some o → avs[j]? = some av → listed.getD j true = true → o.dst = some t → AVR w1 Pr ρ cargs av (a.tmps.getD t undef)
  still : ∀ (t : Nat) (v : AV), lk s.sl t = some v → (∀ (j : Nat) (o : Oper), ops.toList[j]? = some o → o.dst = some t → listed.getD j true = false) → AVR w1 Pr ρ cargs v (a.tmps.getD t undef)
  down : ∀ (j : Nat) (o : Oper), ops.toList[j]? = some o → listed.getD j true = true → ∀ e ∈ o.after, Region.binds .any e = true → listed.getD e.on true = true

theorem AVR.back {w w' : World} {ρ : List Value} {x : AV} {v : Value} (h : AVR w' Pr ρ cargs x v) (hs : Same w w') (hp : ∀ k, Pr k → k < w.heap.size) : AVR w Pr ρ cargs x v :=
  h.keep (fun k hk => (hs.block k (hp k hk)).symm) (fun _ _ h => h)

theorem getD_listed {l : Array Bool} {i j : Nat} (hi : i < l.size) : (l.setIfInBounds i true).getD j true = if i = j then true else l.getD j true := by
  simp only [Array.getD_eq_getD_getElem?, Array.getElem?_setIfInBounds]
  by_cases e : i = j
  · subst e; simp [hi]
  · simp [e]

theorem getD_false {l : Array Bool} {j : Nat} (h : l.getD j false = true) : l.getD j true = true := by
  rcases Nat.lt_or_ge j l.size with hl | hl
  · simp [Array.getD, hl] at h ⊢; exact h
  · simp [Array.getD, Nat.not_lt.2 hl]

/-- **ONE OPERATION, WHENEVER IT COMES UP.** -/
theorem inv_step {ops : Array Oper} (hdraw : drawOk ops = true) {s s' : St} {avs : List AV} (hpath : Path P ops.toList nt ops.toList s avs s') {w1 : World} {ρ : List Value} (hp : ∀ k, Pr k → k < w1.heap.size) (hH : HR w1 Pr ρ s.H)
    {listed : Array Bool} {a : Act} {w : World} (hinv : Inv Pr w1 ρ cargs nt ops s avs listed a w) {i : Nat} (hr : i ∈ Region.ready .any ops listed) {Q : Exit → Act → World → Prop} {K : Act → World → Prop}
    (hK : ∀ a' w', Inv Pr w1 ρ cargs nt ops s avs (listed.setIfInBounds i true) a' w' → K a' w') : wpOp P ops Q i K a w := by
  obtain ⟨hun, o, ho, hall⟩ := mem_ready.1 hr
  have ho' : ops.toList[i]? = some o := by rw [← ho]; simp
  have hil : i < ops.toList.length := by
    rcases Nat.lt_or_ge i ops.toList.length with h' | h'
    · exact h'
    · rw [List.getElem?_eq_none h'] at ho'; cases ho'
  obtain ⟨av, hav⟩ : ∃ av, avs[i]? = some av := ⟨_, List.getElem?_eq_getElem (by rw [hpath.len]; exact hil)⟩
  obtain ⟨hdst, si, s1, hsH, hstep, hslots⟩ := hpath.at ho' hav
  have hp' : ∀ k, Pr k → k < w.heap.size := fun k hk => Nat.lt_of_lt_of_le (hp k hk) hinv.same.size
  have spec := draw_spec (all := ops) (n := 0) hdraw
  simp only [Nat.zero_add] at spec
  have hil' : i < listed.size := by rw [hinv.lsize]; simpa using hil
  -- what it looks at reads as the machine has it
  have hlook : ∀ t, t ∈ o.looksAt ops → ∀ v, lk si.sl t = some v → AVR w Pr ρ cargs v (a.tmps.getD t undef) := by
    intro t ht v hv
    refine AVR.same (w := w1) ?_ hinv.same hp
    rcases hslots t v hv with ⟨j, o', h1, h2, h3, h4⟩ | ⟨h1, h2⟩
    · -- it was written by an operation ahead: that one is listed
      have hpr := ((spec j o' h2).2 i o h1 ho')
      rcases (pair_spec hpr).1 with ⟨e, he, hb, hon⟩ | ⟨hno, _⟩
      · refine hinv.done j o' v t h2 h4 ?_ h3
        have := hall e he hb
        rw [hon] at this
        exact getD_false this
      · exact absurd ht (hno t h3)
    · refine hinv.still t v h1 fun j o' hj hd => ?_
      rcases Nat.lt_trichotomy j i with hlt | heq | hgt
      · exact absurd hd (h2 j o' hlt hj)
      · subst heq; exact hun
      · -- it comes later: it waits for this one
        cases hl : listed.getD j true with
        | false => rfl
        | true =>
          have hpr := (spec i o ho').2 j o' hgt hj
          rcases (pair_spec hpr).1 with ⟨e, he, hb, hon⟩ | ⟨_, hno⟩
          · have := hinv.down j o' hj hl e he hb
            rw [hon, hun] at this
            cases this
          · exact absurd ht (hno t hd)
  -- behind it
  have hnext : ∀ (v : Value) (w' : World), AVR w Pr ρ cargs av v → Same w w' → K (a.put o.dst v) w' := by
    intro v w' hv hs
    have hv1 : AVR w1 Pr ρ cargs av v := hv.back hinv.same hp
    refine hK _ _ ?_
    have hgd : ∀ (t : Nat), (a.put o.dst v).tmps.getD t undef = if o.dst = some t then v else a.tmps.getD t undef := by
      intro t
      cases hd : o.dst with
      | none => simp [Act.put]
      | some d =>
        have hlt : d < a.tmps.size := by rw [hinv.size]; rw [hd] at hdst; exact of_decide_eq_true hdst
        simp only [Act.put]
        rw [getD_set _ _ _ _ hlt]
        simp
    refine ⟨?_, ?_, hinv.same.trans hs, by simp [hinv.lsize], fun j o' av' t hj ha hl hd => ?_, fun t u hu hno => ?_, fun j o' hj hl e he hb => ?_⟩
    · cases o.dst <;> simp [Act.put, hinv.size]
    · cases o.dst <;> exact hinv.defers
    · rw [hgd t]
      by_cases e : i = j
      · subst e
        rw [ho'] at hj
        cases hj
        rw [hav] at ha
        cases ha
        rw [if_pos hd]
        exact hv1
      · rw [getD_listed hil', if_neg e] at hl
        have hne : o.dst ≠ some t := by
          rcases Nat.lt_or_gt_of_ne e with h | h
          · intro h2; exact (pair_spec ((spec i o ho').2 j o' h hj)).2 t h2 hd
          · exact (pair_spec ((spec j o' hj).2 i o h ho')).2 t hd
        rw [if_neg hne]
        exact hinv.done j o' av' t hj ha hl hd
    · rw [hgd t]
      have hne : o.dst ≠ some t := by
        intro h2
        have := hno i o ho' h2
        rw [getD_listed hil', if_pos rfl] at this
        cases this
      rw [if_neg hne]
      refine hinv.still t u hu fun j o' hj hd => ?_
      have := hno j o' hj hd
      rw [getD_listed hil'] at this
      split at this
      · cases this
      · exact this
    · rw [getD_listed hil'] at hl ⊢
      split
      · rfl
      · by_cases e2 : i = j
        · subst e2
          rw [ho'] at hj
          cases hj
          exact getD_false (hall e he hb)
        · rw [if_neg e2] at hl
          exact hinv.down j o' hj hl e he hb
  unfold wpOp
  rw [ho]
  dsimp only
  have hmem : ∀ d, optIn (some d) (o.looksAt ops) = true → d ∈ o.looksAt ops := fun d h => memN_iff.1 h
  rcases hstep with ⟨hg, hq⟩ | ⟨hg, rfl⟩
  · rw [if_pos (hg.wanted (w := w) (Pr := Pr) (ρ := ρ) (cargs := cargs) fun d hd v hv => hlook d (hmem d hd) v hv)]
    refine .inl ((hq a w Pr ρ cargs hp' ?_ (Opd.of_slots fun t ht v hv => ?_)).wp fun v w' ⟨h1, h2⟩ => hnext v w' h1 h2)
    · rw [hg.same.2, hsH]
      exact hH.keep hinv.same.block
    · refine hlook t ?_ v (by rw [← hg.same.1 t]; exact hv)
      unfold Oper.looksAt
      refine List.mem_append_left _ (List.mem_filterMap.2 ⟨.tmp t, by simpa using ht, rfl⟩)
  · rw [if_neg (by rw [hg.wanted (w := w) (Pr := Pr) (ρ := ρ) (cargs := cargs) fun d hd v hv => hlook d (hmem d hd) v hv]; exact Bool.false_ne_true)]
    exact hnext undef w rfl (Same.refl w)

/-- The operations that are still to come. -/
theorem inv_any {ops : Array Oper} (hdraw : drawOk ops = true) {s s' : St} {avs : List AV} (hpath : Path P ops.toList nt ops.toList s avs s') {w1 : World} {ρ : List Value} (hp : ∀ k, Pr k → k < w1.heap.size) (hH : HR w1 Pr ρ s.H)
    {Q : Exit → Act → World → Prop} (hQ : ∀ (listed : Array Bool) (a : Act) (w : World), Inv Pr w1 ρ cargs nt ops s avs listed a w → (∀ i, i < ops.size → listed.getD i true = true) → Q .normal a w) :
    ∀ (fuel : Nat) (left : List Nat) (listed : Array Bool) (a : Act) (w : World), left.length = fuel → left.Nodup → (∀ i, i ∈ left ↔ i < ops.size ∧ listed.getD i true = false) → Inv Pr w1 ρ cargs nt ops s avs listed a w → wpAny P .any ops Q fuel listed a w := by
  intro fuel
  induction fuel with
  | zero =>
    intro left listed a w hl hn hleft hinv
    have hnil : left = [] := List.eq_nil_of_length_eq_zero hl
    subst hnil
    have hall : ∀ i, i < ops.size → listed.getD i true = true := by
      intro i hi
      cases hb : listed.getD i true with
      | true => rfl
      | false => exact absurd ((hleft i).2 ⟨hi, hb⟩) (by simp)
    refine ⟨?_, hQ listed a w hinv hall⟩
    apply List.eq_nil_iff_forall_not_mem.2
    intro i hi
    obtain ⟨h1, o, ho, _⟩ := mem_ready.1 hi
    have : i < ops.size := by
      rcases Nat.lt_or_ge i ops.size with h' | h'
      · exact h'
      · rw [Array.getElem?_eq_none h'] at ho; cases ho
    rw [hall i this] at h1
    cases h1
  | succ fuel ih =>
    intro left listed a w hl hn hleft hinv
    refine ⟨fun hempty => ?_, fun i hi => ?_⟩
    · -- the first that is not listed is ready
      exfalso
      have hex : ∃ i, i ∈ left := by
        cases left with
        | nil => simp at hl
        | cons i l => exact ⟨i, by simp⟩
      obtain ⟨i0, hi0⟩ := hex
      have hmin : ∃ i, i ∈ left ∧ ∀ j, j < i → j ∉ left := by
        have key : ∀ n i, i ≤ n → i ∈ left → ∃ i, i ∈ left ∧ ∀ j, j < i → j ∉ left := by
          intro n
          induction n with
          | zero => intro i hi him; exact ⟨i, him, fun j hj => by omega⟩
          | succ n ihn =>
            intro i hi him
            by_cases h : ∃ j, j < i ∧ j ∈ left
            · obtain ⟨j, hj, hjm⟩ := h
              exact ihn j (by omega) hjm
            · exact ⟨i, him, fun j hj hjm => h ⟨j, hj, hjm⟩⟩
        exact key i0 i0 (Nat.le_refl _) hi0
      obtain ⟨i, him, hmini⟩ := hmin
      obtain ⟨hlt, hun⟩ := (hleft i).1 him
      obtain ⟨o, ho⟩ : ∃ o, ops[i]? = some o := ⟨_, Array.getElem?_eq_getElem hlt⟩
      have ho' : ops.toList[i]? = some o := by rw [← ho]; simp
      have hready : i ∈ Region.ready .any ops listed := by
        refine mem_ready.2 ⟨hun, o, ho, fun e he hb => ?_⟩
        have hon := (draw_spec (all := ops) (n := 0) hdraw i o ho').1 e he hb
        simp only [Nat.zero_add] at hon
        have hnl : e.on ∉ left := hmini _ hon
        have hlt2 : e.on < ops.size := by omega
        have htrue : listed.getD e.on true = true := by
          cases hb2 : listed.getD e.on true with
          | true => rfl
          | false => exact absurd ((hleft _).2 ⟨hlt2, hb2⟩) hnl
        have hls : e.on < listed.size := by rw [hinv.lsize]; exact hlt2
        simp [Array.getD, hls] at htrue ⊢
        exact htrue
      rw [hempty] at hready
      cases hready
    · obtain ⟨h1, o, ho, _⟩ := mem_ready.1 hi
      have hlt : i < ops.size := by
        rcases Nat.lt_or_ge i ops.size with h' | h'
        · exact h'
        · rw [Array.getElem?_eq_none h'] at ho; cases ho
      have him : i ∈ left := (hleft i).2 ⟨hlt, h1⟩
      refine inv_step hdraw hpath hp hH hinv hi fun a' w' hinv' => ih (left.erase i) _ a' w' ?_ (hn.erase i) (fun j => ?_) hinv'
      · rw [List.length_erase_of_mem him, hl]; rfl
      · rw [hn.mem_erase_iff, hleft j, getD_listed (by rw [hinv.lsize]; exact hlt)]
        constructor
        · rintro ⟨hne, h2, h3⟩; exact ⟨h2, by rw [if_neg (Ne.symm hne)]; exact h3⟩
        · rintro ⟨h2, h3⟩
          split at h3
          · cases h3
          · rename_i e; exact ⟨Ne.symm e, h2, h3⟩

/-- **A REGION IN WHATEVER ORDER.** -/
theorem drawn_ok (hT : TOK P T) (hp : ∀ k, Pr k → k < w0.heap.size) {ops : Array Oper} {Q : Exit → Act → World → Prop} {out : Out} {k : St → R} {id : Nat} {s : St} {a : Act} {w : World} {ρ : List Value}
    (hdraw : drawOk ops = true) (h : opsK T true nt ops.toList ops.toList s k = some out) (hs : SR Pr w0 cargs nt s a w ρ) (nf : Nat) (hQ : ∀ s' a' w' ρ', k s' = some out → SR Pr w0 cargs nt s' a' w' ρ' → Ext nf ρ ρ' → Q .normal a' w') : (Code.region id ops true).wp P Q a w := by
  obtain ⟨avs, s', hpath, hk⟩ := opsK_path hT _ _ h
  refine wp_region_any hT.mo ?_
  have hsame : Same w { w with drawn := w.drawn + 1 } := Same.drew w
  have hpw : ∀ k, Pr k → k < ({ w with drawn := w.drawn + 1 } : World).heap.size := hs.lt hp
  have hH : HR ({ w with drawn := w.drawn + 1 } : World) Pr ρ s.H := hs.heap.keep hsame.block
  refine inv_any (cargs := cargs) hdraw hpath hpw hH ?_ ops.size (List.range ops.size) _ a _ (by simp) List.nodup_range ?_ ?_
  · intro listed a' w' hinv hall
    refine hQ s' a' w' ρ hk ?_ (Ext.refl _ _)
    refine ⟨hinv.size, hinv.defers, fun t v hv => ?_, ?_, hs.keep.trans (Keep.of_below (hsame.trans hinv.same) (hs.lt hp))⟩
    · refine AVR.same (w := { w with drawn := w.drawn + 1 }) ?_ hinv.same hpw
      rcases hpath.final hv with ⟨j, o, h1, h2, h3⟩ | ⟨h1, h2⟩
      · refine hinv.done j o v t h1 h3 (hall j ?_) h2
        have : j < ops.toList.length := by
          rcases Nat.lt_or_ge j ops.toList.length with h' | h'
          · exact h'
          · rw [List.getElem?_eq_none h'] at h1; cases h1
        simpa using this
      · exact hinv.still t v h1 fun j o hj hd => absurd hd (h2 j o hj)
    · rw [hpath.heap]
      exact hH.keep hinv.same.block
  · intro i
    rw [List.mem_range]
    constructor
    · intro hi; exact ⟨hi, by simp [Array.getD, hi]⟩
    · exact fun h => h.1
  · refine ⟨hs.size, hs.defers, Same.refl _, by simp, fun j o av t hj ha hl hd => ?_, fun t v hv _ => (hs.slots t v hv).same hsame (hs.lt hp), fun j o hj hl => ?_⟩
    · have hlt : j < ops.size := by
        rcases Nat.lt_or_ge j ops.toList.length with h' | h'
        · simpa using h'
        · rw [List.getElem?_eq_none h'] at hj; cases hj
      simp [Array.getD, hlt] at hl
    · have hlt : j < ops.size := by
        rcases Nat.lt_or_ge j ops.toList.length with h' | h'
        · simpa using h'
        · rw [List.getElem?_eq_none h'] at hj; cases hj
      simp [Array.getD, hlt] at hl

end
end Go.Sm
