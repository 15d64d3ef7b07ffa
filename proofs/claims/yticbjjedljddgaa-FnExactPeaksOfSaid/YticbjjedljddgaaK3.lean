/- A machine on plain data, its laws: part 3. -/
import Derived.Test.YticbjjedljddgaaK2
namespace Go.Sm
open Go Go.RowKit
section
variable {P : Program} {T : TT} {Pr : Nat → Prop} {w0 : World} {cargs : List Value} {nt : Nat}
inductive Path (P : Program) (all : List Oper) (nt : Nat) : List Oper → St → List AV → St → Prop
  | nil (s : St) : Path P all nt [] s [] s
  | yes (o : Oper) (os : List Oper) (s s1 s' : St) (av : AV) (avs : List AV) : dstOk nt o.dst = true → Guard all o.guard s true s1 → Quiet P o s1 av → Path P all nt os (putS s1 o.dst av s1.H) avs s' → Path P all nt (o :: os) s (av :: avs) s'
  | no (o : Oper) (os : List Oper) (s s1 s' : St) (avs : List AV) : dstOk nt o.dst = true → Guard all o.guard s false s1 → Path P all nt os (putS s1 o.dst .un s1.H) avs s' → Path P all nt (o :: os) s (.un :: avs) s'
theorem opsK_path (hT : TOK P T) {all : List Oper} {out : Out} {k : St → R} : ∀ (os : List Oper) (s : St), opsK T true nt all os s k = some out → ∃ avs s', Path P all nt os s avs s' ∧ k s' = some out
  | [], s, h => ⟨[], s, .nil s, h⟩
  | o :: os, s, h => by
    unfold opsK at h
    cases hd : dstOk nt o.dst with
    | false => rw [hd] at h; cases h
    | true =>
      rw [hd] at h
      simp only [cond_true] at h
      obtain ⟨b, s1, hg, h1⟩ := guardK_ok h
      cases b with
      | true =>
        simp only [if_true] at h1
        obtain ⟨av, hk, hq⟩ := opK_quiet hT h1
        obtain ⟨avs, s', hp, hk'⟩ := opsK_path hT os _ hk
        exact ⟨av :: avs, s', .yes o os s s1 s' av avs hd hg hq hp, hk'⟩
      | false =>
        simp only [Bool.false_eq_true, if_false] at h1
        obtain ⟨avs, s', hp, hk'⟩ := opsK_path hT os _ h1
        have hH := hg.same.2
        exact ⟨.un :: avs, s', .no o os s s1 s' avs hd hg hp, hk'⟩
theorem Path.heap {all os : List Oper} {s s' : St} {avs : List AV} (h : Path P all nt os s avs s') : s'.H = s.H := by
  induction h with
  | nil s => rfl
  | yes o os s s1 s' av avs h1 h2 h3 h4 ih => rw [ih]; cases o.dst <;> exact h2.same.2
  | no o os s s1 s' avs h1 h2 h4 ih => rw [ih]; cases o.dst <;> exact h2.same.2
theorem lk_put {s s1 : St} {all : List Oper} {g : Option (Nat × Bool)} {b : Bool} (hg : Guard all g s b s1) {dst : Option Nat} {av : AV} {H : Hp} {t : Nat} {v : AV} (h : lk (putS s1 dst av H).sl t = some v) :
    (dst = some t ∧ v = av) ∨ (dst ≠ some t ∧ lk s.sl t = some v) := by
  cases dst with
  | none => exact .inr ⟨by simp, by rw [← hg.same.1 t]; exact h⟩
  | some d =>
    simp only [putS] at h
    rw [lk_cons] at h
    split at h
    · rename_i e; cases h; exact .inl ⟨by rw [e], rfl⟩
    · rename_i e; exact .inr ⟨fun h => e (by cases h; rfl), by rw [← hg.same.1 t]; exact h⟩
theorem Path.len {all os : List Oper} {s s' : St} {avs : List AV} (h : Path P all nt os s avs s') : avs.length = os.length := by
  induction h with
  | nil s => rfl
  | yes o os s s1 s' av avs h1 h2 h3 h4 ih => simp [ih]
  | no o os s s1 s' avs h1 h2 h4 ih => simp [ih]
theorem Path.final {all os : List Oper} {s s' : St} {avs : List AV} (h : Path P all nt os s avs s') {t : Nat} {v : AV} (hv : lk s'.sl t = some v) :
    (∃ (j : Nat) (o : Oper), os[j]? = some o ∧ o.dst = some t ∧ avs[j]? = some v) ∨ (lk s.sl t = some v ∧ ∀ (j : Nat) (o : Oper), os[j]? = some o → o.dst ≠ some t) := by
  induction h with
  | nil s => exact .inr ⟨hv, fun j o h => by simp at h⟩
  | yes o os s s1 s' av avs h1 h2 h3 h4 ih =>
    rcases ih hv with ⟨j, o', a1, a2, a3⟩ | ⟨a1, a2⟩
    · exact .inl ⟨j + 1, o', by simpa using a1, a2, by simpa using a3⟩
    · rcases lk_put h2 a1 with ⟨b1, rfl⟩ | ⟨b1, b2⟩
      · exact .inl ⟨0, o, rfl, b1, rfl⟩
      · refine .inr ⟨b2, fun j o' hj => ?_⟩
        cases j with
        | zero => simp at hj; subst hj; exact b1
        | succ j => exact a2 j o' (by simpa using hj)
  | no o os s s1 s' avs h1 h2 h4 ih =>
    rcases ih hv with ⟨j, o', a1, a2, a3⟩ | ⟨a1, a2⟩
    · exact .inl ⟨j + 1, o', by simpa using a1, a2, by simpa using a3⟩
    · rcases lk_put h2 a1 with ⟨b1, rfl⟩ | ⟨b1, b2⟩
      · exact .inl ⟨0, o, rfl, b1, rfl⟩
      · refine .inr ⟨b2, fun j o' hj => ?_⟩
        cases j with
        | zero => simp at hj; subst hj; exact b1
        | succ j => exact a2 j o' (by simpa using hj)
structure At (P : Program) (all : List Oper) (nt : Nat) (os : List Oper) (s : St) (avs : List AV) (i : Nat) (o : Oper) (av : AV) : Prop where
  dst : dstOk nt o.dst = true
  step : ∃ (si s1 : St), si.H = s.H ∧ ((Guard all o.guard si true s1 ∧ Quiet P o s1 av) ∨ (Guard all o.guard si false s1 ∧ av = .un)) ∧
    ∀ (t : Nat) (v : AV), lk si.sl t = some v → (∃ (j : Nat) (o' : Oper), j < i ∧ os[j]? = some o' ∧ o'.dst = some t ∧ avs[j]? = some v) ∨
      (lk s.sl t = some v ∧ ∀ (j : Nat) (o' : Oper), j < i → os[j]? = some o' → o'.dst ≠ some t)
theorem Path.at {all os : List Oper} {s s' : St} {avs : List AV} (h : Path P all nt os s avs s') {i : Nat} {o : Oper} {av : AV} (ho : os[i]? = some o) (ha : avs[i]? = some av) : At P all nt os s avs i o av := by
  induction h generalizing i with
  | nil s => simp at ho
  | yes o1 os s s1 s' av1 avs h1 h2 h3 h4 ih =>
    cases i with
    | zero =>
      simp at ho ha
      subst ho ha
      exact ⟨h1, s, s1, rfl, .inl ⟨h2, h3⟩, fun t v hv => .inr ⟨hv, fun j o' hj => by omega⟩⟩
    | succ i =>
      obtain ⟨d1, si, si1, e1, e2, e3⟩ := ih (by simpa using ho) (by simpa using ha)
      refine ⟨d1, si, si1, by rw [e1]; cases o1.dst <;> exact h2.same.2, e2, fun t v hv => ?_⟩
      rcases e3 t v hv with ⟨j, o', a1, a2, a3, a4⟩ | ⟨a1, a2⟩
      · exact .inl ⟨j + 1, o', by omega, by simpa using a2, a3, by simpa using a4⟩
      · rcases lk_put h2 a1 with ⟨b1, rfl⟩ | ⟨b1, b2⟩
        · exact .inl ⟨0, o1, by omega, rfl, b1, rfl⟩
        · refine .inr ⟨b2, fun j o' hj hjo => ?_⟩
          cases j with
          | zero => simp at hjo; subst hjo; exact b1
          | succ j => exact a2 j o' (by omega) (by simpa using hjo)
  | no o1 os s s1 s' avs h1 h2 h4 ih =>
    cases i with
    | zero =>
      simp at ho ha
      subst ho ha
      exact ⟨h1, s, s1, rfl, .inr ⟨h2, rfl⟩, fun t v hv => .inr ⟨hv, fun j o' hj => by omega⟩⟩
    | succ i =>
      obtain ⟨d1, si, si1, e1, e2, e3⟩ := ih (by simpa using ho) (by simpa using ha)
      refine ⟨d1, si, si1, by rw [e1]; cases o1.dst <;> exact h2.same.2, e2, fun t v hv => ?_⟩
      rcases e3 t v hv with ⟨j, o', a1, a2, a3, a4⟩ | ⟨a1, a2⟩
      · exact .inl ⟨j + 1, o', by omega, by simpa using a2, a3, by simpa using a4⟩
      · rcases lk_put h2 a1 with ⟨b1, rfl⟩ | ⟨b1, b2⟩
        · exact .inl ⟨0, o1, by omega, rfl, b1, rfl⟩
        · refine .inr ⟨b2, fun j o' hj hjo => ?_⟩
          cases j with
          | zero => simp at hjo; subst hjo; exact b1
          | succ j => exact a2 j o' (by omega) (by simpa using hjo)
theorem edgeTo_iff {o : Oper} {i : Nat} (h : edgeTo o i = true) : ∃ e ∈ o.after, Region.binds .any e = true ∧ e.on = i := by
  unfold edgeTo at h
  rw [List.any_eq_true] at h
  obtain ⟨e, he, h2⟩ := h
  rw [Bool.and_eq_true] at h2
  exact ⟨e, by simpa using he, h2.1, Nat.eq_of_beq_eq_true h2.2⟩
theorem later_spec {all : Array Oper} {i : Nat} {o : Oper} : ∀ {os : List Oper}, laterOk all i o os = true → ∀ (j : Nat) (o' : Oper), os[j]? = some o' → pairOk all i o o' = true
  | [], _, j, o', h => by simp at h
  | o1 :: os, h, j, o', hj => by
    unfold laterOk at h
    rw [Bool.and_eq_true] at h
    cases j with
    | zero => simp at hj; subst hj; exact h.1
    | succ j => exact later_spec h.2 j o' (by simpa using hj)
theorem draw_spec {all : Array Oper} : ∀ {n : Nat} {os : List Oper}, drawFrom all n os = true → ∀ (i : Nat) (o : Oper), os[i]? = some o →
    (∀ e ∈ o.after, Region.binds .any e = true → e.on < n + i) ∧ ∀ (j : Nat) (o' : Oper), i < j → os[j]? = some o' → pairOk all (n + i) o o' = true
  | n, [], _, i, o, h => by simp at h
  | n, o1 :: os, h, i, o, hi => by
    unfold drawFrom at h
    rw [Bool.and_eq_true, Bool.and_eq_true] at h
    cases i with
    | zero =>
      simp at hi
      subst hi
      refine ⟨fun e he hb => ?_, fun j o' hj hjo => ?_⟩
      · have h1 := List.all_eq_true.1 h.1.1 e (by simpa using he)
        rw [hb] at h1
        simp at h1
        exact h1
      · obtain ⟨q, rfl⟩ : ∃ q, j = q + 1 := ⟨j - 1, by omega⟩
        exact later_spec h.1.2 q o' (by simpa using hjo)
    | succ i =>
      obtain ⟨h1, h2⟩ := draw_spec h.2 i o (by simpa using hi)
      refine ⟨fun e he hb => by have := h1 e he hb; omega, fun j o' hj hjo => ?_⟩
      obtain ⟨q, rfl⟩ : ∃ q, j = q + 1 := ⟨j - 1, by omega⟩
      have := h2 q o' (by omega) (by simpa using hjo)
      rwa [show n + 1 + i = n + (i + 1) from by omega] at this
theorem optIn_mem {d : Nat} {l : List Nat} (h : d ∈ l) : optIn (some d) l = true := memN_iff.2 h
theorem pair_spec {all : Array Oper} {i : Nat} {o o' : Oper} (h : pairOk all i o o' = true) :
    ((∃ e ∈ o'.after, Region.binds .any e = true ∧ e.on = i) ∨ ((∀ d, o.dst = some d → d ∉ o'.looksAt all) ∧ ∀ d, o'.dst = some d → d ∉ o.looksAt all)) ∧ ∀ d, o.dst = some d → o'.dst ≠ some d := by
  unfold pairOk at h
  rw [Bool.and_eq_true, Bool.or_eq_true, Bool.and_eq_true] at h
  refine ⟨?_, fun d hd hd' => ?_⟩
  · rcases h.1 with h1 | ⟨h1, h2⟩
    · exact .inl (edgeTo_iff h1)
    · refine .inr ⟨fun d hd hm => ?_, fun d hd hm => ?_⟩
      · rw [hd, optIn_mem hm] at h1; cases h1
      · rw [hd, optIn_mem hm] at h2; cases h2
  · rw [hd, hd'] at h
    simp [sameDst] at h
structure Inv (Pr : Nat → Prop) (w1 : World) (ρ cargs : List Value) (nt : Nat) (ops : Array Oper) (s : St) (avs : List AV) (listed : Array Bool) (a : Act) (w : World) : Prop where
  size : a.tmps.size = nt
  defers : a.defers = []
  same : Same w1 w
  lsize : listed.size = ops.size
  done : ∀ (j : Nat) (o : Oper) (av : AV) (t : Nat), ops.toList[j]? = some o → avs[j]? = some av → listed.getD j true = true → o.dst = some t → AVR w1 Pr ρ cargs av (a.tmps.getD t undef)
  still : ∀ (t : Nat) (v : AV), lk s.sl t = some v → (∀ (j : Nat) (o : Oper), ops.toList[j]? = some o → o.dst = some t → listed.getD j true = false) → AVR w1 Pr ρ cargs v (a.tmps.getD t undef)
  down : ∀ (j : Nat) (o : Oper), ops.toList[j]? = some o → listed.getD j true = true → ∀ e ∈ o.after, Region.binds .any e = true → listed.getD e.on true = true
theorem AVR.back {w w' : World} {ρ : List Value} {x : AV} {v : Value} (h : AVR w' Pr ρ cargs x v) (hs : Same w w') (hp : ∀ k, Pr k → k < w.heap.size) : AVR w Pr ρ cargs x v :=
  h.keep (fun k hk => (hs.block k (hp k hk)).symm) (fun _ _ h => h)
theorem getD_listed {l : Array Bool} {i j : Nat} (hi : i < l.size) : (l.setIfInBounds i true).getD j true = if i = j then true else l.getD j true := by
  simp only [Array.getD_eq_getD_getElem?, Array.getElem?_setIfInBounds]
  by_cases e : i = j
  · subst e; simp [hi]
  · simp [e]
theorem getD_false {l : Array Bool} {j : Nat} (h : l.getD j false = true) : l.getD j true = true := by
  rcases Nat.lt_or_ge j l.size with hl | hl
  · simp [Array.getD, hl] at h ⊢; exact h
  · simp [Array.getD, Nat.not_lt.2 hl]
theorem inv_step {ops : Array Oper} (hdraw : drawOk ops = true) {s s' : St} {avs : List AV} (hpath : Path P ops.toList nt ops.toList s avs s') {w1 : World} {ρ : List Value} (hp : ∀ k, Pr k → k < w1.heap.size) (hH : HR w1 Pr ρ s.H)
    {listed : Array Bool} {a : Act} {w : World} (hinv : Inv Pr w1 ρ cargs nt ops s avs listed a w) {i : Nat} (hr : i ∈ Region.ready .any ops listed) {Q : Exit → Act → World → Prop} {K : Act → World → Prop}
    (hK : ∀ a' w', Inv Pr w1 ρ cargs nt ops s avs (listed.setIfInBounds i true) a' w' → K a' w') : wpOp P ops Q i K a w := by
  obtain ⟨hun, o, ho, hall⟩ := mem_ready.1 hr
  have ho' : ops.toList[i]? = some o := by rw [← ho]; simp
  have hil : i < ops.toList.length := by
    rcases Nat.lt_or_ge i ops.toList.length with h' | h'
    · exact h'
    · rw [List.getElem?_eq_none h'] at ho'; cases ho'
  obtain ⟨av, hav⟩ : ∃ av, avs[i]? = some av := ⟨_, List.getElem?_eq_getElem (by rw [hpath.len]; exact hil)⟩
  obtain ⟨hdst, si, s1, hsH, hstep, hslots⟩ := hpath.at ho' hav
  have hp' : ∀ k, Pr k → k < w.heap.size := fun k hk => Nat.lt_of_lt_of_le (hp k hk) hinv.same.size
  have spec := draw_spec (all := ops) (n := 0) hdraw
  simp only [Nat.zero_add] at spec
  have hil' : i < listed.size := by rw [hinv.lsize]; simpa using hil
  have hlook : ∀ t, t ∈ o.looksAt ops → ∀ v, lk si.sl t = some v → AVR w Pr ρ cargs v (a.tmps.getD t undef) := by
    intro t ht v hv
    refine AVR.same (w := w1) ?_ hinv.same hp
    rcases hslots t v hv with ⟨j, o', h1, h2, h3, h4⟩ | ⟨h1, h2⟩
    · -- it was written by an operation ahead: that one is listed
      have hpr := ((spec j o' h2).2 i o h1 ho')
      rcases (pair_spec hpr).1 with ⟨e, he, hb, hon⟩ | ⟨hno, _⟩
      · refine hinv.done j o' v t h2 h4 ?_ h3
        have := hall e he hb
        rw [hon] at this
        exact getD_false this
      · exact absurd ht (hno t h3)
    · refine hinv.still t v h1 fun j o' hj hd => ?_
      rcases Nat.lt_trichotomy j i with hlt | heq | hgt
      · exact absurd hd (h2 j o' hlt hj)
      · subst heq; exact hun
      · -- it comes later: it waits for this one
        cases hl : listed.getD j true with
        | false => rfl
        | true =>
          have hpr := (spec i o ho').2 j o' hgt hj
          rcases (pair_spec hpr).1 with ⟨e, he, hb, hon⟩ | ⟨_, hno⟩
          · have := hinv.down j o' hj hl e he hb
            rw [hon, hun] at this
            cases this
          · exact absurd ht (hno t hd)
  have hnext : ∀ (v : Value) (w' : World), AVR w Pr ρ cargs av v → Same w w' → K (a.put o.dst v) w' := by
    intro v w' hv hs
    have hv1 : AVR w1 Pr ρ cargs av v := hv.back hinv.same hp
    refine hK _ _ ?_
    have hgd : ∀ (t : Nat), (a.put o.dst v).tmps.getD t undef = if o.dst = some t then v else a.tmps.getD t undef := by
      intro t
      cases hd : o.dst with
      | none => simp [Act.put]
      | some d =>
        have hlt : d < a.tmps.size := by rw [hinv.size]; rw [hd] at hdst; exact of_decide_eq_true hdst
        simp only [Act.put]
        rw [getD_set _ _ _ _ hlt]
        simp
    refine ⟨?_, ?_, hinv.same.trans hs, by simp [hinv.lsize], fun j o' av' t hj ha hl hd => ?_, fun t u hu hno => ?_, fun j o' hj hl e he hb => ?_⟩
    · cases o.dst <;> simp [Act.put, hinv.size]
    · cases o.dst <;> exact hinv.defers
    · rw [hgd t]
      by_cases e : i = j
      · subst e
        rw [ho'] at hj
        cases hj
        rw [hav] at ha
        cases ha
        rw [if_pos hd]
        exact hv1
      · rw [getD_listed hil', if_neg e] at hl
        have hne : o.dst ≠ some t := by
          rcases Nat.lt_or_gt_of_ne e with h | h
          · intro h2; exact (pair_spec ((spec i o ho').2 j o' h hj)).2 t h2 hd
          · exact (pair_spec ((spec j o' hj).2 i o h ho')).2 t hd
        rw [if_neg hne]
        exact hinv.done j o' av' t hj ha hl hd
    · rw [hgd t]
      have hne : o.dst ≠ some t := by
        intro h2
        have := hno i o ho' h2
        rw [getD_listed hil', if_pos rfl] at this
        cases this
      rw [if_neg hne]
      refine hinv.still t u hu fun j o' hj hd => ?_
      have := hno j o' hj hd
      rw [getD_listed hil'] at this
      split at this
      · cases this
      · exact this
    · rw [getD_listed hil'] at hl ⊢
      split
      · rfl
      · by_cases e2 : i = j
        · subst e2
          rw [ho'] at hj
          cases hj
          exact getD_false (hall e he hb)
        · rw [if_neg e2] at hl
          exact hinv.down j o' hj hl e he hb
  unfold wpOp
  rw [ho]
  dsimp only
  have hmem : ∀ d, optIn (some d) (o.looksAt ops) = true → d ∈ o.looksAt ops := fun d h => memN_iff.1 h
  rcases hstep with ⟨hg, hq⟩ | ⟨hg, rfl⟩
  · rw [if_pos (hg.wanted (w := w) (Pr := Pr) (ρ := ρ) (cargs := cargs) fun d hd v hv => hlook d (hmem d hd) v hv)]
    refine .inl ((hq a w Pr ρ cargs hp' ?_ (Opd.of_slots fun t ht v hv => ?_)).wp fun v w' ⟨h1, h2⟩ => hnext v w' h1 h2)
    · rw [hg.same.2, hsH]
      exact hH.keep hinv.same.block
    · refine hlook t ?_ v (by rw [← hg.same.1 t]; exact hv)
      unfold Oper.looksAt
      refine List.mem_append_left _ (List.mem_filterMap.2 ⟨.tmp t, by simpa using ht, rfl⟩)
  · rw [if_neg (by rw [hg.wanted (w := w) (Pr := Pr) (ρ := ρ) (cargs := cargs) fun d hd v hv => hlook d (hmem d hd) v hv]; exact Bool.false_ne_true)]
    exact hnext undef w rfl (Same.refl w)
theorem inv_any {ops : Array Oper} (hdraw : drawOk ops = true) {s s' : St} {avs : List AV} (hpath : Path P ops.toList nt ops.toList s avs s') {w1 : World} {ρ : List Value} (hp : ∀ k, Pr k → k < w1.heap.size) (hH : HR w1 Pr ρ s.H)
    {Q : Exit → Act → World → Prop} (hQ : ∀ (listed : Array Bool) (a : Act) (w : World), Inv Pr w1 ρ cargs nt ops s avs listed a w → (∀ i, i < ops.size → listed.getD i true = true) → Q .normal a w) :
    ∀ (fuel : Nat) (left : List Nat) (listed : Array Bool) (a : Act) (w : World), left.length = fuel → left.Nodup → (∀ i, i ∈ left ↔ i < ops.size ∧ listed.getD i true = false) → Inv Pr w1 ρ cargs nt ops s avs listed a w → wpAny P .any ops Q fuel listed a w := by
  intro fuel
  induction fuel with
  | zero =>
    intro left listed a w hl hn hleft hinv
    have hnil : left = [] := List.eq_nil_of_length_eq_zero hl
    subst hnil
    have hall : ∀ i, i < ops.size → listed.getD i true = true := by
      intro i hi
      cases hb : listed.getD i true with
      | true => rfl
      | false => exact absurd ((hleft i).2 ⟨hi, hb⟩) (by simp)
    refine ⟨?_, hQ listed a w hinv hall⟩
    apply List.eq_nil_iff_forall_not_mem.2
    intro i hi
    obtain ⟨h1, o, ho, _⟩ := mem_ready.1 hi
    have : i < ops.size := by
      rcases Nat.lt_or_ge i ops.size with h' | h'
      · exact h'
      · rw [Array.getElem?_eq_none h'] at ho; cases ho
    rw [hall i this] at h1
    cases h1
  | succ fuel ih =>
    intro left listed a w hl hn hleft hinv
    refine ⟨fun hempty => ?_, fun i hi => ?_⟩
    · -- the first that is not listed is ready
      exfalso
      have hex : ∃ i, i ∈ left := by
        cases left with
        | nil => simp at hl
        | cons i l => exact ⟨i, by simp⟩
      obtain ⟨i0, hi0⟩ := hex
      have hmin : ∃ i, i ∈ left ∧ ∀ j, j < i → j ∉ left := by
        have key : ∀ n i, i ≤ n → i ∈ left → ∃ i, i ∈ left ∧ ∀ j, j < i → j ∉ left := by
          intro n
          induction n with
          | zero => intro i hi him; exact ⟨i, him, fun j hj => by omega⟩
          | succ n ihn =>
            intro i hi him
            by_cases h : ∃ j, j < i ∧ j ∈ left
            · obtain ⟨j, hj, hjm⟩ := h
              exact ihn j (by omega) hjm
            · exact ⟨i, him, fun j hj hjm => h ⟨j, hj, hjm⟩⟩
        exact key i0 i0 (Nat.le_refl _) hi0
      obtain ⟨i, him, hmini⟩ := hmin
      obtain ⟨hlt, hun⟩ := (hleft i).1 him
      obtain ⟨o, ho⟩ : ∃ o, ops[i]? = some o := ⟨_, Array.getElem?_eq_getElem hlt⟩
      have ho' : ops.toList[i]? = some o := by rw [← ho]; simp
      have hready : i ∈ Region.ready .any ops listed := by
        refine mem_ready.2 ⟨hun, o, ho, fun e he hb => ?_⟩
        have hon := (draw_spec (all := ops) (n := 0) hdraw i o ho').1 e he hb
        simp only [Nat.zero_add] at hon
        have hnl : e.on ∉ left := hmini _ hon
        have hlt2 : e.on < ops.size := by omega
        have htrue : listed.getD e.on true = true := by
          cases hb2 : listed.getD e.on true with
          | true => rfl
          | false => exact absurd ((hleft _).2 ⟨hlt2, hb2⟩) hnl
        have hls : e.on < listed.size := by rw [hinv.lsize]; exact hlt2
        simp [Array.getD, hls] at htrue ⊢
        exact htrue
      rw [hempty] at hready
      cases hready
    · obtain ⟨h1, o, ho, _⟩ := mem_ready.1 hi
      have hlt : i < ops.size := by
        rcases Nat.lt_or_ge i ops.size with h' | h'
        · exact h'
        · rw [Array.getElem?_eq_none h'] at ho; cases ho
      have him : i ∈ left := (hleft i).2 ⟨hlt, h1⟩
      refine inv_step hdraw hpath hp hH hinv hi fun a' w' hinv' => ih (left.erase i) _ a' w' ?_ (hn.erase i) (fun j => ?_) hinv'
      · rw [List.length_erase_of_mem him, hl]; rfl
      · rw [hn.mem_erase_iff, hleft j, getD_listed (by rw [hinv.lsize]; exact hlt)]
        constructor
        · rintro ⟨hne, h2, h3⟩; exact ⟨h2, by rw [if_neg (Ne.symm hne)]; exact h3⟩
        · rintro ⟨h2, h3⟩
          split at h3
          · cases h3
          · rename_i e; exact ⟨Ne.symm e, h2, h3⟩
theorem drawn_ok (hT : TOK P T) (hp : ∀ k, Pr k → k < w0.heap.size) {ops : Array Oper} {Q : Exit → Act → World → Prop} {out : Out} {k : St → R} {id : Nat} {s : St} {a : Act} {w : World} {ρ : List Value}
    (hdraw : drawOk ops = true) (h : opsK T true nt ops.toList ops.toList s k = some out) (hs : SR Pr w0 cargs nt s a w ρ) (nf : Nat) (hQ : ∀ s' a' w' ρ', k s' = some out → SR Pr w0 cargs nt s' a' w' ρ' → Ext nf ρ ρ' → Q .normal a' w') : (Code.region id ops true).wp P Q a w := by
  obtain ⟨avs, s', hpath, hk⟩ := opsK_path hT _ _ h
  refine wp_region_any hT.mo ?_
  have hsame : Same w { w with drawn := w.drawn + 1 } := Same.drew w
  have hpw : ∀ k, Pr k → k < ({ w with drawn := w.drawn + 1 } : World).heap.size := hs.lt hp
  have hH : HR ({ w with drawn := w.drawn + 1 } : World) Pr ρ s.H := hs.heap.keep hsame.block
  refine inv_any (cargs := cargs) hdraw hpath hpw hH ?_ ops.size (List.range ops.size) _ a _ (by simp) List.nodup_range ?_ ?_
  · intro listed a' w' hinv hall
    refine hQ s' a' w' ρ hk ?_ (Ext.refl _ _)
    refine ⟨hinv.size, hinv.defers, fun t v hv => ?_, ?_, hs.keep.trans (Keep.of_below (hsame.trans hinv.same) (hs.lt hp))⟩
    · refine AVR.same (w := { w with drawn := w.drawn + 1 }) ?_ hinv.same hpw
      rcases hpath.final hv with ⟨j, o, h1, h2, h3⟩ | ⟨h1, h2⟩
      · refine hinv.done j o v t h1 h3 (hall j ?_) h2
        have : j < ops.toList.length := by
          rcases Nat.lt_or_ge j ops.toList.length with h' | h'
          · exact h'
          · rw [List.getElem?_eq_none h'] at h1; cases h1
        simpa using this
      · exact hinv.still t v h1 fun j o hj hd => absurd hd (h2 j o hj)
    · rw [hpath.heap]
      exact hH.keep hinv.same.block
  · intro i
    rw [List.mem_range]
    constructor
    · intro hi; exact ⟨hi, by simp [Array.getD, hi]⟩
    · exact fun h => h.1
  · refine ⟨hs.size, hs.defers, Same.refl _, by simp, fun j o av t hj ha hl hd => ?_, fun t v hv _ => (hs.slots t v hv).same hsame (hs.lt hp), fun j o hj hl => ?_⟩
    · have hlt : j < ops.size := by
        rcases Nat.lt_or_ge j ops.toList.length with h' | h'
        · simpa using h'
        · rw [List.getElem?_eq_none h'] at hj; cases hj
      simp [Array.getD, hlt] at hl
    · have hlt : j < ops.size := by
        rcases Nat.lt_or_ge j ops.toList.length with h' | h'
        · simpa using h'
        · rw [List.getElem?_eq_none h'] at hj; cases hj
      simp [Array.getD, hlt] at hl
end
end Go.Sm
namespace Go.Sm
open Go Go.RowKit
section
variable {P : Program} {T : TT} {Pr : Nat → Prop} {w0 : World} {cargs : List Value} {nt : Nat}
theorem idleL_get {ia is : Nat} : ∀ (os : List Oper) (n i : Nat), (idleL ia is n os)[i]? = (os[i]?).map fun o => if n + i = ia ∨ n + i = is then idle o else o
  | [], n, i => by simp [idleL]
  | o :: os, n, 0 => by
    unfold idleL
    have h : (Nat.beq n ia || Nat.beq n is) = decide (n = ia ∨ n = is) := by
      rw [Bool.eq_iff_iff]
      simp [Nat.beq_eq]
    rw [h]
    by_cases h2 : n = ia ∨ n = is
    · simp [h2]
    · simp [h2]
  | o :: os, n, i + 1 => by
    unfold idleL
    rw [List.getElem?_cons_succ, List.getElem?_cons_succ, idleL_get os (n + 1) i]
    congr 1
    funext o
    rw [show n + 1 + i = n + (i + 1) by omega]
theorem idleL_len {ia is : Nat} : ∀ (os : List Oper) (n : Nat), (idleL ia is n os).length = os.length
  | [], _ => rfl
  | _ :: os, n => by unfold idleL; rw [List.length_cons, List.length_cons, idleL_len os]
theorem findA_spec : ∀ {os : List Oper} {n ia d t : Nat}, findA n os = some (ia, d, t) → ∃ i o, ia = n + i ∧ os[i]? = some o ∧ o.op = .alloc t ∧ o.dst = some d ∧ o.guard = none
  | [], n, ia, d, t, h => by cases h
  | o :: os, n, ia, d, t, h => by
    unfold findA at h
    split at h
    · rename_i h1 h2 h3
      cases h
      exact ⟨0, o, rfl, rfl, h1, h2, h3⟩
    · obtain ⟨i, o', h1, h2, h3⟩ := findA_spec h
      exact ⟨i + 1, o', by omega, by simpa using h2, h3⟩
theorem findS_spec {d : Nat} : ∀ {os : List Oper} {n is x t : Nat}, findS d n os = some (is, x, t) → ∃ i o, is = n + i ∧ os[i]? = some o ∧ o.op = .store t (.tmp d) (.tmp x) ∧ o.dst = none ∧ o.guard = none
  | [], n, is, x, t, h => by cases h
  | o :: os, n, is, x, t, h => by
    unfold findS at h
    split at h
    · rename_i t' d' x' h1 h2 h3
      cases hb : Nat.beq d d' with
      | true =>
        rw [hb] at h
        cases h
        rw [← Nat.eq_of_beq_eq_true hb] at h1
        exact ⟨0, o, rfl, rfl, h1, h2, h3⟩
      | false =>
        rw [hb] at h
        obtain ⟨i, o', h1, h2, h3⟩ := findS_spec h
        exact ⟨i + 1, o', by omega, by simpa using h2, h3⟩
    · obtain ⟨i, o', h1, h2, h3⟩ := findS_spec h
      exact ⟨i + 1, o', by omega, by simpa using h2, h3⟩
theorem clearOf_spec {d x ia is : Nat} {all : Array Oper} : ∀ {os : List Oper} {n : Nat}, clearOf d x ia is all n os = true → ∀ (i : Nat) (o : Oper), os[i]? = some o →
    (n + i ≠ ia → o.dst ≠ some d ∧ (n + i ≠ is → d ∉ o.looksAt all)) ∧ (is < n + i → o.dst ≠ some x)
  | [], n, _, i, o, h => by simp at h
  | o1 :: os, n, h, i, o, hi => by
    unfold clearOf at h
    rw [Bool.and_eq_true, Bool.and_eq_true, Bool.or_eq_true, Bool.or_eq_true, Bool.and_eq_true, Bool.or_eq_true] at h
    obtain ⟨⟨h1, h2⟩, h3⟩ := h
    have same : ∀ (e : Nat) (q : Option Nat), (!sameDst (some e) q) = true → q ≠ some e := by
      intro e q hq he
      subst he
      simp [sameDst] at hq
    cases i with
    | zero =>
      simp at hi
      subst hi
      refine ⟨fun hne => ?_, fun hlt => ?_⟩
      · rcases h1 with h1 | ⟨h1, h4⟩
        · exact absurd (Nat.eq_of_beq_eq_true h1) hne
        · refine ⟨same d _ h1, fun hne2 hm => ?_⟩
          rcases h4 with h4 | h4
          · exact hne2 (Nat.eq_of_beq_eq_true h4)
          · rw [memN_iff.2 hm] at h4; cases h4
      · rcases h2 with h2 | h2
        · have := Nat.le_of_ble_eq_true h2; omega
        · exact same x _ h2
    | succ i =>
      have := clearOf_spec h3 i o (by simpa using hi)
      rwa [show n + 1 + i = n + (i + 1) by omega] at this
structure InvA (Pr : Nat → Prop) (w1 : World) (ρ cargs : List Value) (nt : Nat) (ops : Array Oper) (ia is d t : Nat) (kd : K) (el : kd.ty) (s : St) (avs : List AV) (listed : Array Bool) (a : Act) (w : World) : Prop where
  size : a.tmps.size = nt
  defers : a.defers = []
  same : Same w1 w
  lsize : listed.size = ops.size
  done : ∀ (j : Nat) (o : Oper) (av : AV) (u : Nat), (idleL ia is 0 ops.toList)[j]? = some o → avs[j]? = some av → listed.getD j true = true → o.dst = some u → AVR w1 Pr ρ cargs av (a.tmps.getD u undef)
  still : ∀ (u : Nat) (v : AV), lk s.sl u = some v → u ≠ d → (∀ (j : Nat) (o : Oper), (idleL ia is 0 ops.toList)[j]? = some o → o.dst = some u → listed.getD j true = false) → AVR w1 Pr ρ cargs v (a.tmps.getD u undef)
  down : ∀ (j : Nat) (o : Oper), ops.toList[j]? = some o → listed.getD j true = true → ∀ e ∈ o.after, Region.binds .any e = true → listed.getD e.on true = true
  ext : listed.getD ia true = true → ∃ vr g vs, a.tmps.getD d undef = .pointer (some ⟨g, 0, none⟩) ∧ vr.ownBlock = some g ∧ w1.heap.size ≤ g ∧ w.ownsRow 0 t kd.sz vr 1 vs ∧
    AllR SCR (if listed.getD is true = true then (kd.f el).cells else (kd.f kd.z).cells) vs
theorem Guard.unidle {ops : Array Oper} {ia is : Nat} {g : Option (Nat × Bool)} {s s1 : St} {b : Bool} (h : Guard (idleL ia is 0 ops.toList) g s b s1) : Guard ops.toList g s b s1 := by
  have key : ∀ (j : Nat) (o : Oper) (d : Nat), (idleL ia is 0 ops.toList)[j]? = some o → o.dst = some d → ops.toList[j]? = some o := by
    intro j o d h1 h2
    rw [idleL_get] at h1
    obtain ⟨o', h3, h4⟩ := Option.map_eq_some_iff.1 h1
    split at h4
    · subst h4
      cases h2
    · rw [← h4]; exact h3
  cases h with
  | always h => exact .always h
  | test j want b o d h1 h2 h3 h4 => exact .test j want b o d h1 (key j o d h2 h3) h3 h4
  | skip j want o d h1 h2 h3 h4 => exact .skip j want o d h1 (key j o d h2 h3) h3 h4
theorem flat1 (k : K) (a : k.ty) : Vec.cells ⟨k, [a]⟩ = (k.f a).cells := by simp [Vec.cells]
theorem alloc_run (hT : TOK P T) {o : Oper} {t : Nat} {kd : K} (hop : o.op = .alloc t) (hek : T.ek t = some kd) (a : Act) (w : World) :
    Yields P o a w fun v w' => Same w w' ∧ ∃ vr g vs, v = .pointer (some ⟨g, 0, none⟩) ∧ vr.ownBlock = some g ∧ w.heap.size ≤ g ∧ w'.ownsRow 0 t kd.sz vr 1 vs ∧ AllR SCR (kd.f kd.z).cells vs := by
  let kk : AV → Hp → R := fun av H => match av, H with
    | .fv (.pt ⟨.r 0, _, 0, 0⟩), [some row] => some ⟨[], some row⟩
    | _, _ => none
  have hrun : opK T false (.alloc t) ⟨[], []⟩ kk = some ⟨[], some ⟨t, ⟨kd, [kd.z]⟩⟩⟩ := by
    unfold opK
    simp only [cond_false, hek]
    rfl
  obtain ⟨av, H', hk, hdoes⟩ := does_alloc hT hop hrun
  dsimp only [kk] at hk
  split at hk
  · rename_i sz row
    simp only [Option.some.injEq, Out.mk.injEq, true_and] at hk
    subst hk
    have hH : HR w (fun k => k < w.heap.size) [] [] := ⟨rfl, fun r row h => by simp [rowAt] at h, fun r r' row row' v v' g _ h => by simp [rowAt] at h, LLR.noRow fun r => rfl⟩
    refine (hdoes a w (fun k => k < w.heap.size) [] [] (fun _ h => h) hH (Opd.of_slots fun t' _ v hv => by cases hv)).mono fun v w' ⟨ρ', _, hav, hHR, hkeep⟩ => ?_
    obtain ⟨vr, g, h1, h2, h3⟩ := hav
    obtain ⟨v2, h4, vs, h5, h6, h7⟩ := hHR.row 0 ⟨t, ⟨kd, [kd.z]⟩⟩ (rowAt_of rfl (hT.ek2 hek))
    rw [h1] at h4
    cases h4
    rw [flat1] at h6
    refine ⟨⟨hkeep.os, hkeep.tape, hkeep.output, hkeep.size, hkeep.block⟩, vr, g, vs, ?_, h2, Nat.not_lt.1 (h7 g h2), h5, h6⟩
    simpa using h3
  · cases hk
theorem store_run (hT : TOK P T) {o : Oper} {t d x : Nat} {kd : K} {e : Elt} {el : kd.ty} (hop : o.op = .store t (.tmp d) (.tmp x)) (hdx : d ≠ x) (hek : T.ek t = some kd) (hg : kd.g e = some el) (a : Act) (w w1 : World)
    (hsame : Same w1 w) {vr : Value} {g : Nat} {vs : List Value} (h1 : a.tmps.getD d undef = .pointer (some ⟨g, 0, none⟩)) (h2 : vr.ownBlock = some g) (h3 : w1.heap.size ≤ g) (h4 : w.ownsRow 0 t kd.sz vr 1 vs) (h5 : AllR SCR (kd.f kd.z).cells vs)
    (h6 : ElR e (a.tmps.getD x undef)) :
    Yields P o a w fun _ w' => Same w1 w' ∧ ∃ vs', w'.ownsRow 0 t kd.sz vr 1 vs' ∧ AllR SCR (kd.f el).cells vs' := by
  let kk : AV → Hp → R := fun av H => match H with
    | [some row] => some ⟨[], some row⟩
    | _ => none
  have hrun : opK T false (.store t (.tmp d) (.tmp x)) ⟨[(d, .fv (.pt ⟨.r 0, kd.sz, 0, 0⟩)), (x, .fv (.el e))], [some ⟨t, ⟨kd, [kd.z]⟩⟩]⟩ kk = some ⟨[], some ⟨t, ⟨kd, [el]⟩⟩⟩ := by
    have hlen : e.cells.length = kd.sz := by rw [← K.g_f hg]; exact K.len_f kd el
    have e1 : evO ⟨[(d, .fv (.pt ⟨.r 0, kd.sz, 0, 0⟩)), (x, .fv (.el e))], [some ⟨t, ⟨kd, [kd.z]⟩⟩]⟩ (.tmp d) = some (.pt ⟨.r 0, kd.sz, 0, 0⟩) := by
      unfold evO
      dsimp only
      rw [lk_cons, if_pos rfl]
    have e2 : evO ⟨[(d, .fv (.pt ⟨.r 0, kd.sz, 0, 0⟩)), (x, .fv (.el e))], [some ⟨t, ⟨kd, [kd.z]⟩⟩]⟩ (.tmp x) = some (.el e) := by
      unfold evO
      dsimp only
      rw [lk_cons, if_neg hdx, lk_cons, if_pos rfl]
    unfold opK
    simp only [cond_false, e1, e2]
    unfold storeK
    simp only [hek, rowAt, hT.ek2 hek, cond_false, List.getElem?_cons_zero, setElt, decide_true, Nat.beq_refl, Bool.and_self, cond_true, hg, hlen, Bool.true_and, K.sz_pos]
    rfl
  obtain ⟨av, H', hk, hdoes⟩ := does_store hT hop hrun
  dsimp only [kk] at hk
  split at hk
  · rename_i row
    simp only [Option.some.injEq, Out.mk.injEq, true_and] at hk
    subst hk
    have hH : HR w (fun k => k < w1.heap.size) [vr] [some ⟨t, ⟨kd, [kd.z]⟩⟩] := by
      have hk2 := hT.ek2 hek
      have hk3 : kd.is2 = false := (Bool.or_eq_false_iff.1 hk2).1
      refine ⟨rfl, fun r row h => ?_, fun r r' row row' v v' g' hne h h' => ?_, LLR.noRow fun r => by cases r <;> simp [llAt, hk3]⟩
      · cases r with
        | zero =>
          simp [rowAt, hk2] at h
          subst h
          exact ⟨vr, rfl, vs, h4, by rw [flat1]; exact h5, fun g' hg' => by rw [h2] at hg'; cases hg'; exact Nat.not_lt.2 h3⟩
        | succ r => simp [rowAt] at h
      · cases r with
        | zero => cases r' with
          | zero => exact absurd rfl hne
          | succ r' => simp [rowAt] at h'
        | succ r => simp [rowAt] at h
    have hlt : ∀ k, (fun k => k < w1.heap.size) k → k < w.heap.size := fun k hk => Nat.lt_of_lt_of_le hk hsame.size
    refine (hdoes a w (fun k => k < w1.heap.size) [vr] [] hlt hH (Opd.of_slots fun t' ht v hv => ?_)).mono fun v w' ⟨ρ', hρ, _, hHR, hkeep⟩ => ?_
    · rw [lk_cons] at hv
      split at hv
      · rename_i e1
        subst e1
        cases hv
        exact ⟨vr, g, rfl, h2, by rw [h1]; simp⟩
      · rw [lk_cons] at hv
        split at hv
        · rename_i e1
          subst e1
          cases hv
          exact h6
        · cases hv
    · obtain ⟨v2, h7, vs', h8, h9, _⟩ := hHR.row 0 ⟨t, ⟨kd, [el]⟩⟩ (rowAt_of rfl (hT.ek2 hek))
      rw [hρ 0 vr rfl] at h7
      cases h7
      rw [flat1] at h9
      exact ⟨⟨hkeep.os.trans hsame.os, hkeep.tape.trans hsame.tape, hkeep.output.trans hsame.output, Nat.le_trans hsame.size hkeep.size, fun k hk => (hkeep.block k hk).trans (hsame.block k hk)⟩, vs', h8, h9⟩
  · cases hk
structure StatA (ops : Array Oper) (ia is d x t nt : Nat) : Prop where
  draw : drawOk ops = true
  a : ∃ o, ops.toList[ia]? = some o ∧ o.op = .alloc t ∧ o.dst = some d ∧ o.guard = none
  s : ∃ o, ops.toList[is]? = some o ∧ o.op = .store t (.tmp d) (.tmp x) ∧ o.dst = none ∧ o.guard = none
  lt : ia < is
  dx : d ≠ x
  dn : d < nt
  clear : ∀ (i : Nat) (o : Oper), ops.toList[i]? = some o → (i ≠ ia → o.dst ≠ some d ∧ (i ≠ is → d ∉ o.looksAt ops)) ∧ (is < i → o.dst ≠ some x)
theorem looks_store {ops : Array Oper} {o : Oper} {t d x : Nat} (h : o.op = .store t (.tmp d) (.tmp x)) : d ∈ o.looksAt ops ∧ x ∈ o.looksAt ops := by
  unfold Oper.looksAt
  rw [h]
  constructor <;> refine List.mem_append_left _ ?_ <;> simp [Op.operands]
theorem invA_step (hT : TOK P T) {ops : Array Oper} {ia is d x t : Nat} (hst : StatA ops ia is d x t nt) {kd : K} {e : Elt} {el : kd.ty} (hek : T.ek t = some kd) (hg : kd.g e = some el)
    {s s' : St} {avs : List AV} (hpath : Path P (idleL ia is 0 ops.toList) nt (idleL ia is 0 ops.toList) s avs s') (hx : lk s'.sl x = some (.fv (.el e))) {w1 : World} {ρ : List Value} (hp : ∀ k, Pr k → k < w1.heap.size) (hH : HR w1 Pr ρ s.H)
    {listed : Array Bool} {a : Act} {w : World} (hinv : InvA Pr w1 ρ cargs nt ops ia is d t kd el s avs listed a w) {i : Nat} (hr : i ∈ Region.ready .any ops listed) {Q : Exit → Act → World → Prop} {K : Act → World → Prop}
    (hK : ∀ a' w', InvA Pr w1 ρ cargs nt ops ia is d t kd el s avs (listed.setIfInBounds i true) a' w' → K a' w') : wpOp P ops Q i K a w := by
  obtain ⟨hun, o, ho, hall⟩ := mem_ready.1 hr
  have ho' : ops.toList[i]? = some o := by rw [← ho]; simp
  have hil : i < ops.toList.length := by
    rcases Nat.lt_or_ge i ops.toList.length with h' | h'
    · exact h'
    · rw [List.getElem?_eq_none h'] at ho'; cases ho'
  have hil' : i < listed.size := by rw [hinv.lsize]; simpa using hil
  have spec := draw_spec (all := ops) (n := 0) hst.draw
  simp only [Nat.zero_add] at spec
  have hp' : ∀ k, Pr k → k < w.heap.size := fun k hk => Nat.lt_of_lt_of_le (hp k hk) hinv.same.size
  obtain ⟨oa, hoa, hopa, hdsta, hga⟩ := hst.a
  obtain ⟨os_, hos, hops, hdsts, hgs⟩ := hst.s
  have hlt := hst.lt
  have hafter : listed.getD is true = true → listed.getD ia true = true := by
    intro h
    have hpr := (spec ia oa hoa).2 is os_ hlt hos
    rcases (pair_spec hpr).1 with ⟨e', he', hb', hon⟩ | ⟨hno, _⟩
    · have := hinv.down is os_ hos h e' he' hb'
      rwa [hon] at this
    · exact absurd (looks_store hops).1 (hno d hdsta)
  have hds : ∀ (j : Nat) (o' : Oper), ops.toList[j]? = some o' → listed.getD j true = true → ∀ e' ∈ o'.after, Region.binds .any e' = true → (listed.setIfInBounds i true).getD e'.on true = true := by
    intro j o' hj hl e' he' hb'
    rw [getD_listed hil']
    split
    · rfl
    · exact hinv.down j o' hj hl e' he' hb'
  have hdown : ∀ (j : Nat) (o' : Oper), ops.toList[j]? = some o' → (listed.setIfInBounds i true).getD j true = true → ∀ e' ∈ o'.after, Region.binds .any e' = true → (listed.setIfInBounds i true).getD e'.on true = true := by
    intro j o' hj hl e' he' hb'
    rw [getD_listed hil'] at hl
    by_cases e2 : i = j
    · subst e2
      rw [ho'] at hj
      cases hj
      rw [getD_listed hil']
      split
      · rfl
      · exact getD_false (hall e' he' hb')
    · rw [if_neg e2] at hl
      exact hds j o' hj hl e' he' hb'
  have hother : ∀ (j : Nat) (o' : Oper) (av' : AV) (u : Nat), j ≠ i → (idleL ia is 0 ops.toList)[j]? = some o' → avs[j]? = some av' → (listed.setIfInBounds i true).getD j true = true → o'.dst = some u → AVR w1 Pr ρ cargs av' (a.tmps.getD u undef) := by
    intro j o' av' u hne hj ha hl hd
    rw [getD_listed hil', if_neg (Ne.symm hne)] at hl
    exact hinv.done j o' av' u hj ha hl hd
  have hstill : ∀ (u : Nat) (v : AV), lk s.sl u = some v → u ≠ d → (∀ (j : Nat) (o' : Oper), (idleL ia is 0 ops.toList)[j]? = some o' → o'.dst = some u → (listed.setIfInBounds i true).getD j true = false) → AVR w1 Pr ρ cargs v (a.tmps.getD u undef) := by
    intro u v hu hud hno
    refine hinv.still u v hu hud fun j o' hj hd => ?_
    have := hno j o' hj hd
    rw [getD_listed hil'] at this
    split at this
    · cases this
    · exact this
  unfold wpOp
  rw [ho]
  dsimp only
  by_cases hia : i = ia
  · -- THE NEW VARIABLE
    subst hia
    rw [hoa] at ho'
    cases ho'
    have hw : Region.wanted o (yielded ops a.tmps) = true := by unfold Region.wanted; rw [hga]
    rw [if_pos hw]
    refine .inl ((alloc_run hT hopa hek a w).wp ?_)
    rintro v w' ⟨hs, vr, g, vs, hv, h2, h3, h4, h5⟩
    refine hK _ _ ⟨?_, ?_, hinv.same.trans hs, by simp [hinv.lsize], fun j o' av' u hj ha hl hd => ?_, fun u v' hu hud hno => ?_, hdown, fun _ => ?_⟩
    · rw [hdsta]; simp [Act.put, hinv.size]
    · rw [hdsta]; exact hinv.defers
    · have hne : j ≠ i := by
        intro e'
        subst e'
        rw [idleL_get, hoa] at hj
        simp at hj
        subst hj
        cases hd
      have hud : u ≠ d := by
        intro e'
        subst e'
        rw [idleL_get] at hj
        obtain ⟨q, h6, h7⟩ := Option.map_eq_some_iff.1 hj
        split at h7
        · subst h7; cases hd
        · subst h7
          exact ((hst.clear j q h6).1 hne).1 hd
      rw [hdsta]
      simp only [Act.put]
      rw [getD_set _ _ _ _ (by rw [hinv.size]; exact hst.dn), if_neg (Ne.symm hud)]
      exact hother j o' av' u hne hj ha hl hd
    · rw [hdsta]
      simp only [Act.put]
      rw [getD_set _ _ _ _ (by rw [hinv.size]; exact hst.dn), if_neg (Ne.symm hud)]
      exact hstill u v' hu hud hno
    · refine ⟨vr, g, vs, ?_, h2, Nat.le_trans hinv.same.size h3, h4, ?_⟩
      · rw [hdsta]
        simp only [Act.put]
        rw [getD_set _ _ _ _ (by rw [hinv.size]; exact hst.dn), if_pos rfl, hv]
      · have h6 : ¬ (listed.setIfInBounds i true).getD is true = true := by
          rw [getD_listed hil', if_neg (by omega)]
          intro h
          have := hafter h
          rw [hun] at this
          cases this
        rw [if_neg h6]
        exact h5
  · by_cases his : i = is
    · -- THE WRITE TO IT
      subst his
      rw [hos] at ho'
      cases ho'
      have hw : Region.wanted o (yielded ops a.tmps) = true := by unfold Region.wanted; rw [hgs]
      rw [if_pos hw]
      have hla : listed.getD ia true = true := by
        have hpr := (spec ia oa hoa).2 i o hlt hos
        rcases (pair_spec hpr).1 with ⟨e', he', hb', hon⟩ | ⟨hno, _⟩
        · have := hall e' he' hb'
          rw [hon] at this
          exact getD_false this
        · exact absurd (looks_store hops).1 (hno d hdsta)
      obtain ⟨vr, g, vs, e1, e2, e3, e4, e5⟩ := hinv.ext hla
      rw [if_neg (by rw [hun]; exact Bool.false_ne_true)] at e5
      have hxv : ElR e (a.tmps.getD x undef) := by
        have : AVR w1 Pr ρ cargs (.fv (.el e)) (a.tmps.getD x undef) := by
          rcases hpath.final hx with ⟨j, o', h1, h2, h3⟩ | ⟨h1, h2⟩
          · have h1' := h1
            rw [idleL_get] at h1'
            obtain ⟨q, h6, h7⟩ := Option.map_eq_some_iff.1 h1'
            have hq : q = o' ∧ ¬ (0 + j = ia ∨ 0 + j = i) := by
              split at h7
              · subst h7; cases h2
              · rename_i hne; exact ⟨h7, hne⟩
            obtain ⟨rfl, hne⟩ := hq
            rcases Nat.lt_trichotomy j i with h8 | h8 | h8
            · refine hinv.done j q _ x h1 h3 ?_ h2
              have hpr := (spec j q h6).2 i o h8 hos
              rcases (pair_spec hpr).1 with ⟨e', he', hb', hon⟩ | ⟨hno, _⟩
              · have := hall e' he' hb'
                rw [hon] at this
                exact getD_false this
              · exact absurd (looks_store hops).2 (hno x h2)
            · omega
            · exact absurd h2 ((hst.clear j q h6).2 h8)
          · exact hinv.still x _ h1 (Ne.symm hst.dx) fun j o' hj hd => absurd hd (h2 j o' hj)
        exact this
      refine .inl ((store_run hT hops hst.dx hek hg a w w1 hinv.same e1 e2 e3 e4 e5 hxv).wp ?_)
      rintro v w' ⟨hs, vs', h8, h9⟩
      rw [hdsts]
      refine hK _ _ ⟨hinv.size, hinv.defers, hs, by simp [hinv.lsize], fun j o' av' u hj ha hl hd => ?_, hstill, hdown, fun _ => ?_⟩
      · have hne : j ≠ i := by
          intro e'
          subst e'
          rw [idleL_get, hos] at hj
          simp at hj
          subst hj
          cases hd
        exact hother j o' av' u hne hj ha hl hd
      · refine ⟨vr, g, vs', e1, e2, e3, h8, ?_⟩
        rw [getD_listed hil', if_pos rfl, if_pos rfl]
        exact h9
    · -- ANY OTHER
      have hoi : (idleL ia is 0 ops.toList)[i]? = some o := by
        rw [idleL_get, ho']
        simp [hia, his]
      obtain ⟨av, hav⟩ : ∃ av, avs[i]? = some av := ⟨_, List.getElem?_eq_getElem (by rw [hpath.len, idleL_len]; exact hil)⟩
      obtain ⟨hdst, si, s1, hsH, hstep, hslots⟩ := hpath.at hoi hav
      have hcl := hst.clear i o ho'
      have real : ∀ (j : Nat) (o' : Oper) (u : Nat), (idleL ia is 0 ops.toList)[j]? = some o' → o'.dst = some u → ops.toList[j]? = some o' ∧ j ≠ ia ∧ j ≠ is := by
        intro j o' u hj hd
        rw [idleL_get] at hj
        obtain ⟨q, h6, h7⟩ := Option.map_eq_some_iff.1 hj
        split at h7
        · subst h7; cases hd
        · rename_i hne
          subst h7
          exact ⟨h6, fun e' => hne (.inl (by omega)), fun e' => hne (.inr (by omega))⟩
      have hlook : ∀ u, u ∈ o.looksAt ops → ∀ v, lk si.sl u = some v → AVR w Pr ρ cargs v (a.tmps.getD u undef) := by
        intro u hu v hv
        refine AVR.same (w := w1) ?_ hinv.same hp
        have hud : u ≠ d := fun e' => (hcl.1 hia).2 his (by rw [← e']; exact hu)
        rcases hslots u v hv with ⟨j, o', h1, h2, h3, h4⟩ | ⟨h1, h2⟩
        · obtain ⟨h2', _⟩ := real j o' u h2 h3
          have hpr := ((spec j o' h2').2 i o h1 ho')
          rcases (pair_spec hpr).1 with ⟨e', he', hb', hon⟩ | ⟨hno, _⟩
          · refine hinv.done j o' v u h2 h4 ?_ h3
            have := hall e' he' hb'
            rw [hon] at this
            exact getD_false this
          · exact absurd hu (hno u h3)
        · refine hinv.still u v h1 hud fun j o' hj hd => ?_
          rcases Nat.lt_trichotomy j i with hlt' | heq | hgt
          · exact absurd hd (h2 j o' hlt' hj)
          · subst heq; exact hun
          · cases hl : listed.getD j true with
            | false => rfl
            | true =>
              obtain ⟨hj', _⟩ := real j o' u hj hd
              have hpr := (spec i o ho').2 j o' hgt hj'
              rcases (pair_spec hpr).1 with ⟨e', he', hb', hon⟩ | ⟨_, hno⟩
              · have := hinv.down j o' hj' hl e' he' hb'
                rw [hon, hun] at this
                cases this
              · exact absurd hu (hno u hd)
      have hnext : ∀ (v : Value) (w' : World), AVR w Pr ρ cargs av v → Same w w' → K (a.put o.dst v) w' := by
        intro v w' hv hs
        have hv1 : AVR w1 Pr ρ cargs av v := hv.back hinv.same hp
        refine hK _ _ ?_
        have hgd : ∀ (u : Nat), (a.put o.dst v).tmps.getD u undef = if o.dst = some u then v else a.tmps.getD u undef := by
          intro u
          cases hd : o.dst with
          | none => simp [Act.put]
          | some d' =>
            have hlt' : d' < a.tmps.size := by rw [hinv.size]; rw [hd] at hdst; exact of_decide_eq_true hdst
            simp only [Act.put]
            rw [getD_set _ _ _ _ hlt']
            simp
        refine ⟨?_, ?_, hinv.same.trans hs, by simp [hinv.lsize], fun j o' av' u hj ha hl hd => ?_, fun u v' hu hud hno => ?_, hdown, fun hl => ?_⟩
        · cases o.dst <;> simp [Act.put, hinv.size]
        · cases o.dst <;> exact hinv.defers
        · rw [hgd u]
          by_cases e' : j = i
          · subst e'
            rw [hoi] at hj
            cases hj
            rw [hav] at ha
            cases ha
            rw [if_pos hd]
            exact hv1
          · obtain ⟨hj', _⟩ := real j o' u hj hd
            have hne : o.dst ≠ some u := by
              rcases Nat.lt_or_gt_of_ne e' with h | h
              · exact fun h2 => (pair_spec ((spec j o' hj').2 i o h ho')).2 u hd h2
              · intro h2; exact (pair_spec ((spec i o ho').2 j o' h hj')).2 u h2 hd
            rw [if_neg hne]
            exact hother j o' av' u e' hj ha hl hd
        · rw [hgd u]
          have hne : o.dst ≠ some u := by
            intro h2
            have := hno i o hoi h2
            rw [getD_listed hil', if_pos rfl] at this
            cases this
          rw [if_neg hne]
          exact hstill u v' hu hud hno
        · rw [getD_listed hil', if_neg hia] at hl
          obtain ⟨vr, g, vs, e1, e2, e3, e4, e5⟩ := hinv.ext hl
          refine ⟨vr, g, vs, ?_, e2, e3, ownsRow_keep (fun g' hg' => hs.block g' ((e4.lt g' hg').2)) e4, ?_⟩
          · rw [hgd d, if_neg (hcl.1 hia).1]
            exact e1
          · rw [getD_listed hil', if_neg his]
            exact e5
      have hmem : ∀ u, optIn (some u) (o.looksAt ops) = true → u ∈ o.looksAt ops := fun u h => memN_iff.1 h
      rcases hstep with ⟨hg', hq⟩ | ⟨hg', rfl⟩
      · rw [if_pos (hg'.unidle.wanted (w := w) (Pr := Pr) (ρ := ρ) (cargs := cargs) fun u hd v hv => hlook u (hmem u hd) v hv)]
        refine .inl ((hq a w Pr ρ cargs hp' ?_ (Opd.of_slots fun u hu v hv => ?_)).wp fun v w' ⟨h1, h2⟩ => hnext v w' h1 h2)
        · rw [hg'.same.2, hsH]
          exact hH.keep hinv.same.block
        · refine hlook u ?_ v (by rw [← hg'.same.1 u]; exact hv)
          unfold Oper.looksAt
          refine List.mem_append_left _ (List.mem_filterMap.2 ⟨.tmp u, by simpa using hu, rfl⟩)
      · rw [if_neg (by rw [hg'.unidle.wanted (w := w) (Pr := Pr) (ρ := ρ) (cargs := cargs) fun u hd v hv => hlook u (hmem u hd) v hv]; exact Bool.false_ne_true)]
        exact hnext undef w rfl (Same.refl w)
theorem invA_any (hT : TOK P T) {ops : Array Oper} {ia is d x t : Nat} (hst : StatA ops ia is d x t nt) {kd : K} {e : Elt} {el : kd.ty} (hek : T.ek t = some kd) (hg : kd.g e = some el)
    {s s' : St} {avs : List AV} (hpath : Path P (idleL ia is 0 ops.toList) nt (idleL ia is 0 ops.toList) s avs s') (hx : lk s'.sl x = some (.fv (.el e))) {w1 : World} {ρ : List Value} (hp : ∀ k, Pr k → k < w1.heap.size) (hH : HR w1 Pr ρ s.H)
    {Q : Exit → Act → World → Prop} (hQ : ∀ (listed : Array Bool) (a : Act) (w : World), InvA Pr w1 ρ cargs nt ops ia is d t kd el s avs listed a w → (∀ i, i < ops.size → listed.getD i true = true) → Q .normal a w) :
    ∀ (fuel : Nat) (left : List Nat) (listed : Array Bool) (a : Act) (w : World), left.length = fuel → left.Nodup → (∀ i, i ∈ left ↔ i < ops.size ∧ listed.getD i true = false) → InvA Pr w1 ρ cargs nt ops ia is d t kd el s avs listed a w → wpAny P .any ops Q fuel listed a w := by
  intro fuel
  induction fuel with
  | zero =>
    intro left listed a w hl hn hleft hinv
    have hnil : left = [] := List.eq_nil_of_length_eq_zero hl
    subst hnil
    have hall : ∀ i, i < ops.size → listed.getD i true = true := by
      intro i hi
      cases hb : listed.getD i true with
      | true => rfl
      | false => exact absurd ((hleft i).2 ⟨hi, hb⟩) (by simp)
    refine ⟨?_, hQ listed a w hinv hall⟩
    apply List.eq_nil_iff_forall_not_mem.2
    intro i hi
    obtain ⟨h1, o, ho, _⟩ := mem_ready.1 hi
    have : i < ops.size := by
      rcases Nat.lt_or_ge i ops.size with h' | h'
      · exact h'
      · rw [Array.getElem?_eq_none h'] at ho; cases ho
    rw [hall i this] at h1
    cases h1
  | succ fuel ih =>
    intro left listed a w hl hn hleft hinv
    refine ⟨fun hempty => ?_, fun i hi => ?_⟩
    · -- the first that is not listed is ready
      exfalso
      have hex : ∃ i, i ∈ left := by
        cases left with
        | nil => simp at hl
        | cons i l => exact ⟨i, by simp⟩
      obtain ⟨i0, hi0⟩ := hex
      have hmin : ∃ i, i ∈ left ∧ ∀ j, j < i → j ∉ left := by
        have key : ∀ n i, i ≤ n → i ∈ left → ∃ i, i ∈ left ∧ ∀ j, j < i → j ∉ left := by
          intro n
          induction n with
          | zero => intro i hi him; exact ⟨i, him, fun j hj => by omega⟩
          | succ n ihn =>
            intro i hi him
            by_cases h : ∃ j, j < i ∧ j ∈ left
            · obtain ⟨j, hj, hjm⟩ := h
              exact ihn j (by omega) hjm
            · exact ⟨i, him, fun j hj hjm => h ⟨j, hj, hjm⟩⟩
        exact key i0 i0 (Nat.le_refl _) hi0
      obtain ⟨i, him, hmini⟩ := hmin
      obtain ⟨hlt, hun⟩ := (hleft i).1 him
      obtain ⟨o, ho⟩ : ∃ o, ops[i]? = some o := ⟨_, Array.getElem?_eq_getElem hlt⟩
      have ho' : ops.toList[i]? = some o := by rw [← ho]; simp
      have hready : i ∈ Region.ready .any ops listed := by
        refine mem_ready.2 ⟨hun, o, ho, fun e he hb => ?_⟩
        have hon := (draw_spec (all := ops) (n := 0) hst.draw i o ho').1 e he hb
        simp only [Nat.zero_add] at hon
        have hnl : e.on ∉ left := hmini _ hon
        have hlt2 : e.on < ops.size := by omega
        have htrue : listed.getD e.on true = true := by
          cases hb2 : listed.getD e.on true with
          | true => rfl
          | false => exact absurd ((hleft _).2 ⟨hlt2, hb2⟩) hnl
        have hls : e.on < listed.size := by rw [hinv.lsize]; exact hlt2
        simp [Array.getD, hls] at htrue ⊢
        exact htrue
      rw [hempty] at hready
      cases hready
    · obtain ⟨h1, o, ho, _⟩ := mem_ready.1 hi
      have hlt : i < ops.size := by
        rcases Nat.lt_or_ge i ops.size with h' | h'
        · exact h'
        · rw [Array.getElem?_eq_none h'] at ho; cases ho
      have him : i ∈ left := (hleft i).2 ⟨hlt, h1⟩
      refine invA_step hT hst hek hg hpath hx hp hH hinv hi fun a' w' hinv' => ih (left.erase i) _ a' w' ?_ (hn.erase i) (fun j => ?_) hinv'
      · rw [List.length_erase_of_mem him, hl]; rfl
      · rw [hn.mem_erase_iff, hleft j, getD_listed (by rw [hinv.lsize]; exact hlt)]
        constructor
        · rintro ⟨hne, h2, h3⟩; exact ⟨h2, by rw [if_neg (Ne.symm hne)]; exact h3⟩
        · rintro ⟨h2, h3⟩
          split at h3
          · cases h3
          · rename_i e; exact ⟨Ne.symm e, h2, h3⟩
theorem drawnA_ok (hT : TOK P T) (hp : ∀ k, Pr k → k < w0.heap.size) {ops : Array Oper} {ia is d x t : Nat} (hst : StatA ops ia is d x t nt) {Q : Exit → Act → World → Prop} {out : Out} {k : St → R} {id : Nat} {s : St} {a : Act} {w : World} {ρ : List Value}
    (h : opsK T true nt (idleL ia is 0 ops.toList) (idleL ia is 0 ops.toList) s (fun s' => match T.ek t, lk s'.sl x with
      | some kd, some (.fv (.el e)) => (match kd.g e with
        | some a => k ⟨(d, .fv (.pt ⟨.r s'.H.length, kd.sz, 0, 0⟩)) :: s'.sl, s'.H ++ [some ⟨t, ⟨kd, [a]⟩⟩]⟩
        | none => none)
      | _, _ => none) = some out) (hs : SR Pr w0 cargs nt s a w ρ) (nf : Nat) (hQ : ∀ s' a' w' ρ', k s' = some out → SR Pr w0 cargs nt s' a' w' ρ' → Ext nf ρ ρ' → Q .normal a' w') : (Code.region id ops true).wp P Q a w := by
  obtain ⟨avs, s', hpath, hk⟩ := opsK_path hT _ _ h
  split at hk
  · rename_i kd e hek hx
    split at hk
    · rename_i el hg
      refine wp_region_any hT.mo ?_
      have hsame : Same w { w with drawn := w.drawn + 1 } := Same.drew w
      have hpw : ∀ k, Pr k → k < ({ w with drawn := w.drawn + 1 } : World).heap.size := hs.lt hp
      have hH : HR ({ w with drawn := w.drawn + 1 } : World) Pr ρ s.H := hs.heap.keep hsame.block
      refine invA_any (cargs := cargs) hT hst hek hg hpath hx hpw hH ?_ ops.size (List.range ops.size) _ a _ (by simp) List.nodup_range ?_ ?_
      · intro listed a' w' hinv hall
        obtain ⟨oa, hoa, _⟩ := hst.a
        obtain ⟨os_, hos, _⟩ := hst.s
        have hlen : ∀ (i : Nat) (o : Oper), ops.toList[i]? = some o → i < ops.size := by
          intro i o hi
          rcases Nat.lt_or_ge i ops.toList.length with h' | h'
          · simpa using h'
          · rw [List.getElem?_eq_none h'] at hi; cases hi
        obtain ⟨vr, g, vs, e1, e2, e3, e4, e5⟩ := hinv.ext (hall ia (hlen ia oa hoa))
        rw [if_pos (hall is (hlen is os_ hos))] at e5
        have hHl : s'.H = s.H := hpath.heap
        have hwsz : w'.heap.size = w'.heap.size := rfl
        have hold : HR w' Pr ρ s.H := hH.keep hinv.same.block
        have hnew : RowR w' Pr vr t ⟨kd, [el]⟩ := by
          refine ⟨vs, e4, by rw [flat1]; exact e5, fun g' hg' hpr => ?_⟩
          rw [e2] at hg'
          cases hg'
          exact absurd (hpw g hpr) (Nat.not_lt.2 e3)
        have hHR : HR w' Pr (ρ ++ [vr]) (s.H ++ [some ⟨t, ⟨kd, [el]⟩⟩]) := by
          refine ⟨by simp [hH.len], fun r row hr => ?_, fun r r' row row' v v' g' hne h1 h2 h3 h4 h5 => ?_, hH.ll.push hH.len hinv.same.size (hT.ek2 hek) (fun g' hg' _ => hinv.same.block g' hg') fun g' hg' => .inl (by rw [e2] at hg'; cases hg'; exact e3)⟩
          · rcases rowAt_push hr with h1 | ⟨h1, h2⟩
            · obtain ⟨v, h3, h4⟩ := hold.row r row h1
              exact ⟨v, getElem?_push_old h3, h4⟩
            · subst h1
              cases h2
              exact ⟨vr, by rw [← hH.len]; simp, hnew⟩
          · have hval : ∀ (r : Nat) (row : Row) (v : Value), rowAt s.H r = some row → (ρ ++ [vr])[r]? = some v → ρ[r]? = some v ∧ ∀ g', v.ownBlock = some g' → g' < w.heap.size := by
              intro r row v h1 h2
              obtain ⟨v2, h6, h7⟩ := hH.row r row h1
              rw [getElem?_push_old h6] at h2
              cases h2
              exact ⟨h6, fun g' hg' => h7.lt hg'⟩
            have hlast : ∀ (v : Value), (ρ ++ [vr])[s.H.length]? = some v → v = vr := by
              intro v h1
              rw [← hH.len] at h1
              simp at h1
              exact h1.symm
            rcases rowAt_push h1 with a1 | ⟨a1, _⟩ <;> rcases rowAt_push h2 with b1 | ⟨b1, _⟩
            · exact hold.apart r r' row row' v v' g' hne a1 b1 (hval r row v a1 h3).1 (hval r' row' v' b1 h4).1 h5
            · subst b1
              rw [hlast v' h4, e2]
              intro h6
              cases h6
              exact absurd ((hval r row v a1 h3).2 _ h5) (Nat.not_lt.2 e3)
            · subst a1
              rw [hlast v h3, e2] at h5
              cases h5
              intro h6
              exact absurd ((hval r' row' v' b1 h4).2 _ h6) (Nat.not_lt.2 e3)
            · omega
        refine hQ _ a' w' (ρ ++ [vr]) hk ⟨hinv.size, hinv.defers, fun u v hv => ?_, ?_, hs.keep.trans (Keep.of_below (hsame.trans hinv.same) (hs.lt hp))⟩ fun r u _ hu => getElem?_push_old hu
        · rw [lk_cons] at hv
          split at hv
          · rename_i e6
            subst e6
            cases hv
            refine ⟨vr, g, ?_, e2, by rw [e1]; simp⟩
            rw [hHl, ← hH.len]
            simp
          · rename_i hne
            have : AVR ({ w with drawn := w.drawn + 1 } : World) Pr ρ cargs v (a'.tmps.getD u undef) := by
              rcases hpath.final hv with ⟨j, o, h1, h2, h3⟩ | ⟨h1, h2⟩
              · refine hinv.done j o v u h1 h3 (hall j ?_) h2
                have hj : j < (idleL ia is 0 ops.toList).length := by
                  rcases Nat.lt_or_ge j (idleL ia is 0 ops.toList).length with h' | h'
                  · exact h'
                  · rw [List.getElem?_eq_none h'] at h1; cases h1
                rw [idleL_len] at hj
                simpa using hj
              · exact hinv.still u v h1 (Ne.symm hne) fun j o hj hd => absurd hd (h2 j o hj)
            exact this.keep (fun k hk => hinv.same.block k (hpw k hk)) (fun r u h => getElem?_push_old h)
        · rw [hHl]
          exact hHR
      · intro i
        rw [List.mem_range]
        constructor
        · intro hi; exact ⟨hi, by simp [Array.getD, hi]⟩
        · exact fun h => h.1
      · have hfalse : ∀ (j : Nat), (Array.replicate ops.size false).getD j true = true → j < ops.size → False := by
          intro j h1 h2
          simp [Array.getD, h2] at h1
        have hlt : ∀ (j : Nat) (o : Oper), (idleL ia is 0 ops.toList)[j]? = some o → j < ops.size := by
          intro j o hj
          have : j < (idleL ia is 0 ops.toList).length := by
            rcases Nat.lt_or_ge j (idleL ia is 0 ops.toList).length with h' | h'
            · exact h'
            · rw [List.getElem?_eq_none h'] at hj; cases hj
          rw [idleL_len] at this
          simpa using this
        have hlt2 : ∀ (j : Nat) (o : Oper), ops.toList[j]? = some o → j < ops.size := by
          intro j o hj
          rcases Nat.lt_or_ge j ops.toList.length with h' | h'
          · simpa using h'
          · rw [List.getElem?_eq_none h'] at hj; cases hj
        refine ⟨hs.size, hs.defers, Same.refl _, by simp, fun j o av u hj ha hl hd => (hfalse j hl (hlt j o hj)).elim, fun u v hv _ _ => (hs.slots u v hv).same hsame (hs.lt hp), fun j o hj hl => (hfalse j hl (hlt2 j o hj)).elim, fun hl => ?_⟩
        obtain ⟨oa, hoa, _⟩ := hst.a
        exact (hfalse ia hl (hlt2 ia oa hoa)).elim
    · cases hk
  · cases hk
end
end Go.Sm
namespace Go.Sm
open Go Go.RowKit
section
variable {P : Program} {T : TT} {Pr : Nat → Prop} {w0 : World} {cargs : List Value} {nt : Nat}
inductive Anc (os : List Oper) : Nat → Nat → Prop
  | edge (i : Nat) (o : Oper) (e : Go.Edge) : os[i]? = some o → e ∈ o.after → Region.binds .any e = true → Anc os e.on i
  | trans (j i : Nat) (o : Oper) (e : Go.Edge) : os[i]? = some o → e ∈ o.after → Region.binds .any e = true → Anc os j e.on → Anc os j i
theorem anc_listed {os : List Oper} {listed : Array Bool} (down : ∀ (j : Nat) (o : Oper), os[j]? = some o → listed.getD j true = true → ∀ e ∈ o.after, Region.binds .any e = true → listed.getD e.on true = true) {j i : Nat} (h : Anc os j i) :
    listed.getD i true = true → listed.getD j true = true := by
  induction h with
  | edge i o e h1 h2 h3 => exact fun hl => down i o h1 hl e h2 h3
  | trans j i o e h1 h2 h3 _ ih => exact fun hl => ih (down i o h1 hl e h2 h3)
theorem anc_ready {os : List Oper} {listed : Array Bool} (down : ∀ (j : Nat) (o : Oper), os[j]? = some o → listed.getD j true = true → ∀ e ∈ o.after, Region.binds .any e = true → listed.getD e.on true = true) {j i : Nat} (h : Anc os j i)
    {o : Oper} (ho : os[i]? = some o) (hall : ∀ e ∈ o.after, Region.binds .any e = true → listed.getD e.on true = true) : listed.getD j true = true := by
  cases h with
  | edge i o' e h1 h2 h3 =>
    rw [ho] at h1
    cases h1
    exact hall e h2 h3
  | trans j i o' e h1 h2 h3 h4 =>
    rw [ho] at h1
    cases h1
    exact anc_listed down h4 (hall e h2 h3)
theorem uni_mem {n : Nat} : ∀ {a b : List Nat}, n ∈ uni a b → n ∈ a ∨ n ∈ b
  | [], b, h => .inr h
  | m :: a, b, h => by
    unfold uni at h
    cases hm : memN m (uni a b) with
    | true =>
      rw [hm] at h
      rcases uni_mem (a := a) h with h | h
      · exact .inl (List.mem_cons_of_mem _ h)
      · exact .inr h
    | false =>
      rw [hm] at h
      simp only [cond_false, List.mem_cons] at h
      rcases h with h | h
      · exact .inl (by simp [h])
      · rcases uni_mem (a := a) h with h | h
        · exact .inl (List.mem_cons_of_mem _ h)
        · exact .inr h
theorem ancsL_mem {acc : List (List Nat)} {n : Nat} : ∀ {es : List Go.Edge}, n ∈ ancsL acc es → ∃ e ∈ es, Region.binds .any e = true ∧ (n = e.on ∨ n ∈ acc.getD e.on [])
  | [], h => by cases h
  | e :: es, h => by
    unfold ancsL at h
    cases hb : Region.binds .any e with
    | false =>
      rw [hb] at h
      obtain ⟨e', h1, h2⟩ := ancsL_mem (es := es) h
      exact ⟨e', List.mem_cons_of_mem _ h1, h2⟩
    | true =>
      rw [hb] at h
      simp only [cond_true] at h
      rcases uni_mem h with h | h
      · rw [List.mem_cons] at h
        exact ⟨e, by simp, hb, h⟩
      · obtain ⟨e', h1, h2⟩ := ancsL_mem (es := es) h
        exact ⟨e', List.mem_cons_of_mem _ h1, h2⟩
theorem behind_spec {all : List Oper} {p : Nat} : ∀ {os : List Oper} {n : Nat} {acc : List (List Nat)}, behindFrom p n acc os = true → acc.length = n → (∀ i o, os[i]? = some o → all[n + i]? = some o) →
    (∀ k j, j ∈ acc.getD k [] → Anc all j k) → ∀ i o, os[i]? = some o → p ≤ n + i → ∀ j, j < n + i → Anc all j (n + i)
  | [], _, _, _, _, _, _, i, o, h => by simp at h
  | o1 :: os, n, acc, h, hn, hos, hacc, i, o, hi => by
    unfold behindFrom at h
    rw [Bool.and_eq_true] at h
    have h0 : all[n]? = some o1 := hos 0 o1 rfl
    have hl : ∀ j, j ∈ ancsL acc o1.after.toList → Anc all j n := by
      intro j hj
      obtain ⟨e, h1, h2, h3⟩ := ancsL_mem hj
      rcases h3 with rfl | h3
      · exact .edge n o1 e h0 (by simpa using h1) h2
      · exact .trans j n o1 e h0 (by simpa using h1) h2 (hacc _ _ h3)
    cases i with
    | zero =>
      intro hp j hj
      rw [Nat.add_zero] at hp hj ⊢
      rw [Bool.or_eq_true] at h
      rcases h.1 with h1 | h1
      · have := Nat.le_of_ble_eq_true h1
        omega
      · exact hl j (memN_iff.1 (List.all_eq_true.1 h1 j (List.mem_range.2 hj)))
    | succ i =>
      have := behind_spec (all := all) (os := os) (n := n + 1) (acc := acc ++ [ancsL acc o1.after.toList]) h.2 (by simp [hn]) (fun i o hi => by rw [show n + 1 + i = n + (i + 1) by omega]; exact hos (i + 1) o (by simpa using hi)) (fun k j hj => by
        rcases Nat.lt_trichotomy k n with hk | hk | hk
        · rw [List.getD_eq_getElem?_getD, List.getElem?_append_left (by omega)] at hj
          exact hacc k j (by rw [List.getD_eq_getElem?_getD]; exact hj)
        · subst hk
          have e : (acc ++ [ancsL acc o1.after.toList])[k]? = some (ancsL acc o1.after.toList) := by rw [← hn]; simp
          rw [List.getD_eq_getElem?_getD, e] at hj
          exact hl j hj
        · have e : (acc ++ [ancsL acc o1.after.toList])[k]? = none := List.getElem?_eq_none (by simp; omega)
          rw [List.getD_eq_getElem?_getD, e] at hj
          cases hj) i o (by simpa using hi)
      rwa [show n + 1 + i = n + (i + 1) by omega] at this
theorem findB_spec : ∀ {os : List Oper} {n ib t x b : Nat}, findB n os = some (ib, t, x, b) → ∃ i o parts, ib = n + i ∧ os[i]? = some o ∧ o.op = .buildSlice t 1 parts ∧ parts.toList = [(0, .tmp x)] ∧ o.dst = some b ∧ o.guard = none
  | [], n, ib, t, x, b, h => by cases h
  | o :: os, n, ib, t, x, b, h => by
    unfold findB at h
    split at h
    · rename_i t' parts b' h1 h2 h3
      split at h
      · rename_i x' h4
        cases h
        exact ⟨0, o, parts, rfl, rfl, h1, h4, h2, h3⟩
      · obtain ⟨i, o', parts', h1, h2⟩ := findB_spec h
        exact ⟨i + 1, o', parts', by omega, by simpa using h2⟩
    · obtain ⟨i, o', parts', h1, h2⟩ := findB_spec h
      exact ⟨i + 1, o', parts', by omega, by simpa using h2⟩
theorem build_run (hT : TOK P T) {o : Oper} {t e x : Nat} {kd : K} {parts : Array (Nat × Operand)} {el : Elt} {a' : kd.ty} (hop : o.op = .buildSlice t 1 parts) (hparts : parts.toList = [(0, .tmp x)]) (hsl : T.sl t = some e) (hek : T.ek e = some kd) (hg : kd.g el = some a') (a : Act) (w : World)
    (hx : ElR el (a.tmps.getD x undef)) :
    Yields P o a w fun v w' => Same w w' ∧ ∃ g vs, v.ownBlock = some g ∧ w.heap.size ≤ g ∧ w'.ownsRow 0 e kd.sz v 1 vs ∧ AllR SCR (kd.f a').cells vs := by
  let kk : AV → Hp → R := fun av H => match av, H with
    | .fv (.own 0), [some row] => some ⟨[], some row⟩
    | _, _ => none
  have hrun : opK T false (.buildSlice t 1 parts) ⟨[(x, .fv (.el el))], []⟩ kk = some ⟨[], some ⟨e, ⟨kd, [a']⟩⟩⟩ := by
    have e1 : evO ⟨[(x, .fv (.el el))], []⟩ (.tmp x) = some (.el el) := by
      unfold evO
      dsimp only
      rw [lk_cons, if_pos rfl]
    have e2 : evParts ⟨[(x, .fv (.el el))], []⟩ parts.toList = some [(0, .el el)] := by
      rw [hparts]
      unfold evParts
      rw [e1]
      rfl
    have e3 : fillVec kd [(0, .el el)] (List.replicate 1 kd.z) = some [a'] := by
      unfold fillVec
      rw [hg]
      simp [fillVec]
    unfold opK
    simp only [cond_false, hsl, e2, hek, e3]
    rfl
  obtain ⟨av, H', hk, hdoes⟩ := does_buildSlice hT hop hrun
  dsimp only [kk] at hk
  split at hk
  · rename_i row
    simp only [Option.some.injEq, Out.mk.injEq, true_and] at hk
    subst hk
    have hH : HR w (fun k => k < w.heap.size) [] [] := ⟨rfl, fun r row h => by simp [rowAt] at h, fun r r' row row' v v' g _ h => by simp [rowAt] at h, LLR.noRow fun r => rfl⟩
    refine (hdoes a w (fun k => k < w.heap.size) [] [] (fun _ h => h) hH (Opd.of_slots fun t' _ v hv => ?_)).mono fun v w' ⟨ρ', _, hav, hHR, hkeep⟩ => ?_
    · rw [lk_cons] at hv
      split at hv
      · rename_i e1
        subst e1
        cases hv
        exact hx
      · cases hv
    · obtain ⟨v2, h4, vs, h5, h6, h7⟩ := hHR.row 0 ⟨e, ⟨kd, [a']⟩⟩ (rowAt_of rfl (hT.ek2 hek))
      have hav' : ρ'[0]? = some v := hav
      rw [hav'] at h4
      cases h4
      rw [flat1] at h6
      have hown : ∃ g, v.ownBlock = some g := by
        rcases h5.2 with h8 | ⟨g, cap, cur, rfl, _⟩
        · exact absurd h8.2 (by simp)
        · exact ⟨g, rfl⟩
      obtain ⟨g, hgo⟩ := hown
      exact ⟨⟨hkeep.os, hkeep.tape, hkeep.output, hkeep.size, hkeep.block⟩, g, vs, hgo, Nat.not_lt.1 (h7 g hgo), h5, h6⟩
  · cases hk
structure StatB (ops : Array Oper) (ib p b x t nt : Nat) : Prop where
  draw : drawOk ops = true
  pl : p ≤ ops.toList.length
  behind : ∀ (i : Nat) (o : Oper), ops.toList[i]? = some o → p ≤ i → ∀ j, j < i → Anc ops.toList j i
  bs : ib < p → (∃ o parts, ops.toList[ib]? = some o ∧ o.op = .buildSlice t 1 parts ∧ parts.toList = [(0, .tmp x)] ∧ o.dst = some b ∧ o.guard = none) ∧ b ≠ x ∧ b < nt
  clear : ∀ (i : Nat) (o : Oper), i < p → ops.toList[i]? = some o → ib < p → (i ≠ ib → o.dst ≠ some b ∧ b ∉ o.looksAt ops) ∧ (ib < i → o.dst ≠ some x)
structure Made (T : TT) (s' : St) (x t : Nat) (e : Nat) (kd : K) (el : Elt) (a' : kd.ty) : Prop where
  sl : T.sl t = some e
  ek : T.ek e = some kd
  lx : lk s'.sl x = some (.fv (.el el))
  g : kd.g el = some a'
structure InvB (Pr : Nat → Prop) (w1 : World) (ρ cargs : List Value) (nt : Nat) (ops : Array Oper) (ib p b e : Nat) (kd : K) (a' : kd.ty) (s : St) (avs : List AV) (listed : Array Bool) (a : Act) (w : World) : Prop where
  size : a.tmps.size = nt
  defers : a.defers = []
  same : Same w1 w
  lsize : listed.size = ops.size
  done : ∀ (j : Nat) (o : Oper) (av : AV) (u : Nat), (idleL ib ib 0 (ops.toList.take p))[j]? = some o → avs[j]? = some av → listed.getD j true = true → o.dst = some u → AVR w1 Pr ρ cargs av (a.tmps.getD u undef)
  still : ∀ (u : Nat) (v : AV), lk s.sl u = some v → (ib < p → u ≠ b) → (∀ (j : Nat) (o : Oper), (idleL ib ib 0 (ops.toList.take p))[j]? = some o → o.dst = some u → listed.getD j true = false) → AVR w1 Pr ρ cargs v (a.tmps.getD u undef)
  down : ∀ (j : Nat) (o : Oper), ops.toList[j]? = some o → listed.getD j true = true → ∀ e ∈ o.after, Region.binds .any e = true → listed.getD e.on true = true
  ext : ib < p → listed.getD ib true = true → ∃ g vs, (a.tmps.getD b undef).ownBlock = some g ∧ w1.heap.size ≤ g ∧ w.ownsRow 0 e kd.sz (a.tmps.getD b undef) 1 vs ∧ AllR SCR (kd.f a').cells vs
  suf : ∀ i, p ≤ i → i < ops.size → listed.getD i true = false
theorem front_get {ops : Array Oper} {ib p j : Nat} {o : Oper} (h : (idleL ib ib 0 (ops.toList.take p))[j]? = some o) : j < p ∧ ∃ q, ops.toList[j]? = some q ∧ o = if j = ib then idle q else q := by
  rw [idleL_get] at h
  obtain ⟨q, h1, h2⟩ := Option.map_eq_some_iff.1 h
  rw [List.getElem?_take] at h1
  split at h1
  · rename_i hj
    refine ⟨hj, q, h1, ?_⟩
    rw [← h2]
    simp
  · cases h1
theorem front_real {ops : Array Oper} {ib p j u : Nat} {o : Oper} (h : (idleL ib ib 0 (ops.toList.take p))[j]? = some o) (hd : o.dst = some u) : j < p ∧ ops.toList[j]? = some o ∧ j ≠ ib := by
  obtain ⟨h1, q, h2, h3⟩ := front_get h
  split at h3
  · subst h3; cases hd
  · rename_i hne
    subst h3
    exact ⟨h1, h2, hne⟩
theorem front_of {ops : Array Oper} {ib p j : Nat} {o : Oper} (hp : j < p) (h : ops.toList[j]? = some o) (hne : j ≠ ib) : (idleL ib ib 0 (ops.toList.take p))[j]? = some o := by
  rw [idleL_get, List.getElem?_take, if_pos hp, h]
  simp [hne]
theorem Guard.front {ops : Array Oper} {ib p : Nat} {g : Option (Nat × Bool)} {s s1 : St} {b : Bool} (h : Guard (idleL ib ib 0 (ops.toList.take p)) g s b s1) : Guard ops.toList g s b s1 := by
  cases h with
  | always h => exact .always h
  | test j want b o d h1 h2 h3 h4 => exact .test j want b o d h1 (front_real h2 h3).2.1 h3 h4
  | skip j want o d h1 h2 h3 h4 => exact .skip j want o d h1 (front_real h2 h3).2.1 h3 h4
theorem looks_build {ops : Array Oper} {o : Oper} {t n x : Nat} {parts : Array (Nat × Operand)} (h : o.op = .buildSlice t n parts) (hp : parts.toList = [(0, .tmp x)]) : x ∈ o.looksAt ops := by
  unfold Oper.looksAt
  rw [h]
  refine List.mem_append_left _ ?_
  have : parts = #[(0, .tmp x)] := by rw [← hp]
  subst this
  simp [Op.operands]
theorem invB_step (hT : TOK P T) {ops : Array Oper} {ib p b x t : Nat} (hst : StatB ops ib p b x t nt) {e : Nat} {kd : K} {el : Elt} {a' : kd.ty}
    {s s' : St} {avs : List AV} (hpath : Path P (idleL ib ib 0 (ops.toList.take p)) nt (idleL ib ib 0 (ops.toList.take p)) s avs s') (hm : ib < p → Made T s' x t e kd el a') {w1 : World} {ρ : List Value} (hp : ∀ k, Pr k → k < w1.heap.size) (hH : HR w1 Pr ρ s.H)
    {listed : Array Bool} {a : Act} {w : World} (hinv : InvB Pr w1 ρ cargs nt ops ib p b e kd a' s avs listed a w) {i : Nat} (hr : i ∈ Region.ready .any ops listed) (hip : i < p) {Q : Exit → Act → World → Prop} {K : Act → World → Prop}
    (hK : ∀ a2 w2, InvB Pr w1 ρ cargs nt ops ib p b e kd a' s avs (listed.setIfInBounds i true) a2 w2 → K a2 w2) : wpOp P ops Q i K a w := by
  obtain ⟨hun, o, ho, hall⟩ := mem_ready.1 hr
  have ho' : ops.toList[i]? = some o := by rw [← ho]; simp
  have hil : i < ops.toList.length := by
    rcases Nat.lt_or_ge i ops.toList.length with h' | h'
    · exact h'
    · rw [List.getElem?_eq_none h'] at ho'; cases ho'
  have hil' : i < listed.size := by rw [hinv.lsize]; simpa using hil
  have spec := draw_spec (all := ops) (n := 0) hst.draw
  simp only [Nat.zero_add] at spec
  have hp' : ∀ k, Pr k → k < w.heap.size := fun k hk => Nat.lt_of_lt_of_le (hp k hk) hinv.same.size
  have hdown : ∀ (j : Nat) (o' : Oper), ops.toList[j]? = some o' → (listed.setIfInBounds i true).getD j true = true → ∀ e' ∈ o'.after, Region.binds .any e' = true → (listed.setIfInBounds i true).getD e'.on true = true := by
    intro j o' hj hl e' he' hb'
    rw [getD_listed hil'] at hl ⊢
    split
    · rfl
    · by_cases e2 : i = j
      · subst e2
        rw [ho'] at hj
        cases hj
        exact getD_false (hall e' he' hb')
      · rw [if_neg e2] at hl
        exact hinv.down j o' hj hl e' he' hb'
  have hsuf : ∀ j, p ≤ j → j < ops.size → (listed.setIfInBounds i true).getD j true = false := by
    intro j h1 h2
    rw [getD_listed hil', if_neg (by omega)]
    exact hinv.suf j h1 h2
  have hstill : ∀ (u : Nat) (v : AV), lk s.sl u = some v → (ib < p → u ≠ b) → (∀ (j : Nat) (o' : Oper), (idleL ib ib 0 (ops.toList.take p))[j]? = some o' → o'.dst = some u → (listed.setIfInBounds i true).getD j true = false) → AVR w1 Pr ρ cargs v (a.tmps.getD u undef) := by
    intro u v hu hud hno
    refine hinv.still u v hu hud fun j o' hj hd => ?_
    have := hno j o' hj hd
    rw [getD_listed hil'] at this
    split at this
    · cases this
    · exact this
  have hother : ∀ (j : Nat) (o' : Oper) (av' : AV) (u : Nat), j ≠ i → (idleL ib ib 0 (ops.toList.take p))[j]? = some o' → avs[j]? = some av' → (listed.setIfInBounds i true).getD j true = true → o'.dst = some u → AVR w1 Pr ρ cargs av' (a.tmps.getD u undef) := by
    intro j o' av' u hne hj ha hl hd
    rw [getD_listed hil', if_neg (Ne.symm hne)] at hl
    exact hinv.done j o' av' u hj ha hl hd
  unfold wpOp
  rw [ho]
  dsimp only
  by_cases hib : i = ib
  · -- THE SLICE THAT IS MADE
    subst hib
    obtain ⟨⟨ob, parts, hob, hopb, hparts, hdstb, hgb⟩, hbx, hbn⟩ := hst.bs hip
    rw [hob] at ho'
    cases ho'
    obtain ⟨m1, m2, m3, m4⟩ := hm hip
    have hw : Region.wanted o (yielded ops a.tmps) = true := by unfold Region.wanted; rw [hgb]
    rw [if_pos hw]
    have hxv : ElR el (a.tmps.getD x undef) := by
      have : AVR w1 Pr ρ cargs (.fv (.el el)) (a.tmps.getD x undef) := by
        rcases hpath.final m3 with ⟨j, o', h1, h2, h3⟩ | ⟨h1, h2⟩
        · obtain ⟨hjp, hj, hne⟩ := front_real h1 h2
          rcases Nat.lt_trichotomy j i with h8 | h8 | h8
          · refine hinv.done j o' _ x h1 h3 ?_ h2
            have hpr := (spec j o' hj).2 i o h8 hob
            rcases (pair_spec hpr).1 with ⟨e', he', hb', hon⟩ | ⟨hno, _⟩
            · have := hall e' he' hb'
              rw [hon] at this
              exact getD_false this
            · exact absurd (looks_build hopb hparts) (hno x h2)
          · exact absurd h8 hne
          · exact absurd h2 ((hst.clear j o' hjp hj hip).2 h8)
        · exact hinv.still x _ h1 (fun _ => Ne.symm hbx) fun j o' hj hd => absurd hd (h2 j o' hj)
      exact this
    refine .inl ((build_run hT hopb hparts m1 m2 m4 a w hxv).wp ?_)
    rintro v w' ⟨hs, g, vs, h2, h3, h4, h5⟩
    have hgd : ∀ u, (a.put o.dst v).tmps.getD u undef = if b = u then v else a.tmps.getD u undef := by
      intro u
      rw [hdstb]
      simp only [Act.put]
      rw [getD_set _ _ _ _ (by rw [hinv.size]; exact hbn)]
    refine hK _ _ ⟨?_, ?_, hinv.same.trans hs, by simp [hinv.lsize], fun j o' av' u hj ha hl hd => ?_, fun u v' hu hud hno => ?_, hdown, fun _ _ => ?_, hsuf⟩
    · rw [hdstb]; simp [Act.put, hinv.size]
    · rw [hdstb]; exact hinv.defers
    · obtain ⟨hjp, hj', hne⟩ := front_real hj hd
      have hud : b ≠ u := fun e' => ((hst.clear j o' hjp hj' hip).1 hne).1 (by rw [e']; exact hd)
      rw [hgd u, if_neg hud]
      exact hother j o' av' u hne hj ha hl hd
    · rw [hgd u, if_neg (Ne.symm (hud hip))]
      exact hstill u v' hu hud hno
    · rw [hgd b, if_pos rfl]
      exact ⟨g, vs, h2, Nat.le_trans hinv.same.size h3, h4, h5⟩
  · -- ANY OTHER
    have hoi := front_of hip ho' hib
    obtain ⟨av, hav⟩ : ∃ av, avs[i]? = some av := ⟨_, List.getElem?_eq_getElem (by rw [hpath.len, idleL_len, List.length_take]; omega)⟩
    obtain ⟨hdst, si, s1, hsH, hstep, hslots⟩ := hpath.at hoi hav
    have hlook : ∀ u, u ∈ o.looksAt ops → ∀ v, lk si.sl u = some v → AVR w Pr ρ cargs v (a.tmps.getD u undef) := by
      intro u hu v hv
      refine AVR.same (w := w1) ?_ hinv.same hp
      have hud : ib < p → u ≠ b := fun hlt e' => ((hst.clear i o hip ho' hlt).1 hib).2 (by rw [← e']; exact hu)
      rcases hslots u v hv with ⟨j, o', h1, h2, h3, h4⟩ | ⟨h1, h2⟩
      · obtain ⟨_, h2', _⟩ := front_real h2 h3
        have hpr := ((spec j o' h2').2 i o h1 ho')
        rcases (pair_spec hpr).1 with ⟨e', he', hb', hon⟩ | ⟨hno, _⟩
        · refine hinv.done j o' v u h2 h4 ?_ h3
          have := hall e' he' hb'
          rw [hon] at this
          exact getD_false this
        · exact absurd hu (hno u h3)
      · refine hinv.still u v h1 hud fun j o' hj hd => ?_
        rcases Nat.lt_trichotomy j i with hlt' | heq | hgt
        · exact absurd hd (h2 j o' hlt' hj)
        · subst heq; exact hun
        · cases hl : listed.getD j true with
          | false => rfl
          | true =>
            obtain ⟨_, hj', _⟩ := front_real hj hd
            have hpr := (spec i o ho').2 j o' hgt hj'
            rcases (pair_spec hpr).1 with ⟨e', he', hb', hon⟩ | ⟨_, hno⟩
            · have := hinv.down j o' hj' hl e' he' hb'
              rw [hon, hun] at this
              cases this
            · exact absurd hu (hno u hd)
    have hnext : ∀ (v : Value) (w' : World), AVR w Pr ρ cargs av v → Same w w' → K (a.put o.dst v) w' := by
      intro v w' hv hs
      have hv1 : AVR w1 Pr ρ cargs av v := hv.back hinv.same hp
      refine hK _ _ ?_
      have hgd : ∀ (u : Nat), (a.put o.dst v).tmps.getD u undef = if o.dst = some u then v else a.tmps.getD u undef := by
        intro u
        cases hd : o.dst with
        | none => simp [Act.put]
        | some d' =>
          have hlt' : d' < a.tmps.size := by rw [hinv.size]; rw [hd] at hdst; exact of_decide_eq_true hdst
          simp only [Act.put]
          rw [getD_set _ _ _ _ hlt']
          simp
      refine ⟨?_, ?_, hinv.same.trans hs, by simp [hinv.lsize], fun j o' av' u hj ha hl hd => ?_, fun u v' hu hud hno => ?_, hdown, fun hlt hl => ?_, hsuf⟩
      · cases o.dst <;> simp [Act.put, hinv.size]
      · cases o.dst <;> exact hinv.defers
      · rw [hgd u]
        by_cases e' : j = i
        · subst e'
          rw [hoi] at hj
          cases hj
          rw [hav] at ha
          cases ha
          rw [if_pos hd]
          exact hv1
        · obtain ⟨_, hj', _⟩ := front_real hj hd
          have hne : o.dst ≠ some u := by
            rcases Nat.lt_or_gt_of_ne e' with h | h
            · exact fun h2 => (pair_spec ((spec j o' hj').2 i o h ho')).2 u hd h2
            · intro h2; exact (pair_spec ((spec i o ho').2 j o' h hj')).2 u h2 hd
          rw [if_neg hne]
          exact hother j o' av' u e' hj ha hl hd
      · rw [hgd u]
        have hne : o.dst ≠ some u := by
          intro h2
          have := hno i o hoi h2
          rw [getD_listed hil', if_pos rfl] at this
          cases this
        rw [if_neg hne]
        exact hstill u v' hu hud hno
      · rw [getD_listed hil', if_neg hib] at hl
        obtain ⟨g, vs, e2, e3, e4, e5⟩ := hinv.ext hlt hl
        have hb : (a.put o.dst v).tmps.getD b undef = a.tmps.getD b undef := by
          rw [hgd b, if_neg ((hst.clear i o hip ho' hlt).1 hib).1]
        rw [hb]
        exact ⟨g, vs, e2, e3, ownsRow_keep (fun g' hg' => hs.block g' ((e4.lt g' hg').2)) e4, e5⟩
    have hmem : ∀ u, optIn (some u) (o.looksAt ops) = true → u ∈ o.looksAt ops := fun u h => memN_iff.1 h
    rcases hstep with ⟨hg', hq⟩ | ⟨hg', rfl⟩
    · rw [if_pos (hg'.front.wanted (w := w) (Pr := Pr) (ρ := ρ) (cargs := cargs) fun u hd v hv => hlook u (hmem u hd) v hv)]
      refine .inl ((hq a w Pr ρ cargs hp' ?_ (Opd.of_slots fun u hu v hv => ?_)).wp fun v w' ⟨h1, h2⟩ => hnext v w' h1 h2)
      · rw [hg'.same.2, hsH]
        exact hH.keep hinv.same.block
      · refine hlook u ?_ v (by rw [← hg'.same.1 u]; exact hv)
        unfold Oper.looksAt
        refine List.mem_append_left _ (List.mem_filterMap.2 ⟨.tmp u, by simpa using hu, rfl⟩)
    · rw [if_neg (by rw [hg'.front.wanted (w := w) (Pr := Pr) (ρ := ρ) (cargs := cargs) fun u hd v hv => hlook u (hmem u hd) v hv]; exact Bool.false_ne_true)]
      exact hnext undef w rfl (Same.refl w)
theorem lt_size {ops : Array Oper} {i : Nat} {o : Oper} (h : ops.toList[i]? = some o) : i < ops.size := by
  rcases Nat.lt_or_ge i ops.toList.length with h' | h'
  · simpa using h'
  · rw [List.getElem?_eq_none h'] at h; cases h
theorem turn_ok (hT : TOK P T) (nf : Nat) (hp : ∀ k, Pr k → k < w0.heap.size) {ops : Array Oper} {ib p b x t : Nat} (hst : StatB ops ib p b x t nt) {Q : Exit → Act → World → Prop} {out : Out} {k : St → R} : ∀ (os : List Oper) (i : Nat) (s : St) (listed : Array Bool) (a : Act) (w : World) (ρ : List Value),
    ops.toList.drop i = os → p ≤ i → i + os.length = ops.size → listed.size = ops.size → (∀ j, j < ops.size → (listed.getD j true = true ↔ j < i)) → opsK T false nt ops.toList os s k = some out → SR Pr w0 cargs nt s a w ρ →
    (∀ s' a' w' ρ', k s' = some out → SR Pr w0 cargs nt s' a' w' ρ' → Ext nf ρ ρ' → Q .normal a' w') → wpAny P .any ops Q os.length listed a w
  | [], i, s, listed, a, w, ρ, hd, hpi, hil, hsz, hl, h, hs, hQ => by
    refine ⟨?_, hQ s a w ρ h hs (Ext.refl _ _)⟩
    apply List.eq_nil_iff_forall_not_mem.2
    intro j hj
    obtain ⟨h1, o, ho, _⟩ := mem_ready.1 hj
    have hj' : j < ops.size := lt_size (o := o) (by rw [← ho]; simp)
    have := (hl j hj').2 (by simp at hil; omega)
    rw [h1] at this
    cases this
  | o :: os, i, s, listed, a, w, ρ, hd, hpi, hil, hsz, hl, h, hs, hQ => by
    have hlen : i < ops.size := by simp at hil; omega
    have ho : ops.toList[i]? = some o := by
      have := congrArg (·[0]?) hd
      simpa using this
    have hun : listed.getD i true = false := by
      cases hb : listed.getD i true with
      | false => rfl
      | true => have := (hl i hlen).1 hb; omega
    have hdown : ∀ (j : Nat) (o' : Oper), ops.toList[j]? = some o' → listed.getD j true = true → ∀ e ∈ o'.after, Region.binds .any e = true → listed.getD e.on true = true := by
      intro j o' hj hlj e he hb
      have h1 := (draw_spec (all := ops) (n := 0) hst.draw j o' hj).1 e he hb
      have h2 := (hl j (lt_size hj)).1 hlj
      have h3 := lt_size hj
      simp only [Nat.zero_add] at h1
      exact (hl e.on (by omega)).2 (by omega)
    have hready : i ∈ Region.ready .any ops listed := by
      refine mem_ready.2 ⟨hun, o, by rw [← ho]; simp, fun e he hb => ?_⟩
      have hon := (draw_spec (all := ops) (n := 0) hst.draw i o ho).1 e he hb
      simp only [Nat.zero_add] at hon
      have htrue := (hl e.on (by omega)).2 hon
      have hls : e.on < listed.size := by rw [hsz]; omega
      simp [Array.getD, hls] at htrue ⊢
      exact htrue
    refine ⟨fun hempty => ?_, fun j hj => ?_⟩
    · rw [hempty] at hready; cases hready
    · obtain ⟨h1, o', ho', hall⟩ := mem_ready.1 hj
      have ho'' : ops.toList[j]? = some o' := by rw [← ho']; simp
      have hj' : j < ops.size := lt_size ho''
      have hij : j = i := by
        rcases Nat.lt_trichotomy j i with h2 | h2 | h2
        · rw [(hl j hj').2 h2] at h1; cases h1
        · exact h2
        · have := anc_ready hdown (hst.behind j o' ho'' (by omega) i h2) ho'' (fun e he hb => getD_false (hall e he hb))
          rw [hun] at this
          cases this
      subst hij
      rw [ho] at ho''
      cases ho''
      unfold opsK at h
      cases hdst : dstOk nt o.dst with
      | false => rw [hdst] at h; cases h
      | true =>
        rw [hdst] at h
        simp only [cond_true] at h
        obtain ⟨bb, s1, hg, h2⟩ := guardK_ok h
        have hw : Region.wanted o (yielded ops a.tmps) = bb := hg.wanted (w := w) (Pr := Pr) (ρ := ρ) (cargs := cargs) fun d _ v hv => hs.slots d v hv
        have hs1 := hs.guard hg
        have hl2 : ∀ q, q < ops.size → ((listed.setIfInBounds j true).getD q true = true ↔ q < j + 1) := by
          intro q hq
          rw [getD_listed (by rw [hsz]; exact hlen)]
          by_cases e : j = q
          · subst e; simp
          · rw [if_neg e, hl q hq]; omega
        have hd2 : ops.toList.drop (j + 1) = os := by
          rw [← List.drop_drop, hd]
          rfl
        unfold wpOp
        rw [ho']
        dsimp only
        rw [hw]
        cases bb with
        | false =>
          simp only [Bool.false_eq_true, if_false] at h2 ⊢
          exact turn_ok hT nf hp hst os (j + 1) _ _ _ w ρ hd2 (by omega) (by simp at hil; omega) (by simp [hsz]) hl2 h2 (hs1.put hdst (fun _ _ h => h) rfl hs1.heap (Keep.refl _ _)) hQ
        | true =>
          simp only [if_true] at h2 ⊢
          obtain ⟨av, H', hk, hdoes⟩ := opK_does hT h2
          refine .inl ((hdoes a w Pr ρ cargs (hs.lt hp) hs1.heap (Opd.of_slots fun t _ v hv => hs1.slots t v hv)).wp ?_)
          rintro v w' ⟨ρ', hr, hv, hH, hkeep⟩
          exact turn_ok hT nf hp hst os (j + 1) _ _ _ w' ρ' hd2 (by omega) (by simp at hil; omega) (by simp [hsz]) hl2 hk (hs1.put hdst hr hv hH hkeep) fun s2 a2 w2 ρ2 h2 hs2 he => hQ s2 a2 w2 ρ2 h2 hs2 fun r u h3 h4 => he r u h3 (hr r u h4)
theorem invB_any (hT : TOK P T) {ops : Array Oper} {ib p b x t : Nat} (hst : StatB ops ib p b x t nt) {e : Nat} {kd : K} {el : Elt} {a' : kd.ty}
    {s s' : St} {avs : List AV} (hpath : Path P (idleL ib ib 0 (ops.toList.take p)) nt (idleL ib ib 0 (ops.toList.take p)) s avs s') (hm : ib < p → Made T s' x t e kd el a') {w1 : World} {ρ : List Value} (hp : ∀ k, Pr k → k < w1.heap.size) (hH : HR w1 Pr ρ s.H)
    {Q : Exit → Act → World → Prop} (hQ : ∀ (listed : Array Bool) (a : Act) (w : World), InvB Pr w1 ρ cargs nt ops ib p b e kd a' s avs listed a w → (∀ j, j < ops.size → (listed.getD j true = true ↔ j < p)) → wpAny P .any ops Q (ops.toList.drop p).length listed a w) :
    ∀ (fuel : Nat) (left : List Nat) (listed : Array Bool) (a : Act) (w : World), left.length = fuel → left.Nodup → (∀ i, i ∈ left ↔ i < p ∧ listed.getD i true = false) → InvB Pr w1 ρ cargs nt ops ib p b e kd a' s avs listed a w → wpAny P .any ops Q (fuel + (ops.toList.drop p).length) listed a w := by
  have hpl : p ≤ ops.size := by simpa using hst.pl
  intro fuel
  induction fuel with
  | zero =>
    intro left listed a w hl hn hleft hinv
    have hnil : left = [] := List.eq_nil_of_length_eq_zero hl
    subst hnil
    rw [Nat.zero_add]
    refine hQ listed a w hinv fun j hj => ?_
    constructor
    · intro h
      rcases Nat.lt_or_ge j p with h2 | h2
      · exact h2
      · rw [hinv.suf j h2 hj] at h; cases h
    · intro h
      cases hb : listed.getD j true with
      | true => rfl
      | false => exact absurd ((hleft j).2 ⟨h, hb⟩) (by simp)
  | succ fuel ih =>
    intro left listed a w hl hn hleft hinv
    have hex : ∃ i, i ∈ left := by
      cases left with
      | nil => simp at hl
      | cons i l => exact ⟨i, by simp⟩
    rw [show fuel + 1 + (ops.toList.drop p).length = fuel + (ops.toList.drop p).length + 1 by omega]
    refine ⟨fun hempty => ?_, fun i hi => ?_⟩
    · exfalso
      obtain ⟨i0, hi0⟩ := hex
      have hmin : ∃ i, i ∈ left ∧ ∀ j, j < i → j ∉ left := by
        have key : ∀ n i, i ≤ n → i ∈ left → ∃ i, i ∈ left ∧ ∀ j, j < i → j ∉ left := by
          intro n
          induction n with
          | zero => intro i hi him; exact ⟨i, him, fun j hj => by omega⟩
          | succ n ihn =>
            intro i hi him
            by_cases h : ∃ j, j < i ∧ j ∈ left
            · obtain ⟨j, hj, hjm⟩ := h
              exact ihn j (by omega) hjm
            · exact ⟨i, him, fun j hj hjm => h ⟨j, hj, hjm⟩⟩
        exact key i0 i0 (Nat.le_refl _) hi0
      obtain ⟨i, him, hmini⟩ := hmin
      obtain ⟨hlt, hun⟩ := (hleft i).1 him
      obtain ⟨o, ho⟩ : ∃ o, ops[i]? = some o := ⟨_, Array.getElem?_eq_getElem (by omega)⟩
      have ho' : ops.toList[i]? = some o := by rw [← ho]; simp
      have hready : i ∈ Region.ready .any ops listed := by
        refine mem_ready.2 ⟨hun, o, ho, fun e he hb => ?_⟩
        have hon := (draw_spec (all := ops) (n := 0) hst.draw i o ho').1 e he hb
        simp only [Nat.zero_add] at hon
        have hnl : e.on ∉ left := hmini _ hon
        have htrue : listed.getD e.on true = true := by
          cases hb2 : listed.getD e.on true with
          | true => rfl
          | false => exact absurd ((hleft _).2 ⟨by omega, hb2⟩) hnl
        have hls : e.on < listed.size := by rw [hinv.lsize]; omega
        simp [Array.getD, hls] at htrue ⊢
        exact htrue
      rw [hempty] at hready
      cases hready
    · obtain ⟨h1, o, ho, hall⟩ := mem_ready.1 hi
      have ho' : ops.toList[i]? = some o := by rw [← ho]; simp
      have hlt := lt_size ho'
      have hip : i < p := by
        rcases Nat.lt_or_ge i p with h2 | h2
        · exact h2
        · exfalso
          obtain ⟨j, hj⟩ := hex
          obtain ⟨hjp, hju⟩ := (hleft j).1 hj
          have := anc_ready hinv.down (hst.behind i o ho' h2 j (by omega)) ho' (fun e he hb => getD_false (hall e he hb))
          rw [hju] at this
          cases this
      have him : i ∈ left := (hleft i).2 ⟨hip, h1⟩
      refine invB_step hT hst hpath hm hp hH hinv hi hip fun a2 w2 hinv' => ih (left.erase i) _ a2 w2 ?_ (hn.erase i) (fun j => ?_) hinv'
      · rw [List.length_erase_of_mem him, hl]; rfl
      · rw [hn.mem_erase_iff, hleft j, getD_listed (by rw [hinv.lsize]; exact hlt)]
        constructor
        · rintro ⟨hne, h2, h3⟩; exact ⟨h2, by rw [if_neg (Ne.symm hne)]; exact h3⟩
        · rintro ⟨h2, h3⟩
          split at h3
          · cases h3
          · rename_i e; exact ⟨Ne.symm e, h2, h3⟩
theorem bldK_ok {ib p t x b : Nat} {s' : St} {k : St → R} {out : Out} (h : bldK T ib p t x b s' k = some out) :
    (ib < p ∧ ∃ e kd el a', Made T s' x t e kd el a' ∧ k ⟨(b, .fv (.own s'.H.length)) :: s'.sl, s'.H ++ [some ⟨e, ⟨kd, [a']⟩⟩]⟩ = some out) ∨ (¬ ib < p ∧ k s' = some out) := by
  unfold bldK at h
  cases hb : Nat.blt ib p with
  | false =>
    rw [hb] at h
    refine .inr ⟨fun hlt => ?_, h⟩
    have : Nat.blt ib p = true := Nat.ble_eq_true_of_le hlt
    rw [hb] at this
    cases this
  | true =>
    rw [hb] at h
    simp only [cond_true] at h
    split at h
    · rename_i e he
      split at h
      · rename_i kd el hek hx
        split at h
        · rename_i a' hg
          exact .inl ⟨Nat.le_of_ble_eq_true hb, e, kd, el, a', ⟨he, hek, hx, hg⟩, h⟩
        · cases h
      · cases h
    · cases h
theorem drawnB_ok (hT : TOK P T) (hp : ∀ k, Pr k → k < w0.heap.size) {ops : Array Oper} {ib p b x t : Nat} (hst : StatB ops ib p b x t nt) {Q : Exit → Act → World → Prop} {out : Out} {k : St → R} {id : Nat} {s : St} {a : Act} {w : World} {ρ : List Value}
    (h : opsK T true nt (idleL ib ib 0 (ops.toList.take p)) (idleL ib ib 0 (ops.toList.take p)) s (fun s' => bldK T ib p t x b s' fun s2 => opsK T false nt ops.toList (ops.toList.drop p) s2 k) = some out)
    (hs : SR Pr w0 cargs nt s a w ρ) (nf : Nat) (hQ : ∀ s' a' w' ρ', k s' = some out → SR Pr w0 cargs nt s' a' w' ρ' → Ext nf ρ ρ' → Q .normal a' w') : (Code.region id ops true).wp P Q a w := by
  obtain ⟨avs, s', hpath, hk⟩ := opsK_path hT _ _ h
  have hpl : p ≤ ops.size := by simpa using hst.pl
  have hsame : Same w { w with drawn := w.drawn + 1 } := Same.drew w
  have hpw : ∀ k, Pr k → k < ({ w with drawn := w.drawn + 1 } : World).heap.size := hs.lt hp
  have hH : HR ({ w with drawn := w.drawn + 1 } : World) Pr ρ s.H := hs.heap.keep hsame.block
  have hdl : (ops.toList.drop p).length = ops.size - p := by simp
  refine wp_region_any hT.mo ?_
  have start : ∀ (e : Nat) (kd : K) (a' : kd.ty), InvB Pr ({ w with drawn := w.drawn + 1 } : World) ρ cargs nt ops ib p b e kd a' s avs (Array.replicate ops.size false) a { w with drawn := w.drawn + 1 } := by
    intro e kd a'
    have hfalse : ∀ (j : Nat), (Array.replicate ops.size false).getD j true = true → j < ops.size → False := by
      intro j h1 h2
      simp [Array.getD, h2] at h1
    refine ⟨hs.size, hs.defers, Same.refl _, by simp, fun j o av u hj ha hl hd => (hfalse j hl (lt_size (front_real hj hd).2.1)).elim, fun u v hv _ _ => (hs.slots u v hv).same hsame (hs.lt hp), fun j o hj hl => (hfalse j hl (lt_size hj)).elim, fun hlt hl => (hfalse ib hl (by omega)).elim, fun i _ h2 => by simp [Array.getD, h2]⟩
  have all0 : ∀ i, i ∈ List.range p ↔ i < p ∧ (Array.replicate ops.size false).getD i true = false := by
    intro i
    rw [List.mem_range]
    constructor
    · intro hi; exact ⟨hi, by have : i < ops.size := by omega
                              simp [Array.getD, this]⟩
    · exact fun h => h.1
  have slotsAt : ∀ (e : Nat) (kd : K) (a' : kd.ty) (listed : Array Bool) (a2 : Act) (w2 : World), InvB Pr ({ w with drawn := w.drawn + 1 } : World) ρ cargs nt ops ib p b e kd a' s avs listed a2 w2 → (∀ j, j < ops.size → (listed.getD j true = true ↔ j < p)) →
      ∀ u v, lk s'.sl u = some v → (ib < p → u ≠ b) → AVR ({ w with drawn := w.drawn + 1 } : World) Pr ρ cargs v (a2.tmps.getD u undef) := by
    intro e kd a' listed a2 w2 hinv hlist u v hv hub
    rcases hpath.final hv with ⟨j, o, h1, h2, h3⟩ | ⟨h1, h2⟩
    · have hj := front_real h1 h2
      exact hinv.done j o v u h1 h3 ((hlist j (lt_size hj.2.1)).2 hj.1) h2
    · exact hinv.still u v h1 hub fun j o hj hd => absurd hd (h2 j o hj)
  rw [show ops.size = p + (ops.toList.drop p).length by rw [hdl]; omega]
  have hrep : Array.replicate (p + (ops.toList.drop p).length) false = Array.replicate ops.size false := by rw [hdl]; congr 1; omega
  rw [hrep]
  rcases bldK_ok hk with ⟨hlt, e, kd, el, a', hmade, hk2⟩ | ⟨hlt, hk2⟩
  · refine invB_any (cargs := cargs) hT hst hpath (fun _ => hmade) hpw hH (fun listed a2 w2 hinv hlist => ?_) p (List.range p) _ a _ (by simp) List.nodup_range all0 (start e kd a')
    obtain ⟨g, vs, e2, e3, e4, e5⟩ := hinv.ext hlt ((hlist ib (by omega)).2 hlt)
    generalize hvr : a2.tmps.getD b undef = vr at e2 e4
    have hHl : s'.H = s.H := hpath.heap
    have hnew : RowR w2 Pr vr e ⟨kd, [a']⟩ := by
      refine ⟨vs, e4, by rw [flat1]; exact e5, fun g' hg' hpr => ?_⟩
      rw [e2] at hg'
      cases hg'
      exact absurd (hpw g hpr) (Nat.not_lt.2 e3)
    have hHR : HR w2 Pr (ρ ++ [vr]) (s.H ++ [some ⟨e, ⟨kd, [a']⟩⟩]) := hH.push hinv.same.block hnew (hT.ek2 hmade.ek) fun g' hg' => by rw [e2] at hg'; cases hg'; exact e3
    refine turn_ok hT nf hp hst (ops.toList.drop p) p _ listed a2 w2 (ρ ++ [vr]) rfl (Nat.le_refl _) (by rw [hdl]; omega) hinv.lsize hlist hk2 ⟨hinv.size, hinv.defers, fun u v hv => ?_, by rw [hHl]; exact hHR, hs.keep.trans (Keep.of_below (hsame.trans hinv.same) (hs.lt hp))⟩
      fun s3 a3 w3 ρ3 h3 hs3 he => hQ s3 a3 w3 ρ3 h3 hs3 fun r u h4 h5 => he r u h4 (getElem?_push_old h5)
    rw [lk_cons] at hv
    split at hv
    · rename_i e6
      subst e6
      cases hv
      show (ρ ++ [vr])[s'.H.length]? = some (a2.tmps.getD b undef)
      rw [hHl, ← hH.len, hvr]
      simp
    · rename_i hne
      exact (slotsAt e kd a' listed a2 w2 hinv hlist u v hv fun _ => Ne.symm hne).keep (fun k hk => hinv.same.block k (hpw k hk)) (fun r u h => getElem?_push_old h)
  · refine invB_any (cargs := cargs) (e := 0) (kd := .i64) (el := .ag []) (a' := (0 : Int)) hT hst hpath (fun h => absurd h hlt) hpw hH (fun listed a2 w2 hinv hlist => ?_) p (List.range p) _ a _ (by simp) List.nodup_range all0 (start 0 .i64 (0 : Int))
    refine turn_ok hT nf hp hst (ops.toList.drop p) p _ listed a2 w2 ρ rfl (Nat.le_refl _) (by rw [hdl]; omega) hinv.lsize hlist hk2 ⟨hinv.size, hinv.defers, fun u v hv => ?_, ?_, hs.keep.trans (Keep.of_below (hsame.trans hinv.same) (hs.lt hp))⟩ hQ
    · exact (slotsAt 0 .i64 (0 : Int) listed a2 w2 hinv hlist u v hv fun h => absurd h hlt).keep (fun k hk => hinv.same.block k (hpw k hk)) (fun r u h => h)
    · rw [hpath.heap]
      exact hH.keep hinv.same.block
end
end Go.Sm
namespace Go.Sm
open Go Go.RowKit
section
variable {P : Program} {T : TT} {Pr : Nat → Prop} {w0 : World} {cargs : List Value} {nt : Nat}
theorem idleM_get {is : List Nat} : ∀ (os : List Oper) (n i : Nat), (idleM is n os)[i]? = (os[i]?).map fun o => if n + i ∈ is then idle o else o
  | [], n, i => by simp [idleM]
  | o :: os, n, 0 => by
    unfold idleM
    by_cases h2 : n ∈ is
    · rw [memN_iff.2 h2]; simp [h2]
    · have : memN n is = false := by
        cases h : memN n is with
        | false => rfl
        | true => exact absurd (memN_iff.1 h) h2
      rw [this]; simp [h2]
  | o :: os, n, i + 1 => by
    unfold idleM
    rw [List.getElem?_cons_succ, List.getElem?_cons_succ, idleM_get os (n + 1) i]
    congr 1
    funext o
    rw [show n + 1 + i = n + (i + 1) by omega]
theorem idleM_len {is : List Nat} : ∀ (os : List Oper) (n : Nat), (idleM is n os).length = os.length
  | [], _ => rfl
  | _ :: os, n => by unfold idleM; rw [List.length_cons, List.length_cons, idleM_len os]
theorem frontM_get {ops : Array Oper} {is : List Nat} {p j : Nat} {o : Oper} (h : (idleM is 0 (ops.toList.take p))[j]? = some o) : j < p ∧ ∃ q, ops.toList[j]? = some q ∧ o = if j ∈ is then idle q else q := by
  rw [idleM_get] at h
  obtain ⟨q, h1, h2⟩ := Option.map_eq_some_iff.1 h
  rw [List.getElem?_take] at h1
  split at h1
  · rename_i hj
    refine ⟨hj, q, h1, ?_⟩
    rw [← h2]
    simp
  · cases h1
theorem frontM_real {ops : Array Oper} {is : List Nat} {p j u : Nat} {o : Oper} (h : (idleM is 0 (ops.toList.take p))[j]? = some o) (hd : o.dst = some u) : j < p ∧ ops.toList[j]? = some o ∧ j ∉ is := by
  obtain ⟨h1, q, h2, h3⟩ := frontM_get h
  split at h3
  · subst h3; cases hd
  · rename_i hne
    subst h3
    exact ⟨h1, h2, hne⟩
theorem frontM_of {ops : Array Oper} {is : List Nat} {p j : Nat} {o : Oper} (hp : j < p) (h : ops.toList[j]? = some o) (hne : j ∉ is) : (idleM is 0 (ops.toList.take p))[j]? = some o := by
  rw [idleM_get, List.getElem?_take, if_pos hp, h]
  simp [hne]
theorem Guard.frontM {ops : Array Oper} {is : List Nat} {p : Nat} {g : Option (Nat × Bool)} {s s1 : St} {b : Bool} (h : Guard (idleM is 0 (ops.toList.take p)) g s b s1) : Guard ops.toList g s b s1 := by
  cases h with
  | always h => exact .always h
  | test j want b o d h1 h2 h3 h4 => exact .test j want b o d h1 (frontM_real h2 h3).2.1 h3 h4
  | skip j want o d h1 h2 h3 h4 => exact .skip j want o d h1 (frontM_real h2 h3).2.1 h3 h4
def SpK.shape (k : SpK) (op : Op) : Prop :=
  match k with
  | .mk t x => op = .makeSlice t (.tmp x) (.tmp x)
  | .gh t => op = .alloc t
  | .cp b => op = .assign (.tmp b)
  | .mc t n => ∃ q q', op = .makeSlice t (.const (.int q n)) (.const (.int q' n))
  | .bs t n ps => ∃ parts, op = .buildSlice t n parts ∧ parts.toList = ps.map fun p => (p.1, .tmp p.2)
theorem slotsOf_spec : ∀ {l : List (Nat × Operand)} {ps : List (Nat × Nat)}, slotsOf l = some ps → l = ps.map fun p => (p.1, .tmp p.2)
  | [], ps, h => by cases h; rfl
  | (i, x) :: l, ps, h => by
    cases x with
    | tmp x =>
      unfold slotsOf at h
      split at h
      · rename_i qs hq
        cases h
        rw [slotsOf_spec hq]
        rfl
      · cases h
    | const c => cases h
    | global g => cases h
    | func f => cases h
theorem specials_spec {T : TT} : ∀ {os : List Oper} {n : Nat} {ms : List Nat}, (specials T n ms os).Pairwise (fun a b => a.i < b.i) ∧ ∀ sp ∈ specials T n ms os, ∃ q o, sp.i = n + q ∧ os[q]? = some o ∧ o.dst = some sp.d ∧ o.guard = none ∧ sp.k.shape o.op
  | [], n, ms => ⟨List.Pairwise.nil, fun sp h => by cases h⟩
  | o :: os, n, ms => by
    have tail : ∀ ms', (specials T (n + 1) ms' os).Pairwise (fun a b => a.i < b.i) ∧ ∀ sp ∈ specials T (n + 1) ms' os, ∃ q o', sp.i = n + q ∧ (o :: os)[q]? = some o' ∧ o'.dst = some sp.d ∧ o'.guard = none ∧ sp.k.shape o'.op := by
      intro ms'
      obtain ⟨h1, h2⟩ := specials_spec (os := os) (n := n + 1) (ms := ms')
      refine ⟨h1, fun sp hsp => ?_⟩
      obtain ⟨q, o', e1, e2, e3⟩ := h2 sp hsp
      exact ⟨q + 1, o', by omega, by simpa using e2, e3⟩
    have cons : ∀ ms' (sp0 : Sp), sp0.i = n → o.dst = some sp0.d → o.guard = none → sp0.k.shape o.op → (sp0 :: specials T (n + 1) ms' os).Pairwise (fun a b => a.i < b.i) ∧ ∀ sp ∈ sp0 :: specials T (n + 1) ms' os, ∃ q o', sp.i = n + q ∧ (o :: os)[q]? = some o' ∧ o'.dst = some sp.d ∧ o'.guard = none ∧ sp.k.shape o'.op := by
      intro ms' sp0 e1 e2 e3 e4
      obtain ⟨h1, h2⟩ := tail ms'
      refine ⟨List.Pairwise.cons (fun sp hsp => ?_) h1, fun sp hsp => ?_⟩
      · obtain ⟨q, o', f1, f2, _⟩ := (specials_spec (T := T) (os := os) (n := n + 1) (ms := ms')).2 sp hsp
        omega
      · rcases List.mem_cons.1 hsp with rfl | hsp
        · exact ⟨0, o, by omega, rfl, e2, e3, e4⟩
        · exact h2 sp hsp
    unfold specials
    split
    · rename_i t x y d h1 h2 h3
      cases hb : Nat.beq x y with
      | true =>
        have := Nat.eq_of_beq_eq_true hb
        subst this
        exact cons _ _ rfl h2 h3 h1
      | false => exact tail _
    · rename_i t q n q' m d h1 h2 h3
      cases hb : (decide (n = m) && isEl T t) with
      | true =>
        rw [Bool.and_eq_true, decide_eq_true_eq] at hb
        obtain ⟨hb, _⟩ := hb
        subst hb
        exact cons _ _ rfl h2 h3 ⟨q, q', h1⟩
      | false => exact tail _
    · rename_i t d h1 h2 h3
      split
      · exact cons _ _ rfl h2 h3 h1
      · exact tail _
    · rename_i b d h1 h2 h3
      cases hb : memN b ms with
      | true => exact cons _ _ rfl h2 h3 h1
      | false => exact tail _
    · rename_i t n' parts d h1 h2 h3
      split
      · rename_i ps hps
        cases hb : isEl T t with
        | true => exact cons _ _ rfl h2 h3 ⟨parts, h1, slotsOf_spec hps⟩
        | false => exact tail _
      · exact tail _
    · exact tail _
theorem every_spec {ops : Array Oper} {p : Nat} {f : Nat → Oper → Bool} (h : everyOp ops p f = true) (i : Nat) (o : Oper) (hi : i < p) (ho : ops.toList[i]? = some o) : f i o = true := by
  have := List.all_eq_true.1 h i (List.mem_range.2 hi)
  rw [ho] at this
  exact this
theorem same_no {e : Nat} {q : Option Nat} (hq : (!sameDst (some e) q) = true) : q ≠ some e := by
  intro he
  subst he
  simp [sameDst] at hq
def SpK.isMk : SpK → Prop
  | .mk _ _ => True
  | .bs _ _ _ => True
  | .mc _ _ => True
  | _ => False
structure StatG (ops : Array Oper) (nt p : Nat) (sps : List Sp) : Prop where
  draw : drawOk ops = true
  pl : p ≤ ops.toList.length
  behind : ∀ (i : Nat) (o : Oper), ops.toList[i]? = some o → p ≤ i → ∀ j, j < p → Anc ops.toList j i
  sorted : sps.Pairwise fun a b => a.i < b.i
  sop : ∀ sp ∈ sps, sp.i < p ∧ sp.d < nt ∧ ∃ o, ops.toList[sp.i]? = some o ∧ o.dst = some sp.d ∧ o.guard = none ∧ sp.k.shape o.op
  clear : ∀ sp ∈ sps, ∀ (j : Nat) (o : Oper), j < p → ops.toList[j]? = some o → j ∉ sps.map Sp.i → o.dst ≠ some sp.d ∧ sp.d ∉ o.looksAt ops
  mkx : ∀ sp ∈ sps, ∀ t x, sp.k = .mk t x → (∀ sp' ∈ sps, sp'.d ≠ x) ∧ ∀ (j : Nat) (o : Oper), sp.i < j → j < p → ops.toList[j]? = some o → o.dst ≠ some x
  cpb : ∀ sp ∈ sps, ∀ b, sp.k = .cp b → ∃ m ∈ sps, m.d = b ∧ m.i < sp.i ∧ m.k.isMk
  bsx : ∀ sp ∈ sps, ∀ t n ps, sp.k = .bs t n ps → ∀ q ∈ ps, (∀ sp' ∈ sps, sp'.d ≠ q.2) ∧ ∀ (j : Nat) (o : Oper), sp.i < j → j < p → ops.toList[j]? = some o → o.dst ≠ some q.2
theorem statSp_ok {ops : Array Oper} {p : Nat} {sps : List Sp} (hd : drawOk ops = true) (hs : sps = specials T 0 [] ops.toList) (h1 : p ≤ ops.toList.length) (h2 : ∀ (i : Nat) (o : Oper), ops.toList[i]? = some o → p ≤ i → ∀ j, j < p → Anc ops.toList j i) (h3 : statSp ops nt p sps = true) : StatG ops nt p sps := by
  unfold statSp at h3
  have hsp := specials_spec (T := T) (os := ops.toList) (n := 0) (ms := [])
  rw [← hs] at hsp
  have each : ∀ sp ∈ sps, (sp.i < p ∧ sp.d < nt) ∧ spkOk ops p sps sp.i sp.k = true ∧ everyOp ops p (fun j o => memN j (sps.map Sp.i) || (!sameDst (some sp.d) o.dst && !memN sp.d (o.looksAt ops))) = true := by
    intro sp hsp
    have := List.all_eq_true.1 h3 sp hsp
    rw [Bool.and_eq_true, Bool.and_eq_true, Bool.and_eq_true] at this
    exact ⟨⟨Nat.le_of_ble_eq_true this.1.1, Nat.le_of_ble_eq_true this.1.2⟩, this.2⟩
  refine ⟨hd, h1, h2, hsp.1, fun sp h => ?_, fun sp h j o hj ho hm => ?_, fun sp h t x hk => ?_, fun sp h b hk => ?_, fun sp h t n ps hk q hq => ?_⟩
  · obtain ⟨q, o, e1, e2, e3⟩ := hsp.2 sp h
    rw [Nat.zero_add] at e1
    subst e1
    exact ⟨(each sp h).1.1, (each sp h).1.2, o, e2, e3⟩
  · have := every_spec (each sp h).2.2 j o hj ho
    rw [Bool.or_eq_true, Bool.and_eq_true] at this
    rcases this with h4 | ⟨h4, h5⟩
    · exact absurd (memN_iff.1 h4) hm
    · refine ⟨same_no h4, fun hmem => ?_⟩
      rw [memN_iff.2 hmem] at h5
      cases h5
  · have := (each sp h).2.1
    rw [hk] at this
    unfold spkOk at this
    rw [Bool.and_eq_true] at this
    refine ⟨fun sp' h' e => ?_, fun j o hj hjp ho => ?_⟩
    · have h4 := List.all_eq_true.1 this.1 sp' h'
      rw [e, Nat.beq_refl] at h4
      cases h4
    · have h4 := every_spec this.2 j o hjp ho
      rw [Bool.or_eq_true] at h4
      rcases h4 with h4 | h4
      · have := Nat.le_of_ble_eq_true h4
        omega
      · exact same_no h4
  · have := (each sp h).2.1
    rw [hk] at this
    unfold spkOk at this
    obtain ⟨m, hm, h4⟩ := List.any_eq_true.1 this
    rw [Bool.and_eq_true, Bool.and_eq_true] at h4
    refine ⟨m, hm, Nat.eq_of_beq_eq_true h4.1, Nat.le_of_ble_eq_true h4.2.1, ?_⟩
    have h5 := h4.2.2
    split at h5
    · rename_i t x e
      rw [e]
      exact trivial
    · rename_i t x y e
      rw [e]
      exact trivial
    · rename_i t x e
      rw [e]
      exact trivial
    · cases h5
  · have := (each sp h).2.1
    rw [hk] at this
    unfold spkOk at this
    have := List.all_eq_true.1 this q hq
    rw [Bool.and_eq_true] at this
    refine ⟨fun sp' h' e => ?_, fun j o hj hjp ho => ?_⟩
    · have h4 := List.all_eq_true.1 this.1 sp' h'
      rw [e, Nat.beq_refl] at h4
      cases h4
    · have h4 := every_spec this.2 j o hjp ho
      rw [Bool.or_eq_true] at h4
      rcases h4 with h4 | h4
      · have := Nat.le_of_ble_eq_true h4
        omega
      · exact same_no h4
theorem statG_ok {ops : Array Oper} {p : Nat} {sps : List Sp} (hd : drawOk ops = true) (hs : sps = specials T 0 [] ops.toList) (h : statG ops nt p sps = true) : StatG ops nt p sps := by
  unfold statG at h
  rw [Bool.and_eq_true, Bool.and_eq_true] at h
  refine statSp_ok hd hs (Nat.le_of_ble_eq_true h.1) (fun i o ho hp j hj => ?_) h.2.2
  have := behind_spec (all := ops.toList) h.2.1 rfl (fun i o h => by rw [Nat.zero_add]; exact h) (fun k j hj => by simp at hj) i o ho (by omega) j (by omega)
  rwa [Nat.zero_add] at this
theorem make_run (hT : TOK P T) {o : Oper} {t e x : Nat} {kd : K} {q : IntKind} {n : Int} (hop : o.op = .makeSlice t (.tmp x) (.tmp x)) (hsl : T.sl t = some e) (hek : T.ek e = some kd) (hn : 0 ≤ n ∧ n ≤ 1099511627776) (a : Act) (w : World)
    (hx : a.tmps.getD x undef = .int q n) :
    Yields P o a w fun v w' => Same w w' ∧ ∃ vs, w'.ownsRow 0 e kd.sz v n.toNat vs ∧ AllR SCR (Vec.cells ⟨kd, List.replicate n.toNat kd.z⟩) vs ∧ ∀ g, v.ownBlock = some g → w.heap.size ≤ g := by
  let kk : AV → Hp → R := fun av H => match av, H with
    | .fv (.own 0), [some row] => some ⟨[], some row⟩
    | _, _ => none
  have hrun : opK T false (.makeSlice t (.tmp x) (.tmp x)) ⟨[(x, .fv (.el (.sc (.int q n))))], []⟩ kk = some ⟨[], some ⟨e, ⟨kd, List.replicate n.toNat kd.z⟩⟩⟩ := by
    have e1 : evO ⟨[(x, .fv (.el (.sc (.int q n))))], []⟩ (.tmp x) = some (.el (.sc (.int q n))) := by
      unfold evO
      dsimp only
      rw [lk_cons, if_pos rfl]
    unfold opK
    simp only [cond_false, hsl, e1, hek, hn.1, hn.2, and_self, decide_true, cond_true]
    rfl
  obtain ⟨av, H', hk, hdoes⟩ := does_makeSlice hT hop hrun
  dsimp only [kk] at hk
  split at hk
  · rename_i row
    simp only [Option.some.injEq, Out.mk.injEq, true_and] at hk
    subst hk
    have hH : HR w (fun k => k < w.heap.size) [] [] := ⟨rfl, fun r row h => by simp [rowAt] at h, fun r r' row row' v v' g _ h => by simp [rowAt] at h, LLR.noRow fun r => rfl⟩
    refine (hdoes a w (fun k => k < w.heap.size) [] [] (fun _ h => h) hH (Opd.of_slots fun t' _ v hv => ?_)).mono fun v w' ⟨ρ', _, hav, hHR, hkeep⟩ => ?_
    · rw [lk_cons] at hv
      split at hv
      · rename_i e1
        subst e1
        cases hv
        exact hx
      · cases hv
    · obtain ⟨v2, h4, vs, h5, h6, h7⟩ := hHR.row 0 ⟨e, ⟨kd, List.replicate n.toNat kd.z⟩⟩ (rowAt_of rfl (hT.ek2 hek))
      have hav' : ρ'[0]? = some v := hav
      rw [hav'] at h4
      cases h4
      have hlen : (List.replicate n.toNat kd.z).length = n.toNat := List.length_replicate
      dsimp only at h5
      rw [hlen] at h5
      exact ⟨⟨hkeep.os, hkeep.tape, hkeep.output, hkeep.size, hkeep.block⟩, vs, h5, h6, fun g hg => Nat.not_lt.1 (h7 g hg)⟩
  · cases hk
theorem elsOf_lk {sl : List (Nat × AV)} : ∀ {ps : List (Nat × Nat)} {els : List (Nat × Elt)}, elsOf sl ps = some els → ∀ p ∈ ps, ∃ e, lk sl p.2 = some (.fv (.el e))
  | [], _, _, p, hp => by cases hp
  | (i, x) :: ps, els, h, p, hp => by
    unfold elsOf at h
    split at h
    · rename_i e r he hr
      rcases List.mem_cons.1 hp with rfl | hp
      · exact ⟨e, he⟩
      · exact elsOf_lk hr p hp
    · cases h
theorem elsOf_parts {sl : List (Nat × AV)} : ∀ {ps : List (Nat × Nat)} {els : List (Nat × Elt)}, elsOf sl ps = some els → evParts ⟨sl, []⟩ (ps.map fun p => (p.1, .tmp p.2)) = some (els.map fun p => (p.1, .el p.2))
  | [], _, h => by cases h; rfl
  | (i, x) :: ps, els, h => by
    unfold elsOf at h
    split at h
    · rename_i e r he hr
      cases h
      have ih := elsOf_parts hr
      rw [List.map_cons, List.map_cons]
      unfold evParts
      have e1 : evO ⟨sl, []⟩ (.tmp x) = some (.el e) := by
        unfold evO
        dsimp only
        rw [he]
      rw [e1, ih]
    · cases h
theorem build_runN (hT : TOK P T) {o : Oper} {t e n : Nat} {kd : K} {parts : Array (Nat × Operand)} {ps : List (Nat × Nat)} {els : List (Nat × Elt)} {xs : List kd.ty} {sl : List (Nat × AV)} (hop : o.op = .buildSlice t n parts) (hparts : parts.toList = ps.map fun p => (p.1, .tmp p.2))
    (hsl : T.sl t = some e) (hek : T.ek e = some kd) (hels : elsOf sl ps = some els) (hfill : fillVec kd (els.map fun p => (p.1, .el p.2)) (List.replicate n kd.z) = some xs) (hn : n ≤ 65536) (a : Act) (w : World)
    (hx : ∀ p ∈ ps, ∀ e, lk sl p.2 = some (.fv (.el e)) → ElR e (a.tmps.getD p.2 undef)) :
    Yields P o a w fun v w' => Same w w' ∧ ∃ vs, w'.ownsRow 0 e kd.sz v xs.length vs ∧ AllR SCR (Vec.cells ⟨kd, xs⟩) vs ∧ ∀ g, v.ownBlock = some g → w.heap.size ≤ g := by
  let kk : AV → Hp → R := fun av H => match av, H with
    | .fv (.own 0), [some row] => some ⟨[], some row⟩
    | _, _ => none
  have hrun : opK T false (.buildSlice t n parts) ⟨sl, []⟩ kk = some ⟨[], some ⟨e, ⟨kd, xs⟩⟩⟩ := by
    have e2 : evParts ⟨sl, []⟩ parts.toList = some (els.map fun p => (p.1, .el p.2)) := by
      rw [hparts]
      exact elsOf_parts hels
    unfold opK
    simp only [cond_false, hsl, e2, hek, hfill, hn, decide_true, cond_true]
    rfl
  obtain ⟨av, H', hk, hdoes⟩ := does_buildSlice hT hop hrun
  dsimp only [kk] at hk
  split at hk
  · rename_i row
    simp only [Option.some.injEq, Out.mk.injEq, true_and] at hk
    subst hk
    have hH : HR w (fun k => k < w.heap.size) [] [] := ⟨rfl, fun r row h => by simp [rowAt] at h, fun r r' row row' v v' g _ h => by simp [rowAt] at h, LLR.noRow fun r => rfl⟩
    refine (hdoes a w (fun k => k < w.heap.size) [] [] (fun _ h => h) hH (Opd.of_slots fun t' ht' v hv => ?_)).mono fun v w' ⟨ρ', _, hav, hHR, hkeep⟩ => ?_
    · have hmem : ∃ p ∈ ps, p.2 = t' := by
        rw [hop] at ht'
        have : (Operand.tmp t') ∈ (parts.toList.map (·.2)) := by
          simpa [Op.operands] using ht'
        rw [hparts, List.map_map] at this
        obtain ⟨p, hp, he⟩ := List.mem_map.1 this
        simp at he
        exact ⟨p, hp, he⟩
      obtain ⟨p, hp, rfl⟩ := hmem
      obtain ⟨e', he'⟩ := elsOf_lk hels p hp
      have hv' : lk sl p.2 = some v := hv
      rw [he'] at hv'
      cases hv'
      exact hx p hp e' he'
    · obtain ⟨v2, h4, vs, h5, h6, h7⟩ := hHR.row 0 ⟨e, ⟨kd, xs⟩⟩ (rowAt_of rfl (hT.ek2 hek))
      have hav' : ρ'[0]? = some v := hav
      rw [hav'] at h4
      cases h4
      exact ⟨⟨hkeep.os, hkeep.tape, hkeep.output, hkeep.size, hkeep.block⟩, vs, h5, h6, fun g hg => Nat.not_lt.1 (h7 g hg)⟩
  · cases hk
theorem make_runC (hT : TOK P T) {o : Oper} {t e : Nat} {kd : K} {q q' : IntKind} {n : Int} (hop : o.op = .makeSlice t (.const (.int q n)) (.const (.int q' n))) (hsl : T.sl t = some e) (hek : T.ek e = some kd) (hn : 0 ≤ n ∧ n ≤ 1099511627776) (a : Act) (w : World) :
    Yields P o a w fun v w' => Same w w' ∧ ∃ vs, w'.ownsRow 0 e kd.sz v n.toNat vs ∧ AllR SCR (Vec.cells ⟨kd, List.replicate n.toNat kd.z⟩) vs ∧ ∀ g, v.ownBlock = some g → w.heap.size ≤ g := by
  let kk : AV → Hp → R := fun av H => match av, H with
    | .fv (.own 0), [some row] => some ⟨[], some row⟩
    | _, _ => none
  have hrun : opK T false (.makeSlice t (.const (.int q n)) (.const (.int q' n))) ⟨[], []⟩ kk = some ⟨[], some ⟨e, ⟨kd, List.replicate n.toNat kd.z⟩⟩⟩ := by
    have e1 : ∀ z : IntKind, evO ⟨[], []⟩ (.const (.int z n)) = some (.el (.sc (.int z n))) := fun z => rfl
    unfold opK
    simp only [cond_false, hsl, e1, hek, hn.1, hn.2, and_self, decide_true, cond_true]
    rfl
  obtain ⟨av, H', hk, hdoes⟩ := does_makeSlice hT hop hrun
  dsimp only [kk] at hk
  split at hk
  · rename_i row
    simp only [Option.some.injEq, Out.mk.injEq, true_and] at hk
    subst hk
    have hH : HR w (fun k => k < w.heap.size) [] [] := ⟨rfl, fun r row h => by simp [rowAt] at h, fun r r' row row' v v' g _ h => by simp [rowAt] at h, LLR.noRow fun r => rfl⟩
    refine (hdoes a w (fun k => k < w.heap.size) [] [] (fun _ h => h) hH (Opd.of_slots fun t' _ v hv => by cases hv)).mono fun v w' ⟨ρ', _, hav, hHR, hkeep⟩ => ?_
    obtain ⟨v2, h4, vs, h5, h6, h7⟩ := hHR.row 0 ⟨e, ⟨kd, List.replicate n.toNat kd.z⟩⟩ (rowAt_of rfl (hT.ek2 hek))
    have hav' : ρ'[0]? = some v := hav
    rw [hav'] at h4
    cases h4
    have hlen : (List.replicate n.toNat kd.z).length = n.toNat := List.length_replicate
    dsimp only at h5
    rw [hlen] at h5
    exact ⟨⟨hkeep.os, hkeep.tape, hkeep.output, hkeep.size, hkeep.block⟩, vs, h5, h6, fun g hg => Nat.not_lt.1 (h7 g hg)⟩
  · cases hk
theorem ghost_run (hT : TOK P T) {o : Oper} {t e : Nat} (hop : o.op = .alloc t) (hsl : T.sl t = some e) (a : Act) (w : World) :
    Yields P o a w fun v w' => Same w w' ∧ ∃ g, v = .pointer (some ⟨g, 0, none⟩) ∧ w.heap.size ≤ g ∧ w'.ownsRow 0 t 1 (.slice (some ⟨g, 0, none⟩) 1 1) 1 [.slice none 0 0] := by
  obtain ⟨i, hi, hsz, hz, _⟩ := hT.s1 t e hsl
  have hrun : (Instr.alloc t true (.tuple #[])).run P w = .ok (.pointer (some ⟨w.heap.size, 0, none⟩)) (w.alloc (.cells #[.slice none 0 0] t)) := by
    simp [Instr.alloc, zeroValue, typeInfo, hi, hz, newVar, newRow, Value.cells]
  refine yields_value (x := Instr.alloc t true (.tuple #[])) (by rw [exec_eq hop]; rfl) hrun ⟨(Below.refl _ _).alloc (Nat.le_refl _) _, w.heap.size, rfl, Nat.le_refl _, by simp, .inr ⟨w.heap.size, 1, #[.slice none 0 0], rfl, Nat.zero_le _, heap_alloc_new w _, Nat.le_refl _, maxLen_one, by simp, by simp⟩⟩
theorem VvR.mono {w : World} {Pr' : Nat → Prop} {v : Value} {k : K} {xss : List (List k.ty)} (hp : ∀ k, Pr k → Pr' k) (h : VvR w Pr v k xss) : VvR w Pr' v k xss := by
  rcases h with h | ⟨a, cap, h1, h2, h3, h4⟩
  · exact .inl h
  · exact .inr ⟨a, cap, h1, h2, h3.imp id (hp _), fun i xs hi => by obtain ⟨u, hu, hv⟩ := h4 i xs hi; exact ⟨u, hu, hv.mono hp⟩⟩
theorem PtR.mono {w : World} {Pr' : Nat → Prop} {ρ : List Value} {p : PT} {v : Value} (hp : ∀ k, Pr k → Pr' k) (h : PtR w Pr ρ p v) : PtR w Pr' ρ p v := by
  obtain ⟨b, sz, i, j⟩ := p
  cases b with
  | v vec => obtain ⟨a, h1, h2⟩ := h; exact ⟨a, hp _ h1, h2⟩
  | r r => exact h
  | w j => obtain ⟨a, u, h1, h2⟩ := h; exact ⟨a, u, hp _ h1, h2⟩
  | s kd xss => obtain ⟨a, h1, h2, h3⟩ := h; exact ⟨a, hp _ h1, fun i xs hi => by obtain ⟨u, hu, hv⟩ := h2 i xs hi; exact ⟨u, hu, hv.mono hp⟩, h3⟩
theorem FVR.mono {w : World} {Pr' : Nat → Prop} {ρ : List Value} {x : FV} {v : Value} (hp : ∀ k, Pr k → Pr' k) (h : FVR w Pr ρ cargs x v) : FVR w Pr' ρ cargs x v := by
  cases x with
  | el e => exact h
  | nil => exact h
  | vw o vec => exact ⟨h.1.mono hp, h.2⟩
  | own r => exact h
  | pt p => exact PtR.mono hp h
  | fn f caps => obtain ⟨cs, h1, h2⟩ := h; exact ⟨cs, h1, h2.mono fun _ _ => PtR.mono hp⟩
  | vv o kd xss => exact ⟨h.1.mono hp, h.2⟩
  | pv kd xss i => obtain ⟨a, h1, h2, h3⟩ := h; exact ⟨a, hp _ h1, fun i xs hi => by obtain ⟨u, hu, hv⟩ := h2 i xs hi; exact ⟨u, hu, hv.mono hp⟩, h3⟩
  | ne k => exact h
  | pl r i => exact h
  | mv r e π => obtain ⟨h1, v', g, us, a1, a2, a3, a4⟩ := h; exact ⟨h1, v', g, us, a1, a2, hp _ a3, a4⟩
  | pm r e π i => obtain ⟨h1, v', g, us, a1, a2, a3, a4⟩ := h; exact ⟨h1, v', g, us, a1, a2, hp _ a3, a4⟩
theorem AVR.mono {w : World} {Pr' : Nat → Prop} {ρ : List Value} {x : AV} {v : Value} (hp : ∀ k, Pr k → Pr' k) (h : AVR w Pr ρ cargs x v) : AVR w Pr' ρ cargs x v := by
  cases x with
  | un => exact h
  | fv x => exact FVR.mono hp h
  | tup xs => obtain ⟨vs, h1, h2⟩ := h; exact ⟨vs, h1, h2.mono fun _ _ => FVR.mono hp⟩
theorem LLR.more {w : World} {Pr' : Nat → Prop} {ρ : List Value} {H : Hp} (h : LLR w Pr ρ H) (hpr : ∀ k, k < w.heap.size → Pr' k → Pr k) : LLR w Pr' ρ H := by
  obtain ⟨I, hI⟩ := h
  refine ⟨I, fun r row z h1 h2 => ?_⟩
  obtain ⟨v, us, a1, a2, a3, ad, aa, a4, a5⟩ := hI r row z h1 h2
  exact ⟨v, us, a1, a2, a3, ad, aa, a4, fun g hg => ⟨(a5 g hg).1, fun h => (a5 g hg).2.1 (hpr g (a5 g hg).1 h), (a5 g hg).2.2⟩⟩
theorem at_more {H : Hp} {rows : List Row} {r : Nat} {row : Row} (h : (H ++ rows.map some)[r]? = some (some row)) : (r < H.length ∧ H[r]? = some (some row)) ∨ ∃ q, r = H.length + q ∧ rows[q]? = some row := by
  rcases Nat.lt_or_ge r H.length with hr | hr
  · rw [List.getElem?_append_left hr] at h
    exact .inl ⟨hr, h⟩
  · rw [List.getElem?_append_right hr, List.getElem?_map] at h
    obtain ⟨x, h1, h2⟩ := Option.map_eq_some_iff.1 h
    simp only [Option.some.injEq] at h2
    subst h2
    exact .inr ⟨r - H.length, by omega, h1⟩
theorem HR.grow {w1 w : World} {Pr' : Nat → Prop} {ρ : List Value} {H : Hp} {vs : List Value} {rows : List Row} (hH : HR w1 Pr ρ H) (hs : ∀ k, k < w1.heap.size → w.heap[k]? = w1.heap[k]?) (hpr : ∀ k, k < w1.heap.size → Pr' k → Pr k)
    (hrows : AllR (fun (row : Row) (v : Value) => RowR w Pr' v row.e row.v ∧ (∀ g, v.ownBlock = some g → w1.heap.size ≤ g) ∧ (row.v.k.is2 || row.v.k.isAl) = false) rows vs)
    (hd : vs.Pairwise fun v v' => ∀ g, v.ownBlock = some g → v'.ownBlock ≠ some g) : HR w Pr' (ρ ++ vs) (H ++ rows.map some) := by
  have hlen := hrows.length
  have key : ∀ {r : Nat} {row : Row}, rowAt (H ++ rows.map some) r = some row → (r < H.length ∧ rowAt H r = some row) ∨ ∃ q, r = H.length + q ∧ rows[q]? = some row := by
    intro r row h
    obtain ⟨h1, h2⟩ := rowAt_no h
    rcases at_more h2 with ⟨h3, h4⟩ | h3
    · exact .inl ⟨h3, rowAt_of h4 h1⟩
    · exact .inr h3
  have oldv : ∀ {r : Nat} {v : Value}, r < H.length → (ρ ++ vs)[r]? = some v → ρ[r]? = some v := by
    intro r v h1 h2
    rw [List.getElem?_append_left (by rw [hH.len]; exact h1)] at h2
    exact h2
  have newv : ∀ {q : Nat} {v : Value}, (ρ ++ vs)[H.length + q]? = some v → vs[q]? = some v := by
    intro q v h
    rw [← hH.len, List.getElem?_append_right (Nat.le_add_right _ _), Nat.add_sub_cancel_left] at h
    exact h
  refine ⟨by simp [hH.len, hlen], fun r row h => ?_, fun r r' row row' v v' g hne h1 h2 h3 h4 h5 h6 => ?_, (hH.ll.more hpr).step (size_same hs) (fun g hg _ => hs g hg) (fun r row h => ?_) (fun r p h => ?_) fun r row v g h1 h2 h3 => ?_⟩
  · rcases key h with ⟨hr, h1⟩ | ⟨q, rfl, h1⟩
    · obtain ⟨v, hv, hrr⟩ := hH.row r row h1
      refine ⟨v, by rw [List.getElem?_append_left (by rw [hH.len]; exact hr)]; exact hv, ?_⟩
      obtain ⟨us, e1, e2, e3⟩ := hrr
      exact ⟨us, ownsRow_keep (fun g hg => hs g (e1.lt g hg).2) e1, e2, fun g hg hp => e3 g hg (hpr g (e1.lt g hg).2 hp)⟩
    · obtain ⟨v, hv, hrr, _⟩ := hrows.get q row h1
      exact ⟨v, by rw [← hH.len, List.getElem?_append_right (Nat.le_add_right _ _), Nat.add_sub_cancel_left]; exact hv, hrr⟩
  · rcases key h1 with ⟨a1, a2⟩ | ⟨q, rfl, a2⟩ <;> rcases key h2 with ⟨b1, b2⟩ | ⟨q', rfl, b2⟩
    · exact hH.apart r r' row row' v v' g hne a2 b2 (oldv a1 h3) (oldv b1 h4) h5 h6
    · obtain ⟨u, hu, hrr⟩ := hH.row r row a2
      rw [oldv a1 h3] at hu
      cases hu
      obtain ⟨u', hu', _, hn, _⟩ := hrows.get q' row' b2
      rw [newv h4] at hu'
      cases hu'
      have := hrr.lt h5
      have := hn g h6
      omega
    · obtain ⟨u, hu, hrr⟩ := hH.row r' row' b2
      rw [oldv b1 h4] at hu
      cases hu
      obtain ⟨u', hu', _, hn, _⟩ := hrows.get q row a2
      rw [newv h3] at hu'
      cases hu'
      have := hrr.lt h6
      have := hn g h5
      omega
    · have hv := newv h3
      have hv' := newv h4
      have hp := List.pairwise_iff_getElem.1 hd
      obtain ⟨l1, e1⟩ := List.getElem?_eq_some_iff.1 hv
      obtain ⟨l2, e2⟩ := List.getElem?_eq_some_iff.1 hv'
      rcases Nat.lt_or_gt_of_ne (show q ≠ q' by omega) with hlt | hlt
      · exact hp q q' l1 l2 hlt g (by rw [e1]; exact h5) (by rw [e2]; exact h6)
      · exact hp q' q l2 l1 hlt g (by rw [e2]; exact h6) (by rw [e1]; exact h5)
  · obtain ⟨h1, h2⟩ := llAt_is2 h
    rcases at_more h2 with ⟨h3, h4⟩ | ⟨q, _, h3⟩
    · exact ⟨llAt_of h4 h1, List.getElem?_append_left (by rw [hH.len]; exact h3)⟩
    · obtain ⟨_, _, _, _, h4⟩ := hrows.get q row h3
      rw [h1] at h4
      cases h4
  · obtain ⟨e, h2⟩ := alAt_at h
    rcases at_more h2 with ⟨h3, h4⟩ | ⟨q, _, h3⟩
    · exact ⟨alAt_of h4, List.getElem?_append_left (by rw [hH.len]; exact h3)⟩
    · obtain ⟨_, _, _, _, h4⟩ := hrows.get q _ h3
      cases h4
  · rcases key h1 with ⟨a1, a2⟩ | ⟨q, rfl, a2⟩
    · exact .inr ⟨r, row, v, a2, oldv a1 h2, h3⟩
    · obtain ⟨u', hu', _, hn, _⟩ := hrows.get q row a2
      rw [newv h2] at hu'
      cases hu'
      exact .inl (hn g h3)
def Ext1 (T : TT) (s' : St) (w1 w : World) (f : Nat → Value) (sp : Sp) : Prop :=
  match sp.k with
  | .mk t x => ∃ e kd q n, T.sl t = some e ∧ T.ek e = some kd ∧ lk s'.sl x = some (.fv (.el (.sc (.int q n)))) ∧
      ∃ vs, w.ownsRow 0 e kd.sz (f sp.d) n.toNat vs ∧ AllR SCR (Vec.cells ⟨kd, List.replicate n.toNat kd.z⟩) vs ∧ ∀ g, (f sp.d).ownBlock = some g → w1.heap.size ≤ g
  | .gh t => ∃ g, f sp.d = .pointer (some ⟨g, 0, none⟩) ∧ w1.heap.size ≤ g ∧ w.ownsRow 0 t 1 (.slice (some ⟨g, 0, none⟩) 1 1) 1 [.slice none 0 0]
  | .cp b => f sp.d = f b
  | .mc t n => ∃ e kd, T.sl t = some e ∧ T.ek e = some kd ∧ ∃ vs, w.ownsRow 0 e kd.sz (f sp.d) n.toNat vs ∧ AllR SCR (Vec.cells ⟨kd, List.replicate n.toNat kd.z⟩) vs ∧ ∀ g, (f sp.d).ownBlock = some g → w1.heap.size ≤ g
  | .bs t n ps => ∃ e kd els xs, T.sl t = some e ∧ T.ek e = some kd ∧ elsOf s'.sl ps = some els ∧ fillVec kd (els.map fun p => (p.1, .el p.2)) (List.replicate n kd.z) = some xs ∧
      ∃ vs, w.ownsRow 0 e kd.sz (f sp.d) xs.length vs ∧ AllR SCR (Vec.cells ⟨kd, xs⟩) vs ∧ ∀ g, (f sp.d).ownBlock = some g → w1.heap.size ≤ g
def Pre1 (T : TT) (s' : St) (sp : Sp) : Prop :=
  match sp.k with
  | .mk t x => ∃ e kd q n, T.sl t = some e ∧ T.ek e = some kd ∧ lk s'.sl x = some (.fv (.el (.sc (.int q n)))) ∧ 0 ≤ n ∧ n ≤ 1099511627776
  | .gh t => ∃ e, T.sl t = some e
  | .cp _ => True
  | .mc t n => ∃ e kd, T.sl t = some e ∧ T.ek e = some kd ∧ 0 ≤ n ∧ n ≤ 1099511627776
  | .bs t n ps => ∃ e kd els xs, T.sl t = some e ∧ T.ek e = some kd ∧ elsOf s'.sl ps = some els ∧ fillVec kd (els.map fun p => (p.1, .el p.2)) (List.replicate n kd.z) = some xs ∧ n ≤ 65536
def gOf (k : SpK) (v : Value) : Option Nat :=
  match k, v with
  | .mk _ _, v => v.ownBlock
  | .bs _ _ _, v => v.ownBlock
  | .mc _ _, v => v.ownBlock
  | .gh _, .pointer (some a) => some a.block
  | _, _ => none
theorem Ext1.keep {T : TT} {s' : St} {w1 w w' : World} {f f' : Nat → Value} {sp : Sp} (h : Ext1 T s' w1 w f sp) (hs : Same w w') (hd : f' sp.d = f sp.d) (hb : ∀ b, sp.k = .cp b → f' b = f b) : Ext1 T s' w1 w' f' sp := by
  unfold Ext1 at *
  split
  · rename_i t x hk
    rw [hk] at h
    obtain ⟨e, kd, q, n, h1, h2, h3, vs, h4, h5⟩ := h
    exact ⟨e, kd, q, n, h1, h2, h3, vs, by rw [hd]; exact ownsRow_keep (fun g hg => hs.block g (h4.lt g hg).2) h4, by rw [hd]; exact h5⟩
  · rename_i t hk
    rw [hk] at h
    obtain ⟨g, h1, h2, h3⟩ := h
    exact ⟨g, hd.trans h1, h2, ownsRow_keep (fun g hg => hs.block g (h3.lt g hg).2) h3⟩
  · rename_i b hk
    rw [hk] at h
    rw [hd, hb b hk]
    exact h
  · rename_i t n hk
    rw [hk] at h
    obtain ⟨e, kd, h1, h2, vs, h4, h5⟩ := h
    exact ⟨e, kd, h1, h2, vs, by rw [hd]; exact ownsRow_keep (fun g hg => hs.block g (h4.lt g hg).2) h4, by rw [hd]; exact h5⟩
  · rename_i t n ps hk
    rw [hk] at h
    obtain ⟨e, kd, els, xs, h1, h2, h3, h3', vs, h4, h5⟩ := h
    exact ⟨e, kd, els, xs, h1, h2, h3, h3', vs, by rw [hd]; exact ownsRow_keep (fun g hg => hs.block g (h4.lt g hg).2) h4, by rw [hd]; exact h5⟩
theorem Ext1.lt {T : TT} {s' : St} {w1 w : World} {f : Nat → Value} {sp : Sp} (h : Ext1 T s' w1 w f sp) {g : Nat} (hg : gOf sp.k (f sp.d) = some g) : g < w.heap.size := by
  unfold Ext1 at h
  split at h
  · rename_i t x hk
    rw [hk] at hg
    obtain ⟨e, kd, q, n, h1, h2, h3, vs, h4, h5⟩ := h
    exact (h4.lt g hg).2
  · rename_i t hk
    rw [hk] at hg
    obtain ⟨g', h1, h2, h3⟩ := h
    rw [h1] at hg
    cases hg
    exact (h3.lt g' rfl).2
  · rename_i b hk
    rw [hk] at hg
    cases hg
  · rename_i t n hk
    rw [hk] at hg
    obtain ⟨e, kd, h1, h2, vs, h4, h5⟩ := h
    exact (h4.lt g hg).2
  · rename_i t n ps hk
    rw [hk] at hg
    obtain ⟨e, kd, els, xs, h1, h2, h3, h3', vs, h4, h5⟩ := h
    exact (h4.lt g hg).2
structure InvG (T : TT) (Pr : Nat → Prop) (w1 : World) (ρ cargs : List Value) (nt : Nat) (ops : Array Oper) (p : Nat) (sps : List Sp) (s s' : St) (avs : List AV) (listed : Array Bool) (a : Act) (w : World) : Prop where
  size : a.tmps.size = nt
  defers : a.defers = []
  same : Same w1 w
  lsize : listed.size = ops.size
  done : ∀ (j : Nat) (o : Oper) (av : AV) (u : Nat), (idleM (sps.map Sp.i) 0 (ops.toList.take p))[j]? = some o → avs[j]? = some av → listed.getD j true = true → o.dst = some u → AVR w1 Pr ρ cargs av (a.tmps.getD u undef)
  still : ∀ (u : Nat) (v : AV), lk s.sl u = some v → (∀ sp ∈ sps, sp.d ≠ u) → (∀ (j : Nat) (o : Oper), (idleM (sps.map Sp.i) 0 (ops.toList.take p))[j]? = some o → o.dst = some u → listed.getD j true = false) → AVR w1 Pr ρ cargs v (a.tmps.getD u undef)
  down : ∀ (j : Nat) (o : Oper), ops.toList[j]? = some o → listed.getD j true = true → ∀ e ∈ o.after, Region.binds .any e = true → listed.getD e.on true = true
  ext : ∀ sp ∈ sps, listed.getD sp.i true = true → Ext1 T s' w1 w (fun u => a.tmps.getD u undef) sp
  dist : ∀ sp ∈ sps, ∀ sp' ∈ sps, sp.i ≠ sp'.i → listed.getD sp.i true = true → listed.getD sp'.i true = true → ∀ g, gOf sp.k (a.tmps.getD sp.d undef) = some g → gOf sp'.k (a.tmps.getD sp'.d undef) ≠ some g
  suf : ∀ i, p ≤ i → i < ops.size → listed.getD i true = false
theorem StatG.uniq {ops : Array Oper} {p : Nat} {sps : List Sp} (hst : StatG ops nt p sps) {sp sp' : Sp} (h : sp ∈ sps) (h' : sp' ∈ sps) (e : sp.i = sp'.i) : sp = sp' := by
  have := hst.sorted
  clear hst
  induction sps with
  | nil => cases h
  | cons x xs ih =>
    rw [List.pairwise_cons] at this
    rcases List.mem_cons.1 h with h1 | h1 <;> rcases List.mem_cons.1 h' with h2 | h2
    · rw [h1, h2]
    · subst h1
      have := this.1 sp' h2
      omega
    · subst h2
      have := this.1 sp h1
      omega
    · exact ih h1 h2 this.2
theorem StatG.dne {ops : Array Oper} {p : Nat} {sps : List Sp} (hst : StatG ops nt p sps) {sp sp' : Sp} (h : sp ∈ sps) (h' : sp' ∈ sps) (e : sp.i ≠ sp'.i) : sp.d ≠ sp'.d := by
  intro hd
  obtain ⟨_, _, o, h1, h2, _⟩ := hst.sop sp h
  obtain ⟨_, _, o', h1', h2', _⟩ := hst.sop sp' h'
  have spec := draw_spec (all := ops) (n := 0) hst.draw
  simp only [Nat.zero_add] at spec
  rcases Nat.lt_or_gt_of_ne e with hlt | hlt
  · exact (pair_spec ((spec sp.i o h1).2 sp'.i o' hlt h1')).2 sp.d h2 (by rw [h2', hd])
  · exact (pair_spec ((spec sp'.i o' h1').2 sp.i o hlt h1)).2 sp'.d h2' (by rw [h2, hd])
theorem StatG.made {ops : Array Oper} {p : Nat} {sps : List Sp} (hst : StatG ops nt p sps) {sp : Sp} (h : sp ∈ sps) {b : Nat} (hk : sp.k = .cp b) : ∃ m ∈ sps, m.d = b ∧ m.i < sp.i ∧ m.k.isMk ∧ ∀ o, ops.toList[sp.i]? = some o → ∃ e ∈ o.after, Region.binds .any e = true ∧ e.on = m.i := by
  obtain ⟨m, hm, h1, h2, h3⟩ := hst.cpb sp h b hk
  refine ⟨m, hm, h1, h2, h3, fun o ho => ?_⟩
  obtain ⟨_, _, o', e1, e2, e3, e4⟩ := hst.sop sp h
  rw [ho] at e1
  cases e1
  obtain ⟨_, _, om, f1, f2, _⟩ := hst.sop m hm
  have spec := draw_spec (all := ops) (n := 0) hst.draw
  simp only [Nat.zero_add] at spec
  rcases (pair_spec ((spec m.i om f1).2 sp.i o h2 ho)).1 with h5 | ⟨h5, _⟩
  · exact h5
  · refine absurd ?_ (h5 m.d f2)
    unfold SpK.shape at e4
    rw [hk] at e4
    unfold Oper.looksAt
    rw [e4]
    exact List.mem_append_left _ (by simp [Op.operands, h1])
theorem looks_make {ops : Array Oper} {o : Oper} {t x : Nat} (h : o.op = .makeSlice t (.tmp x) (.tmp x)) : x ∈ o.looksAt ops := by
  unfold Oper.looksAt
  rw [h]
  exact List.mem_append_left _ (by simp [Op.operands])
theorem looks_bs {ops : Array Oper} {o : Oper} {t n : Nat} {parts : Array (Nat × Operand)} {ps : List (Nat × Nat)} (h : o.op = .buildSlice t n parts) (hp : parts.toList = ps.map fun p => (p.1, .tmp p.2)) {q : Nat × Nat} (hq : q ∈ ps) : q.2 ∈ o.looksAt ops := by
  unfold Oper.looksAt
  rw [h]
  refine List.mem_append_left _ (List.mem_filterMap.2 ⟨.tmp q.2, ?_, rfl⟩)
  have : (Operand.tmp q.2) ∈ parts.toList.map (·.2) := by
    rw [hp, List.map_map]
    exact List.mem_map.2 ⟨q, hq, rfl⟩
  simpa [Op.operands] using this
end
end Go.Sm
namespace Go.Sm
open Go Go.RowKit
section
variable {P : Program} {T : TT} {Pr : Nat → Prop} {w0 : World} {cargs : List Value} {nt : Nat}
theorem invG_step (hT : TOK P T) {ops : Array Oper} {p : Nat} {sps : List Sp} (hst : StatG ops nt p sps)
    {s s' : St} {avs : List AV} (hpath : Path P (idleM (sps.map Sp.i) 0 (ops.toList.take p)) nt (idleM (sps.map Sp.i) 0 (ops.toList.take p)) s avs s') (hm : ∀ sp ∈ sps, Pre1 T s' sp) {w1 : World} {ρ : List Value} (hp : ∀ k, Pr k → k < w1.heap.size) (hH : HR w1 Pr ρ s.H)
    {listed : Array Bool} {a : Act} {w : World} (hinv : InvG T Pr w1 ρ cargs nt ops p sps s s' avs listed a w) {i : Nat} (hr : i ∈ Region.ready .any ops listed) (hip : i < p) {Q : Exit → Act → World → Prop} {K : Act → World → Prop}
    (hK : ∀ a2 w2, InvG T Pr w1 ρ cargs nt ops p sps s s' avs (listed.setIfInBounds i true) a2 w2 → K a2 w2) : wpOp P ops Q i K a w := by
  obtain ⟨hun, o, ho, hall⟩ := mem_ready.1 hr
  have ho' : ops.toList[i]? = some o := by rw [← ho]; simp
  have hil : i < ops.toList.length := by
    rcases Nat.lt_or_ge i ops.toList.length with h' | h'
    · exact h'
    · rw [List.getElem?_eq_none h'] at ho'; cases ho'
  have hil' : i < listed.size := by rw [hinv.lsize]; simpa using hil
  have spec := draw_spec (all := ops) (n := 0) hst.draw
  simp only [Nat.zero_add] at spec
  have hp' : ∀ k, Pr k → k < w.heap.size := fun k hk => Nat.lt_of_lt_of_le (hp k hk) hinv.same.size
  have hdown : ∀ (j : Nat) (o' : Oper), ops.toList[j]? = some o' → (listed.setIfInBounds i true).getD j true = true → ∀ e' ∈ o'.after, Region.binds .any e' = true → (listed.setIfInBounds i true).getD e'.on true = true := by
    intro j o' hj hl e' he' hb'
    rw [getD_listed hil'] at hl ⊢
    split
    · rfl
    · by_cases e2 : i = j
      · subst e2
        rw [ho'] at hj
        cases hj
        exact getD_false (hall e' he' hb')
      · rw [if_neg e2] at hl
        exact hinv.down j o' hj hl e' he' hb'
  have hsuf : ∀ j, p ≤ j → j < ops.size → (listed.setIfInBounds i true).getD j true = false := by
    intro j h1 h2
    rw [getD_listed hil', if_neg (by omega)]
    exact hinv.suf j h1 h2
  have hstill : ∀ (u : Nat) (v : AV), lk s.sl u = some v → (∀ sp ∈ sps, sp.d ≠ u) → (∀ (j : Nat) (o' : Oper), (idleM (sps.map Sp.i) 0 (ops.toList.take p))[j]? = some o' → o'.dst = some u → (listed.setIfInBounds i true).getD j true = false) → AVR w1 Pr ρ cargs v (a.tmps.getD u undef) := by
    intro u v hu hud hno
    refine hinv.still u v hu hud fun j o' hj hd => ?_
    have := hno j o' hj hd
    rw [getD_listed hil'] at this
    split at this
    · cases this
    · exact this
  have hother : ∀ (j : Nat) (o' : Oper) (av' : AV) (u : Nat), j ≠ i → (idleM (sps.map Sp.i) 0 (ops.toList.take p))[j]? = some o' → avs[j]? = some av' → (listed.setIfInBounds i true).getD j true = true → o'.dst = some u → AVR w1 Pr ρ cargs av' (a.tmps.getD u undef) := by
    intro j o' av' u hne hj ha hl hd
    rw [getD_listed hil', if_neg (Ne.symm hne)] at hl
    exact hinv.done j o' av' u hj ha hl hd
  have hmade : ∀ sp ∈ sps, ∀ b, sp.k = .cp b → listed.getD sp.i true = true → ∃ m ∈ sps, m.d = b ∧ listed.getD m.i true = true := by
    intro sp hsp b hk hl
    obtain ⟨m, hm', h1, h2, _, h4⟩ := hst.made hsp hk
    obtain ⟨_, _, o', e1, _⟩ := hst.sop sp hsp
    obtain ⟨e', he', hb', hon⟩ := h4 o' e1
    have := hinv.down sp.i o' e1 hl e' he' hb'
    rw [hon] at this
    exact ⟨m, hm', h1, this⟩
  unfold wpOp
  rw [ho]
  dsimp only
  by_cases hib : i ∈ sps.map Sp.i
  · -- WHAT IS LOOKED AT BY ITSELF
    obtain ⟨sp, hsp, hspi⟩ := List.mem_map.1 hib
    subst hspi
    obtain ⟨_, hdn, o2, ho2, hdst, hgd, hshape⟩ := hst.sop sp hsp
    rw [ho'] at ho2
    cases ho2
    have hw : Region.wanted o (yielded ops a.tmps) = true := by unfold Region.wanted; rw [hgd]
    rw [if_pos hw]
    have hgd' : ∀ (v : Value) (u : Nat), (a.put o.dst v).tmps.getD u undef = if sp.d = u then v else a.tmps.getD u undef := by
      intro v u
      rw [hdst]
      simp only [Act.put]
      rw [getD_set _ _ _ _ (by rw [hinv.size]; exact hdn)]
    have hnext : ∀ (v : Value) (w' : World), Same w w' → Ext1 T s' w1 w' (fun u => (a.put o.dst v).tmps.getD u undef) sp → (∀ g, gOf sp.k v = some g → w.heap.size ≤ g) → K (a.put o.dst v) w' := by
      intro v w' hs hext hg
      have hold : ∀ sp' ∈ sps, sp'.i ≠ sp.i → (a.put o.dst v).tmps.getD sp'.d undef = a.tmps.getD sp'.d undef := by
        intro sp' h' hne
        rw [hgd' v, if_neg (hst.dne hsp h' (Ne.symm hne))]
      have hlold : ∀ sp' ∈ sps, sp'.i ≠ sp.i → (listed.setIfInBounds sp.i true).getD sp'.i true = true → listed.getD sp'.i true = true := by
        intro sp' h' hne hl
        rw [getD_listed hil', if_neg (Ne.symm hne)] at hl
        exact hl
      refine hK _ _ ⟨?_, ?_, hinv.same.trans hs, by simp [hinv.lsize], fun j o' av' u hj ha hl hd => ?_, fun u v' hu hud hno => ?_, hdown, fun sp' h' hl => ?_, fun q hq q' hq' hne hl hl' g hg1 => ?_, hsuf⟩
      · rw [hdst]; simp [Act.put, hinv.size]
      · rw [hdst]; exact hinv.defers
      · obtain ⟨hjp, hj', hne⟩ := frontM_real hj hd
        have hud : sp.d ≠ u := fun e' => (hst.clear sp hsp j o' hjp hj' hne).1 (by rw [e']; exact hd)
        rw [hgd' v u, if_neg hud]
        exact hother j o' av' u (fun e => hne (by rw [e]; exact hib)) hj ha hl hd
      · rw [hgd' v u, if_neg (hud sp hsp)]
        exact hstill u v' hu hud hno
      · by_cases e : sp'.i = sp.i
        · have := hst.uniq h' hsp e
          subst this
          exact hext
        · refine (hinv.ext sp' h' (hlold sp' h' e hl)).keep hs (hold sp' h' e) fun b hk => ?_
          obtain ⟨m, hm', h1, h2⟩ := hmade sp' h' b hk (hlold sp' h' e hl)
          have hne : m.i ≠ sp.i := by
            intro h3
            rw [h3, hun] at h2
            cases h2
          rw [← h1]
          exact hold m hm' hne
      · by_cases e : q.i = sp.i
        · have := hst.uniq hq hsp e
          subst this
          have e2 : q'.i ≠ q.i := Ne.symm hne
          rw [hgd' v, if_pos rfl] at hg1
          rw [hold q' hq' e2]
          intro hg2
          have h3 := hg g hg1
          have h4 := (hinv.ext q' hq' (hlold q' hq' e2 hl')).lt hg2
          omega
        · rw [hold q hq e] at hg1
          by_cases e2 : q'.i = sp.i
          · have := hst.uniq hq' hsp e2
            subst this
            rw [hgd' v, if_pos rfl]
            intro hg2
            have h3 := hg g hg2
            have h4 := (hinv.ext q hq (hlold q hq e hl)).lt hg1
            omega
          · rw [hold q' hq' e2]
            exact hinv.dist q hq q' hq' hne (hlold q hq e hl) (hlold q' hq' e2 hl') g hg1
    have hpre := hm sp hsp
    unfold Pre1 at hpre
    unfold SpK.shape at hshape
    cases hk : sp.k with
    | mk t x =>
      rw [hk] at hpre hshape
      obtain ⟨e, kd, q, n, m1, m2, m3, m4⟩ := hpre
      obtain ⟨hx1, hx2⟩ := hst.mkx sp hsp t x hk
      have hxv : a.tmps.getD x undef = .int q n := by
        have : AVR w1 Pr ρ cargs (.fv (.el (.sc (.int q n)))) (a.tmps.getD x undef) := by
          rcases hpath.final m3 with ⟨j, o', h1, h2, h3⟩ | ⟨h1, h2⟩
          · obtain ⟨hjp, hj, hne⟩ := frontM_real h1 h2
            rcases Nat.lt_trichotomy j sp.i with h8 | h8 | h8
            · refine hinv.done j o' _ x h1 h3 ?_ h2
              have hpr := (spec j o' hj).2 sp.i o h8 ho'
              rcases (pair_spec hpr).1 with ⟨e', he', hb', hon⟩ | ⟨hno, _⟩
              · have := hall e' he' hb'
                rw [hon] at this
                exact getD_false this
              · exact absurd (looks_make hshape) (hno x h2)
            · exact absurd (h8 ▸ hib) hne
            · exact absurd h2 (hx2 j o' h8 hjp hj)
          · exact hinv.still x _ h1 hx1 fun j o' hj hd => absurd hd (h2 j o' hj)
        exact this
      refine .inl ((make_run hT hshape m1 m2 m4 a w hxv).wp ?_)
      rintro v w' ⟨hs, vs, h3, h4, h5⟩
      refine hnext v w' hs ?_ (fun g hg => ?_)
      · unfold Ext1
        rw [hk]
        dsimp only
        rw [hgd' v sp.d, if_pos rfl]
        exact ⟨e, kd, q, n, m1, m2, m3, vs, h3, h4, fun g hg => Nat.le_trans hinv.same.size (h5 g hg)⟩
      · rw [hk] at hg
        exact h5 g hg
    | mc t n =>
      rw [hk] at hpre hshape
      obtain ⟨e, kd, m1, m2, m3⟩ := hpre
      obtain ⟨q, q', hop⟩ := hshape
      refine .inl ((make_runC hT hop m1 m2 m3 a w).wp ?_)
      rintro v w' ⟨hs, vs, h3, h4, h5⟩
      refine hnext v w' hs ?_ (fun g hg => ?_)
      · unfold Ext1
        rw [hk]
        dsimp only
        rw [hgd' v sp.d, if_pos rfl]
        exact ⟨e, kd, m1, m2, vs, h3, h4, fun g hg => Nat.le_trans hinv.same.size (h5 g hg)⟩
      · rw [hk] at hg
        exact h5 g hg
    | bs t n ps =>
      rw [hk] at hpre hshape
      obtain ⟨e, kd, els, xs, m1, m2, m3, m4, m5⟩ := hpre
      obtain ⟨parts, hop, hparts⟩ := hshape
      have hxv : ∀ q ∈ ps, ∀ e', lk s'.sl q.2 = some (.fv (.el e')) → ElR e' (a.tmps.getD q.2 undef) := by
        intro q hq e' he'
        obtain ⟨hx1, hx2⟩ := hst.bsx sp hsp t n ps hk q hq
        have : AVR w1 Pr ρ cargs (.fv (.el e')) (a.tmps.getD q.2 undef) := by
          rcases hpath.final he' with ⟨j, o', h1, h2, h3⟩ | ⟨h1, h2⟩
          · obtain ⟨hjp, hj, hne⟩ := frontM_real h1 h2
            rcases Nat.lt_trichotomy j sp.i with h8 | h8 | h8
            · refine hinv.done j o' _ q.2 h1 h3 ?_ h2
              have hpr := (spec j o' hj).2 sp.i o h8 ho'
              rcases (pair_spec hpr).1 with ⟨e'', he'', hb', hon⟩ | ⟨hno, _⟩
              · have := hall e'' he'' hb'
                rw [hon] at this
                exact getD_false this
              · exact absurd (looks_bs hop hparts hq) (hno q.2 h2)
            · exact absurd (h8 ▸ hib) hne
            · exact absurd h2 (hx2 j o' h8 hjp hj)
          · exact hinv.still q.2 _ h1 hx1 fun j o' hj hd => absurd hd (h2 j o' hj)
        exact this
      refine .inl ((build_runN hT hop hparts m1 m2 m3 m4 m5 a w hxv).wp ?_)
      rintro v w' ⟨hs, vs, h3, h4, h5⟩
      refine hnext v w' hs ?_ (fun g hg => ?_)
      · unfold Ext1
        rw [hk]
        dsimp only
        rw [hgd' v sp.d, if_pos rfl]
        exact ⟨e, kd, els, xs, m1, m2, m3, m4, vs, h3, h4, fun g hg => Nat.le_trans hinv.same.size (h5 g hg)⟩
      · rw [hk] at hg
        exact h5 g hg
    | gh t =>
      rw [hk] at hpre hshape
      obtain ⟨e, m1⟩ := hpre
      refine .inl ((ghost_run hT hshape m1 a w).wp ?_)
      rintro v w' ⟨hs, g, h3, h4, h5⟩
      refine hnext v w' hs ?_ (fun g' hg => ?_)
      · unfold Ext1
        rw [hk]
        dsimp only
        rw [hgd' v sp.d, if_pos rfl]
        exact ⟨g, h3, Nat.le_trans hinv.same.size h4, h5⟩
      · rw [hk, h3] at hg
        cases hg
        exact h4
    | cp b =>
      rw [hk] at hshape
      have hrun : Yields P o a w fun v w' => v = a.tmps.getD b undef ∧ w' = w := by
        unfold Yields
        rw [exec_eq hshape]
        simp [execOp, Act.eval]
      refine .inl (hrun.wp ?_)
      rintro v w' ⟨rfl, rfl⟩
      refine hnext _ _ (Same.refl _) ?_ (fun g hg => ?_)
      · unfold Ext1
        rw [hk]
        dsimp only
        obtain ⟨m, hm', h1, h2, _, h4⟩ := hst.made hsp hk
        have hbd : sp.d ≠ b := by
          rw [← h1]
          exact hst.dne hsp hm' (by omega)
        rw [hgd' _ sp.d, if_pos rfl, hgd' _ b, if_neg hbd]
      · rw [hk] at hg
        cases hg
  · -- ANY OTHER
    have hoi := frontM_of hip ho' hib
    obtain ⟨av, hav⟩ : ∃ av, avs[i]? = some av := ⟨_, List.getElem?_eq_getElem (by rw [hpath.len, idleM_len, List.length_take]; omega)⟩
    obtain ⟨hdst, si, s1, hsH, hstep, hslots⟩ := hpath.at hoi hav
    have hlook : ∀ u, u ∈ o.looksAt ops → ∀ v, lk si.sl u = some v → AVR w Pr ρ cargs v (a.tmps.getD u undef) := by
      intro u hu v hv
      refine AVR.same (w := w1) ?_ hinv.same hp
      have hud : ∀ sp ∈ sps, sp.d ≠ u := fun sp hsp e' => (hst.clear sp hsp i o hip ho' hib).2 (by rw [e']; exact hu)
      rcases hslots u v hv with ⟨j, o', h1, h2, h3, h4⟩ | ⟨h1, h2⟩
      · obtain ⟨_, h2', _⟩ := frontM_real h2 h3
        have hpr := ((spec j o' h2').2 i o h1 ho')
        rcases (pair_spec hpr).1 with ⟨e', he', hb', hon⟩ | ⟨hno, _⟩
        · refine hinv.done j o' v u h2 h4 ?_ h3
          have := hall e' he' hb'
          rw [hon] at this
          exact getD_false this
        · exact absurd hu (hno u h3)
      · refine hinv.still u v h1 hud fun j o' hj hd => ?_
        rcases Nat.lt_trichotomy j i with hlt' | heq | hgt
        · exact absurd hd (h2 j o' hlt' hj)
        · subst heq; exact hun
        · cases hl : listed.getD j true with
          | false => rfl
          | true =>
            obtain ⟨_, hj', _⟩ := frontM_real hj hd
            have hpr := (spec i o ho').2 j o' hgt hj'
            rcases (pair_spec hpr).1 with ⟨e', he', hb', hon⟩ | ⟨_, hno⟩
            · have := hinv.down j o' hj' hl e' he' hb'
              rw [hon, hun] at this
              cases this
            · exact absurd hu (hno u hd)
    have hnext : ∀ (v : Value) (w' : World), AVR w Pr ρ cargs av v → Same w w' → K (a.put o.dst v) w' := by
      intro v w' hv hs
      have hv1 : AVR w1 Pr ρ cargs av v := hv.back hinv.same hp
      refine hK _ _ ?_
      have hgd : ∀ (u : Nat), (a.put o.dst v).tmps.getD u undef = if o.dst = some u then v else a.tmps.getD u undef := by
        intro u
        cases hd : o.dst with
        | none => simp [Act.put]
        | some d' =>
          have hlt' : d' < a.tmps.size := by rw [hinv.size]; rw [hd] at hdst; exact of_decide_eq_true hdst
          simp only [Act.put]
          rw [getD_set _ _ _ _ hlt']
          simp
      have hkeep : ∀ sp ∈ sps, (a.put o.dst v).tmps.getD sp.d undef = a.tmps.getD sp.d undef := by
        intro sp hsp
        rw [hgd, if_neg (hst.clear sp hsp i o hip ho' hib).1]
      have hl0 : ∀ sp ∈ sps, (listed.setIfInBounds i true).getD sp.i true = true → listed.getD sp.i true = true := by
        intro sp hsp hl
        have hne : ¬ i = sp.i := fun e => hib (by rw [e]; exact List.mem_map.2 ⟨sp, hsp, rfl⟩)
        rw [getD_listed hil', if_neg hne] at hl
        exact hl
      refine ⟨?_, ?_, hinv.same.trans hs, by simp [hinv.lsize], fun j o' av' u hj ha hl hd => ?_, fun u v' hu hud hno => ?_, hdown, fun sp hsp hl => ?_, fun q hq q' hq' hne hl hl' g hg => ?_, hsuf⟩
      · cases o.dst <;> simp [Act.put, hinv.size]
      · cases o.dst <;> exact hinv.defers
      · rw [hgd u]
        by_cases e' : j = i
        · subst e'
          rw [hoi] at hj
          cases hj
          rw [hav] at ha
          cases ha
          rw [if_pos hd]
          exact hv1
        · obtain ⟨_, hj', _⟩ := frontM_real hj hd
          have hne : o.dst ≠ some u := by
            rcases Nat.lt_or_gt_of_ne e' with h | h
            · exact fun h2 => (pair_spec ((spec j o' hj').2 i o h ho')).2 u hd h2
            · intro h2; exact (pair_spec ((spec i o ho').2 j o' h hj')).2 u h2 hd
          rw [if_neg hne]
          exact hother j o' av' u e' hj ha hl hd
      · rw [hgd u]
        have hne : o.dst ≠ some u := by
          intro h2
          have := hno i o hoi h2
          rw [getD_listed hil', if_pos rfl] at this
          cases this
        rw [if_neg hne]
        exact hstill u v' hu hud hno
      · refine (hinv.ext sp hsp (hl0 sp hsp hl)).keep hs (hkeep sp hsp) fun b hk => ?_
        obtain ⟨m, hm', h1, _⟩ := hst.cpb sp hsp b hk
        rw [← h1]
        exact hkeep m hm'
      · rw [hkeep q hq] at hg
        rw [hkeep q' hq']
        exact hinv.dist q hq q' hq' hne (hl0 q hq hl) (hl0 q' hq' hl') g hg
    have hmem : ∀ u, optIn (some u) (o.looksAt ops) = true → u ∈ o.looksAt ops := fun u h => memN_iff.1 h
    rcases hstep with ⟨hg', hq⟩ | ⟨hg', rfl⟩
    · rw [if_pos (hg'.frontM.wanted (w := w) (Pr := Pr) (ρ := ρ) (cargs := cargs) fun u hd v hv => hlook u (hmem u hd) v hv)]
      refine .inl ((hq a w Pr ρ cargs hp' ?_ (Opd.of_slots fun u hu v hv => ?_)).wp fun v w' ⟨h1, h2⟩ => hnext v w' h1 h2)
      · rw [hg'.same.2, hsH]
        exact hH.keep hinv.same.block
      · refine hlook u ?_ v (by rw [← hg'.same.1 u]; exact hv)
        unfold Oper.looksAt
        refine List.mem_append_left _ (List.mem_filterMap.2 ⟨.tmp u, by simpa using hu, rfl⟩)
    · rw [if_neg (by rw [hg'.frontM.wanted (w := w) (Pr := Pr) (ρ := ρ) (cargs := cargs) fun u hd v hv => hlook u (hmem u hd) v hv]; exact Bool.false_ne_true)]
      exact hnext undef w rfl (Same.refl w)
theorem invG_any (hT : TOK P T) {ops : Array Oper} {p : Nat} {sps : List Sp} (hst : StatG ops nt p sps)
    {s s' : St} {avs : List AV} (hpath : Path P (idleM (sps.map Sp.i) 0 (ops.toList.take p)) nt (idleM (sps.map Sp.i) 0 (ops.toList.take p)) s avs s') (hm : ∀ sp ∈ sps, Pre1 T s' sp) {w1 : World} {ρ : List Value} (hp : ∀ k, Pr k → k < w1.heap.size) (hH : HR w1 Pr ρ s.H)
    {Q : Exit → Act → World → Prop} (hQ : ∀ (listed : Array Bool) (a : Act) (w : World), InvG T Pr w1 ρ cargs nt ops p sps s s' avs listed a w → (∀ j, j < ops.size → (listed.getD j true = true ↔ j < p)) → wpAny P .any ops Q (ops.toList.drop p).length listed a w) :
    ∀ (fuel : Nat) (left : List Nat) (listed : Array Bool) (a : Act) (w : World), left.length = fuel → left.Nodup → (∀ i, i ∈ left ↔ i < p ∧ listed.getD i true = false) → InvG T Pr w1 ρ cargs nt ops p sps s s' avs listed a w → wpAny P .any ops Q (fuel + (ops.toList.drop p).length) listed a w := by
  have hpl : p ≤ ops.size := by simpa using hst.pl
  intro fuel
  induction fuel with
  | zero =>
    intro left listed a w hl hn hleft hinv
    have hnil : left = [] := List.eq_nil_of_length_eq_zero hl
    subst hnil
    rw [Nat.zero_add]
    refine hQ listed a w hinv fun j hj => ?_
    constructor
    · intro h
      rcases Nat.lt_or_ge j p with h2 | h2
      · exact h2
      · rw [hinv.suf j h2 hj] at h; cases h
    · intro h
      cases hb : listed.getD j true with
      | true => rfl
      | false => exact absurd ((hleft j).2 ⟨h, hb⟩) (by simp)
  | succ fuel ih =>
    intro left listed a w hl hn hleft hinv
    have hex : ∃ i, i ∈ left := by
      cases left with
      | nil => simp at hl
      | cons i l => exact ⟨i, by simp⟩
    rw [show fuel + 1 + (ops.toList.drop p).length = fuel + (ops.toList.drop p).length + 1 by omega]
    refine ⟨fun hempty => ?_, fun i hi => ?_⟩
    · exfalso
      obtain ⟨i0, hi0⟩ := hex
      have hmin : ∃ i, i ∈ left ∧ ∀ j, j < i → j ∉ left := by
        have key : ∀ n i, i ≤ n → i ∈ left → ∃ i, i ∈ left ∧ ∀ j, j < i → j ∉ left := by
          intro n
          induction n with
          | zero => intro i hi him; exact ⟨i, him, fun j hj => by omega⟩
          | succ n ihn =>
            intro i hi him
            by_cases h : ∃ j, j < i ∧ j ∈ left
            · obtain ⟨j, hj, hjm⟩ := h
              exact ihn j (by omega) hjm
            · exact ⟨i, him, fun j hj hjm => h ⟨j, hj, hjm⟩⟩
        exact key i0 i0 (Nat.le_refl _) hi0
      obtain ⟨i, him, hmini⟩ := hmin
      obtain ⟨hlt, hun⟩ := (hleft i).1 him
      obtain ⟨o, ho⟩ : ∃ o, ops[i]? = some o := ⟨_, Array.getElem?_eq_getElem (by omega)⟩
      have ho' : ops.toList[i]? = some o := by rw [← ho]; simp
      have hready : i ∈ Region.ready .any ops listed := by
        refine mem_ready.2 ⟨hun, o, ho, fun e he hb => ?_⟩
        have hon := (draw_spec (all := ops) (n := 0) hst.draw i o ho').1 e he hb
        simp only [Nat.zero_add] at hon
        have hnl : e.on ∉ left := hmini _ hon
        have htrue : listed.getD e.on true = true := by
          cases hb2 : listed.getD e.on true with
          | true => rfl
          | false => exact absurd ((hleft _).2 ⟨by omega, hb2⟩) hnl
        have hls : e.on < listed.size := by rw [hinv.lsize]; omega
        simp [Array.getD, hls] at htrue ⊢
        exact htrue
      rw [hempty] at hready
      cases hready
    · obtain ⟨h1, o, ho, hall⟩ := mem_ready.1 hi
      have ho' : ops.toList[i]? = some o := by rw [← ho]; simp
      have hlt := lt_size ho'
      have hip : i < p := by
        rcases Nat.lt_or_ge i p with h2 | h2
        · exact h2
        · exfalso
          obtain ⟨j, hj⟩ := hex
          obtain ⟨hjp, hju⟩ := (hleft j).1 hj
          have := anc_ready hinv.down (hst.behind i o ho' h2 j (by omega)) ho' (fun e he hb => getD_false (hall e he hb))
          rw [hju] at this
          cases this
      have him : i ∈ left := (hleft i).2 ⟨hip, h1⟩
      refine invG_step hT hst hpath hm hp hH hinv hi hip fun a2 w2 hinv' => ih (left.erase i) _ a2 w2 ?_ (hn.erase i) (fun j => ?_) hinv'
      · rw [List.length_erase_of_mem him, hl]; rfl
      · rw [hn.mem_erase_iff, hleft j, getD_listed (by rw [hinv.lsize]; exact hlt)]
        constructor
        · rintro ⟨hne, h2, h3⟩; exact ⟨h2, by rw [if_neg (Ne.symm hne)]; exact h3⟩
        · rintro ⟨h2, h3⟩
          split at h3
          · cases h3
          · rename_i e; exact ⟨Ne.symm e, h2, h3⟩
end
end Go.Sm
namespace Go.Sm
open Go Go.RowKit
section
variable {P : Program} {T : TT} {Pr : Nat → Prop} {w0 : World} {cargs : List Value} {nt : Nat}
theorem makeG_pre {s' : St} {out : Out} {k : List (Nat × AV) → List Row → R} : ∀ {l : List Sp} {sl : List (Nat × AV)} {rows : List Row}, makeG T s' l sl rows k = some out → ∀ sp ∈ l, Pre1 T s' sp
  | [], _, _, _, sp, h => by cases h
  | ⟨i, d, .mk t x⟩ :: l, sl, rows, h, sp, hsp => by
    unfold makeG at h
    split at h
    · rename_i e q n he hx
      split at h
      · rename_i kd hk
        cases hb : decide (0 ≤ n ∧ n ≤ 1099511627776) with
        | false => rw [hb] at h; cases h
        | true =>
          rw [hb] at h
          rcases List.mem_cons.1 hsp with rfl | hsp
          · have := of_decide_eq_true hb
            exact ⟨e, kd, q, n, he, hk, hx, this.1, this.2⟩
          · exact makeG_pre h sp hsp
      · cases h
    · cases h
  | ⟨i, d, .mc t n⟩ :: l, sl, rows, h, sp, hsp => by
    unfold makeG at h
    split at h
    · rename_i e he
      split at h
      · rename_i kd hk
        cases hb : decide (0 ≤ n ∧ n ≤ 1099511627776) with
        | false => rw [hb] at h; cases h
        | true =>
          rw [hb] at h
          rcases List.mem_cons.1 hsp with rfl | hsp
          · exact ⟨e, kd, he, hk, of_decide_eq_true hb⟩
          · exact makeG_pre h sp hsp
      · cases h
    · cases h
  | ⟨i, d, .bs t n ps⟩ :: l, sl, rows, h, sp, hsp => by
    unfold makeG at h
    split at h
    · rename_i e els he hels
      split at h
      · rename_i kd hk
        split at h
        · rename_i xs hxs
          cases hn : decide (n ≤ 65536) with
          | false => rw [hn] at h; cases h
          | true =>
            rw [hn] at h
            rcases List.mem_cons.1 hsp with rfl | hsp
            · exact ⟨e, kd, els, xs, he, hk, hels, hxs, of_decide_eq_true hn⟩
            · exact makeG_pre h sp hsp
        · cases h
      · cases h
    · cases h
  | ⟨i, d, .cp b⟩ :: l, sl, rows, h, sp, hsp => by
    unfold makeG at h
    split at h
    · rename_i r hr
      cases hb : Nat.ble s'.H.length r with
      | false => rw [hb] at h; cases h
      | true =>
        rw [hb] at h
        rcases List.mem_cons.1 hsp with rfl | hsp
        · exact trivial
        · exact makeG_pre h sp hsp
    · cases h
  | ⟨i, d, .gh t⟩ :: l, sl, rows, h, sp, hsp => by
    unfold makeG at h
    split at h
    · rename_i e he hd
      rcases List.mem_cons.1 hsp with rfl | hsp
      · exact ⟨e, he⟩
      · exact makeG_pre h sp hsp
    · cases h
structure HowG (T : TT) (s' : St) (w1 w : World) (Pr2 : Nat → Prop) (ρ cargs : List Value) (sps : List Sp) (F : Nat → Value) : Prop where
  makes : ∀ m ∈ sps, ∀ t x, m.k = .mk t x → ∃ e kd q n, T.sl t = some e ∧ T.ek e = some kd ∧ lk s'.sl x = some (.fv (.el (.sc (.int q n)))) ∧
    ∃ vs, w.ownsRow 0 e kd.sz (F m.d) n.toNat vs ∧ AllR SCR (Vec.cells ⟨kd, List.replicate n.toNat kd.z⟩) vs ∧ ∀ g, (F m.d).ownBlock = some g → w1.heap.size ≤ g ∧ ¬ Pr2 g
  makec : ∀ m ∈ sps, ∀ t n, m.k = .mc t n → ∃ e kd, T.sl t = some e ∧ T.ek e = some kd ∧ ∃ vs, w.ownsRow 0 e kd.sz (F m.d) n.toNat vs ∧ AllR SCR (Vec.cells ⟨kd, List.replicate n.toNat kd.z⟩) vs ∧ ∀ g, (F m.d).ownBlock = some g → w1.heap.size ≤ g ∧ ¬ Pr2 g
  builds : ∀ m ∈ sps, ∀ t n ps, m.k = .bs t n ps → ∃ e kd els xs, T.sl t = some e ∧ T.ek e = some kd ∧ elsOf s'.sl ps = some els ∧ fillVec kd (els.map fun p => (p.1, .el p.2)) (List.replicate n kd.z) = some xs ∧
    ∃ vs, w.ownsRow 0 e kd.sz (F m.d) xs.length vs ∧ AllR SCR (Vec.cells ⟨kd, xs⟩) vs ∧ ∀ g, (F m.d).ownBlock = some g → w1.heap.size ≤ g ∧ ¬ Pr2 g
  cp : ∀ m ∈ sps, ∀ b, m.k = .cp b → F m.d = F b
  dist : ∀ m ∈ sps, ∀ m' ∈ sps, m.i ≠ m'.i → m.k.isMk → m'.k.isMk → ∀ g, (F m.d).ownBlock = some g → (F m'.d).ownBlock ≠ some g
  slots : ∀ u av, lk s'.sl u = some av → (∀ sp ∈ sps, sp.d ≠ u) → AVR w Pr2 ρ cargs av (F u)
def RowsG (w1 w : World) (Pr2 : Nat → Prop) (rows : List Row) (vs : List Value) : Prop :=
  AllR (fun (row : Row) (v : Value) => RowR w Pr2 v row.e row.v ∧ (∀ g, v.ownBlock = some g → w1.heap.size ≤ g) ∧ (row.v.k.is2 || row.v.k.isAl) = false) rows vs
theorem old_more {ρ vs : List Value} {x : Value} (r : Nat) (v : Value) (h : (ρ ++ vs)[r]? = some v) : (ρ ++ (vs ++ [x]))[r]? = some v := by
  rw [← List.append_assoc]
  exact getElem?_push_old h
theorem makeG_ok (hT : TOK P T) {ops : Array Oper} {p : Nat} {sps : List Sp} (hst : StatG ops nt p sps) {s' : St} {w1 w : World} {Pr2 : Nat → Prop} {ρ : List Value} {F : Nat → Value} (hg : HowG T s' w1 w Pr2 ρ cargs sps F) (hlen : ρ.length = s'.H.length)
    {out : Out} {k : List (Nat × AV) → List Row → R} : ∀ (l done : List Sp) (sl : List (Nat × AV)) (rows : List Row) (vs : List Value), done ++ l = sps → makeG T s' l sl rows k = some out → RowsG w1 w Pr2 rows vs →
    (∀ v ∈ vs, ∃ m ∈ done, m.k.isMk ∧ v = F m.d) → (vs.Pairwise fun v v' => ∀ g, v.ownBlock = some g → v'.ownBlock ≠ some g) →
    (∀ u av, lk sl u = some av → (∀ sp ∈ l, sp.d ≠ u) → AVR w Pr2 (ρ ++ vs) cargs av (F u)) →
    ∃ sl' rows' vs', k sl' rows' = some out ∧ RowsG w1 w Pr2 rows' vs' ∧ (∀ v ∈ vs', ∃ m ∈ sps, m.k.isMk ∧ v = F m.d) ∧ (vs'.Pairwise fun v v' => ∀ g, v.ownBlock = some g → v'.ownBlock ≠ some g) ∧
      ∀ u av, lk sl' u = some av → AVR w Pr2 (ρ ++ vs') cargs av (F u)
  | [], done, sl, rows, vs, hd, h, hr, hv, hp, hs => by
    rw [List.append_nil] at hd
    subst hd
    exact ⟨sl, rows, vs, h, hr, hv, hp, fun u av hu => hs u av hu fun sp hsp => by cases hsp⟩
  | ⟨i, d, .mk t x⟩ :: l, done, sl, rows, vs, hd, h, hr, hv, hp, hs => by
    unfold makeG at h
    split at h
    · rename_i e q n he hx
      split at h
      · rename_i kd hk
        cases hb : decide (0 ≤ n ∧ n ≤ 1099511627776) with
        | false => rw [hb] at h; cases h
        | true =>
          rw [hb] at h
          have hmem : (⟨i, d, .mk t x⟩ : Sp) ∈ sps := by rw [← hd]; simp
          obtain ⟨e', kd', q', n', a1, a2, a3, us, a4, a5, a6⟩ := hg.makes _ hmem t x rfl
          rw [he] at a1
          cases a1
          rw [hk] at a2
          cases a2
          rw [hx] at a3
          cases a3
          refine makeG_ok hT hst hg hlen l (done ++ [⟨i, d, .mk t x⟩]) _ _ (vs ++ [F d]) (by rw [← hd]; simp) h (hr.append ⟨⟨⟨us, by rw [List.length_replicate]; exact a4, a5, fun g hg' => (a6 g hg').2⟩, fun g hg' => (a6 g hg').1, hT.ek2 hk⟩, trivial⟩) (fun v hvm => ?_) ?_ fun u av hu hul => ?_
          · rcases List.mem_append.1 hvm with h1 | h1
            · obtain ⟨m, m1, m2⟩ := hv v h1
              exact ⟨m, by simp [m1], m2⟩
            · rw [List.mem_singleton] at h1
              exact ⟨⟨i, d, .mk t x⟩, by simp, trivial, h1⟩
          · rw [List.pairwise_append]
            refine ⟨hp, by simp, fun v hvm y hy g h1 => ?_⟩
            rw [List.mem_singleton] at hy
            subst hy
            obtain ⟨m, m1, m2, m3⟩ := hv v hvm
            subst m3
            refine hg.dist m (by rw [← hd]; simp [m1]) ⟨i, d, .mk t x⟩ hmem ?_ m2 trivial g h1
            have := hst.sorted
            rw [← hd, List.pairwise_append] at this
            have := this.2.2 m m1 ⟨i, d, .mk t x⟩ (by simp)
            dsimp only at this ⊢
            omega
          · rw [lk_cons] at hu
            split at hu
            · rename_i e1
              subst e1
              cases hu
              show (ρ ++ (vs ++ [F d]))[s'.H.length + rows.length]? = some (F d)
              rw [← hlen, AllR.length hr, List.getElem?_append_right (Nat.le_add_right _ _), Nat.add_sub_cancel_left]
              simp
            · rename_i hne
              refine (hs u av hu fun sp hsp => ?_).keep (fun _ _ => rfl) old_more
              rcases List.mem_cons.1 hsp with rfl | hsp
              · exact hne
              · exact hul sp hsp
      · cases h
    · cases h
  | ⟨i, d, .mc t n⟩ :: l, done, sl, rows, vs, hd, h, hr, hv, hp, hs => by
    unfold makeG at h
    split at h
    · rename_i e he
      split at h
      · rename_i kd hk
        cases hb : decide (0 ≤ n ∧ n ≤ 1099511627776) with
        | false => rw [hb] at h; cases h
        | true =>
          rw [hb] at h
          have hmem : (⟨i, d, .mc t n⟩ : Sp) ∈ sps := by rw [← hd]; simp
          obtain ⟨e', kd', a1, a2, us, a4, a5, a6⟩ := hg.makec _ hmem t n rfl
          rw [he] at a1
          cases a1
          rw [hk] at a2
          cases a2
          refine makeG_ok hT hst hg hlen l (done ++ [⟨i, d, .mc t n⟩]) _ _ (vs ++ [F d]) (by rw [← hd]; simp) h (hr.append ⟨⟨⟨us, by rw [List.length_replicate]; exact a4, a5, fun g hg' => (a6 g hg').2⟩, fun g hg' => (a6 g hg').1, hT.ek2 hk⟩, trivial⟩) (fun v hvm => ?_) ?_ fun u av hu hul => ?_
          · rcases List.mem_append.1 hvm with h1 | h1
            · obtain ⟨m, m1, m2⟩ := hv v h1
              exact ⟨m, by simp [m1], m2⟩
            · rw [List.mem_singleton] at h1
              exact ⟨⟨i, d, .mc t n⟩, by simp, trivial, h1⟩
          · rw [List.pairwise_append]
            refine ⟨hp, by simp, fun v hvm y hy g h1 => ?_⟩
            rw [List.mem_singleton] at hy
            subst hy
            obtain ⟨m, m1, m2, m3⟩ := hv v hvm
            subst m3
            refine hg.dist m (by rw [← hd]; simp [m1]) ⟨i, d, .mc t n⟩ hmem ?_ m2 trivial g h1
            have := hst.sorted
            rw [← hd, List.pairwise_append] at this
            have := this.2.2 m m1 ⟨i, d, .mc t n⟩ (by simp)
            dsimp only at this ⊢
            omega
          · rw [lk_cons] at hu
            split at hu
            · rename_i e1
              subst e1
              cases hu
              show (ρ ++ (vs ++ [F d]))[s'.H.length + rows.length]? = some (F d)
              rw [← hlen, AllR.length hr, List.getElem?_append_right (Nat.le_add_right _ _), Nat.add_sub_cancel_left]
              simp
            · rename_i hne
              refine (hs u av hu fun sp hsp => ?_).keep (fun _ _ => rfl) old_more
              rcases List.mem_cons.1 hsp with rfl | hsp
              · exact hne
              · exact hul sp hsp
      · cases h
    · cases h
  | ⟨i, d, .bs t n ps⟩ :: l, done, sl, rows, vs, hd, h, hr, hv, hp, hs => by
    unfold makeG at h
    split at h
    · rename_i e els he hels
      split at h
      · rename_i kd hk
        split at h
        · rename_i xs hxs
          cases hn : decide (n ≤ 65536) with
          | false => rw [hn] at h; cases h
          | true =>
          rw [hn] at h
          simp only [cond_true] at h
          have hmem : (⟨i, d, .bs t n ps⟩ : Sp) ∈ sps := by rw [← hd]; simp
          obtain ⟨e', kd', els', xs', a1, a2, a3, a3', us, a4, a5, a6⟩ := hg.builds _ hmem t n ps rfl
          rw [he] at a1
          cases a1
          rw [hk] at a2
          cases a2
          rw [hels] at a3
          cases a3
          rw [hxs] at a3'
          cases a3'
          refine makeG_ok hT hst hg hlen l (done ++ [⟨i, d, .bs t n ps⟩]) _ _ (vs ++ [F d]) (by rw [← hd]; simp) h (hr.append ⟨⟨⟨us, a4, a5, fun g hg' => (a6 g hg').2⟩, fun g hg' => (a6 g hg').1, hT.ek2 hk⟩, trivial⟩) (fun v hvm => ?_) ?_ fun u av hu hul => ?_
          · rcases List.mem_append.1 hvm with h1 | h1
            · obtain ⟨m, m1, m2⟩ := hv v h1
              exact ⟨m, by simp [m1], m2⟩
            · rw [List.mem_singleton] at h1
              exact ⟨⟨i, d, .bs t n ps⟩, by simp, trivial, h1⟩
          · rw [List.pairwise_append]
            refine ⟨hp, by simp, fun v hvm y hy g h1 => ?_⟩
            rw [List.mem_singleton] at hy
            subst hy
            obtain ⟨m, m1, m2, m3⟩ := hv v hvm
            subst m3
            refine hg.dist m (by rw [← hd]; simp [m1]) ⟨i, d, .bs t n ps⟩ hmem ?_ m2 trivial g h1
            have := hst.sorted
            rw [← hd, List.pairwise_append] at this
            have := this.2.2 m m1 ⟨i, d, .bs t n ps⟩ (by simp)
            dsimp only at this ⊢
            omega
          · rw [lk_cons] at hu
            split at hu
            · rename_i e1
              subst e1
              cases hu
              show (ρ ++ (vs ++ [F d]))[s'.H.length + rows.length]? = some (F d)
              rw [← hlen, AllR.length hr, List.getElem?_append_right (Nat.le_add_right _ _), Nat.add_sub_cancel_left]
              simp
            · rename_i hne
              refine (hs u av hu fun sp hsp => ?_).keep (fun _ _ => rfl) old_more
              rcases List.mem_cons.1 hsp with rfl | hsp
              · exact hne
              · exact hul sp hsp
        · cases h
      · cases h
    · cases h
  | ⟨i, d, .cp b⟩ :: l, done, sl, rows, vs, hd, h, hr, hv, hp, hs => by
    unfold makeG at h
    split at h
    · rename_i r hlr
      cases hb : Nat.ble s'.H.length r with
      | false => rw [hb] at h; cases h
      | true =>
        rw [hb] at h
        have hmem : (⟨i, d, .cp b⟩ : Sp) ∈ sps := by rw [← hd]; simp
        have hsort := hst.sorted
        rw [← hd, List.pairwise_append, List.pairwise_cons] at hsort
        refine makeG_ok hT hst hg hlen l (done ++ [⟨i, d, .cp b⟩]) _ _ vs (by rw [← hd]; simp) h hr (fun v hvm => ?_) hp fun u av hu hul => ?_
        · obtain ⟨m, m1, m2⟩ := hv v hvm
          exact ⟨m, by simp [m1], m2⟩
        · rw [lk_cons] at hu
          split at hu
          · rename_i e1
            subst e1
            cases hu
            obtain ⟨m, hm, m1, m2, m3⟩ := hst.cpb _ hmem b rfl
            have : AVR w Pr2 (ρ ++ vs) cargs (.fv (.own r)) (F b) := hs b _ hlr fun sp hsp => by
              rw [← m1]
              refine (hst.dne hm (by rw [← hd]; exact List.mem_append_right _ hsp) ?_).symm
              dsimp only at m2
              rcases List.mem_cons.1 hsp with rfl | hsp
              · dsimp only; omega
              · have := hsort.2.1.1 sp hsp
                dsimp only at this
                omega
            rw [show F d = F b from hg.cp _ hmem b rfl]
            exact this
          · rename_i hne
            refine hs u av hu fun sp hsp => ?_
            rcases List.mem_cons.1 hsp with rfl | hsp
            · exact hne
            · exact hul sp hsp
    · cases h
  | ⟨i, d, .gh t⟩ :: l, done, sl, rows, vs, hd, h, hr, hv, hp, hs => by
    unfold makeG at h
    split at h
    · rename_i e he hnone
      refine makeG_ok hT hst hg hlen l (done ++ [⟨i, d, .gh t⟩]) _ _ vs (by rw [← hd]; simp) h hr (fun v hvm => ?_) hp fun u av hu hul => ?_
      · obtain ⟨m, m1, m2⟩ := hv v hvm
        exact ⟨m, by simp [m1], m2⟩
      · refine hs u av hu fun sp hsp => ?_
        rcases List.mem_cons.1 hsp with rfl | hsp
        · intro e1
          dsimp only at e1
          subst e1
          rw [hnone] at hu
          cases hu
        · exact hul sp hsp
    · cases h
theorem freezeAt_spec {ops : Array Oper} {sps : List Sp} {d t x : Nat} (h : freezeAt ops sps = some (d, t, x)) : ∃ o, ops.toList[ops.toList.length - 1]? = some o ∧ o.op = .store t (.tmp d) (.tmp x) ∧ o.dst = none ∧ o.guard = none ∧ ∃ sp ∈ sps, sp.d = d ∧ sp.k = .gh t := by
  unfold freezeAt at h
  split at h
  · rename_i o ho
    split at h
    · rename_i t' d' x' h1 h2 h3
      rw [Bool.cond_eq_ite] at h
      split at h
      · rename_i hb
        cases h
        obtain ⟨sp, hsp, h4⟩ := List.any_eq_true.1 hb
        rw [Bool.and_eq_true] at h4
        refine ⟨o, ho, h1, h2, h3, sp, hsp, Nat.eq_of_beq_eq_true h4.1, ?_⟩
        have h5 := h4.2
        split at h5
        · rename_i t'' e
          rw [e, Nat.eq_of_beq_eq_true h5]
        · cases h5
      · cases h
    · cases h
  · cases h
theorem freeze_run (hT : TOK P T) {o : Oper} {t d x e g : Nat} (hop : o.op = .store t (.tmp d) (.tmp x)) (hsl : T.sl t = some e) (a : Act) (w : World) (hd : a.tmps.getD d undef = .pointer (some ⟨g, 0, none⟩))
    (hrow : w.ownsRow 0 t 1 (.slice (some ⟨g, 0, none⟩) 1 1) 1 [.slice none 0 0]) (hx : (a.tmps.getD x undef).oneCell' = true ∧ (a.tmps.getD x undef).cells = #[a.tmps.getD x undef]) :
    Yields P o a w fun _ w' => w'.cell? ⟨g, 0, none⟩ = some (a.tmps.getD x undef) ∧ (∀ k, k ≠ g → w'.heap[k]? = w.heap[k]?) ∧ w'.os = w.os ∧ w'.tape = w.tape ∧ w'.output = w.output ∧ w'.heap.size = w.heap.size := by
  obtain ⟨ti, hti, htsz, _⟩ := hT.s1 t e hsl
  obtain ⟨w', hst, hown', hoth, hos, htape, hout, hsize⟩ := write_row (P := P) hrow rfl 0 [a.tmps.getD x undef] (by simp) (fun u hu => by rw [List.mem_singleton.1 hu]; exact hx.1)
  unfold Yields
  rw [exec_eq hop]
  have hrun : (Instr.storeAt t (a.eval (.tmp d)) (a.eval (.tmp x))).run P w = .ok () w' := by
    show (Instr.storeAt t (a.tmps.getD d undef) (a.tmps.getD x undef)).run P w = .ok () w'
    rw [hd]
    generalize a.tmps.getD x undef = v at hx hst
    simp [Instr.storeAt, Instr.sureAddr, storeVar, hx.2, sizeOf, typeInfo, hti, htsz, hst]
  simp only [execOp, Sem.run_bind, hrun, Result.andThen_ok, Sem.run_pure]
  have hc := hown'.cells rfl 0 (a.tmps.getD x undef) (by simp)
  refine ⟨?_, hoth, hos, htape, hout, hsize⟩
  first
    | exact hc
    | (unfold Addr.add at hc; split at hc <;> simp_all)
def SRx (Pr : Nat → Prop) (w0 : World) (cargs : List Value) (nt : Nat) (s : St) (a : Act) (w : World) (ρ : List Value) : Prop :=
  ∃ (Pr' : Nat → Prop) (w1 : World), (∀ k, Pr k → Pr' k) ∧ (∀ k, Pr' k → k < w1.heap.size) ∧ Keep Pr w0 w1 ∧ SR Pr' w1 cargs nt s a w ρ
theorem Keep.mono {Pr Pr' : Nat → Prop} {w w' : World} (h : Keep Pr' w w') (hm : ∀ k, Pr k → Pr' k) : Keep Pr w w' := ⟨h.os, h.tape, h.output, h.size, fun k hk => h.block k (hm k hk)⟩
theorem makerow_one {w : World} {b e n g : Nat} {v : Value} {vs : List Value} (h : w.ownsRow b e g v n vs) : v.oneCell' = true ∧ v.cells = #[v] := by
  rcases h.2 with ⟨h1, _⟩ | ⟨g', cap, cur, h1, _⟩ <;> rw [h1] <;> exact ⟨rfl, rfl⟩
theorem drawnG_ok (hT : TOK P T) (hp : ∀ k, Pr k → k < w0.heap.size) {ops : Array Oper} (hd : drawOk ops = true) {sps : List Sp} (hsps : sps = specials T 0 [] ops.toList) {Q : Exit → Act → World → Prop} {out : Out} {k : St → R} {id : Nat} {s : St} {a : Act} {w : World} {ρ : List Value}
    (h : drawnG T nt ops sps s k = some out) (hs : SR Pr w0 cargs nt s a w ρ) (nf : Nat) (hQ : ∀ s' a' w' ρ', k s' = some out → SRx Pr w0 cargs nt s' a' w' ρ' → Ext nf ρ ρ' → Q .normal a' w') : (Code.region id ops true).wp P Q a w := by
  have hsame : Same w { w with drawn := w.drawn + 1 } := Same.drew w
  have hpw : ∀ k, Pr k → k < ({ w with drawn := w.drawn + 1 } : World).heap.size := hs.lt hp
  have hH : HR ({ w with drawn := w.drawn + 1 } : World) Pr ρ s.H := hs.heap.keep hsame.block
  refine wp_region_any hT.mo ?_
  have part : ∀ (p : Nat) (s' : St) (avs : List AV), StatG ops nt p sps → Path P (idleM (sps.map Sp.i) 0 (ops.toList.take p)) nt (idleM (sps.map Sp.i) 0 (ops.toList.take p)) s avs s' → (∀ sp ∈ sps, Pre1 T s' sp) →
      (∀ (listed : Array Bool) (a2 : Act) (w2 : World), InvG T Pr ({ w with drawn := w.drawn + 1 } : World) ρ cargs nt ops p sps s s' avs listed a2 w2 → (∀ j, j < ops.size → (listed.getD j true = true ↔ j < p)) → wpAny P .any ops Q (ops.toList.drop p).length listed a2 w2) →
      wpAny P .any ops Q ops.size (Array.replicate ops.size false) a { w with drawn := w.drawn + 1 } := by
    intro p s' avs hst hpath hm hQ2
    have hpl : p ≤ ops.size := by simpa using hst.pl
    have hdl : (ops.toList.drop p).length = ops.size - p := by simp
    have hfalse : ∀ (j : Nat), (Array.replicate ops.size false).getD j true = true → j < ops.size → False := by
      intro j h1 h2
      simp [Array.getD, h2] at h1
    have start : InvG T Pr ({ w with drawn := w.drawn + 1 } : World) ρ cargs nt ops p sps s s' avs (Array.replicate ops.size false) a { w with drawn := w.drawn + 1 } := by
      have hspl : ∀ sp ∈ sps, sp.i < ops.size := fun sp hsp => by
        obtain ⟨_, _, o, h1, _⟩ := hst.sop sp hsp
        exact lt_size h1
      exact ⟨hs.size, hs.defers, Same.refl _, by simp, fun j o av u hj ha hl hd => (hfalse j hl (lt_size (frontM_real hj hd).2.1)).elim, fun u v hv _ _ => (hs.slots u v hv).same hsame (hs.lt hp), fun j o hj hl => (hfalse j hl (lt_size hj)).elim, fun sp hsp hl => (hfalse _ hl (hspl sp hsp)).elim, fun sp hsp sp' _ _ hl => (hfalse _ hl (hspl sp hsp)).elim, fun i _ h2 => by simp [Array.getD, h2]⟩
    have all0 : ∀ i, i ∈ List.range p ↔ i < p ∧ (Array.replicate ops.size false).getD i true = false := by
      intro i
      rw [List.mem_range]
      constructor
      · intro hi
        have : i < ops.size := by omega
        exact ⟨hi, by simp [Array.getD, this]⟩
      · exact fun h => h.1
    have := invG_any (cargs := cargs) hT hst hpath hm hpw hH hQ2 p (List.range p) _ a _ (by simp) List.nodup_range all0 start
    rwa [show p + (ops.toList.drop p).length = ops.size by rw [hdl]; omega] at this
  have slotsAt : ∀ (p : Nat) (s' : St) (avs : List AV), StatG ops nt p sps → Path P (idleM (sps.map Sp.i) 0 (ops.toList.take p)) nt (idleM (sps.map Sp.i) 0 (ops.toList.take p)) s avs s' →
      ∀ (listed : Array Bool) (a2 : Act) (w2 : World), InvG T Pr ({ w with drawn := w.drawn + 1 } : World) ρ cargs nt ops p sps s s' avs listed a2 w2 → (∀ j, j < ops.size → (listed.getD j true = true ↔ j < p)) →
      ∀ u v, lk s'.sl u = some v → (∀ sp ∈ sps, sp.d ≠ u) → AVR ({ w with drawn := w.drawn + 1 } : World) Pr ρ cargs v (a2.tmps.getD u undef) := by
    intro p s' avs hst hpath listed a2 w2 hinv hlist u v hv hub
    rcases hpath.final hv with ⟨j, o, h1, h2, h3⟩ | ⟨h1, h2⟩
    · have hj := frontM_real h1 h2
      exact hinv.done j o v u h1 h3 ((hlist j (lt_size hj.2.1)).2 hj.1) h2
    · exact hinv.still u v h1 hub fun j o hj hd => absurd hd (h2 j o hj)
  have howG : ∀ (p : Nat) (s' : St) (avs : List AV), StatG ops nt p sps → Path P (idleM (sps.map Sp.i) 0 (ops.toList.take p)) nt (idleM (sps.map Sp.i) 0 (ops.toList.take p)) s avs s' →
      ∀ (listed : Array Bool) (a2 : Act) (w2 : World), InvG T Pr ({ w with drawn := w.drawn + 1 } : World) ρ cargs nt ops p sps s s' avs listed a2 w2 → (∀ j, j < ops.size → (listed.getD j true = true ↔ j < p)) →
      ∀ (Pr2 : Nat → Prop) (w3 : World), (∀ k, Pr k → Pr2 k) → (∀ k, Pr k → w3.heap[k]? = w2.heap[k]?) →
      (∀ m ∈ sps, m.k.isMk → ∀ g, (a2.tmps.getD m.d undef).ownBlock = some g → ({ w with drawn := w.drawn + 1 } : World).heap.size ≤ g → w3.heap[g]? = w2.heap[g]? ∧ ¬ Pr2 g) →
      HowG T s' ({ w with drawn := w.drawn + 1 } : World) w3 Pr2 ρ cargs sps fun u => a2.tmps.getD u undef := by
    intro p s' avs hst hpath listed a2 w2 hinv hlist Pr2 w3 hsub hold hnew
    have hl : ∀ m ∈ sps, listed.getD m.i true = true := fun m hm => by
      obtain ⟨h1, _, o, h2, _⟩ := hst.sop m hm
      exact (hlist m.i (lt_size h2)).2 h1
    refine ⟨fun m hm t x hk => ?_, fun m hm t n hk => ?_, fun m hm t n ps hk => ?_, fun m hm b hk => ?_, fun m hm m' hm' hne h1 h2 g hg => ?_, fun u av hu hsp => ?_⟩
    · have := hinv.ext m hm (hl m hm)
      have hmk : m.k.isMk := by rw [hk]; exact trivial
      unfold Ext1 at this
      rw [hk] at this
      dsimp only at this
      obtain ⟨e, kd, q, n, a1, a2', a3, vs, a4, a5, a6⟩ := this
      exact ⟨e, kd, q, n, a1, a2', a3, vs, ownsRow_keep (fun g hg => (hnew m hm hmk g hg (a6 g hg)).1) a4, a5, fun g hg => ⟨a6 g hg, (hnew m hm hmk g hg (a6 g hg)).2⟩⟩
    · have := hinv.ext m hm (hl m hm)
      have hmk : m.k.isMk := by rw [hk]; exact trivial
      unfold Ext1 at this
      rw [hk] at this
      dsimp only at this
      obtain ⟨e, kd, a1, a2', vs, a4, a5, a6⟩ := this
      exact ⟨e, kd, a1, a2', vs, ownsRow_keep (fun g hg => (hnew m hm hmk g hg (a6 g hg)).1) a4, a5, fun g hg => ⟨a6 g hg, (hnew m hm hmk g hg (a6 g hg)).2⟩⟩
    · have := hinv.ext m hm (hl m hm)
      have hmk : m.k.isMk := by rw [hk]; exact trivial
      unfold Ext1 at this
      rw [hk] at this
      dsimp only at this
      obtain ⟨e, kd, els, xs, a1, a2', a3, a3', vs, a4, a5, a6⟩ := this
      exact ⟨e, kd, els, xs, a1, a2', a3, a3', vs, ownsRow_keep (fun g hg => (hnew m hm hmk g hg (a6 g hg)).1) a4, a5, fun g hg => ⟨a6 g hg, (hnew m hm hmk g hg (a6 g hg)).2⟩⟩
    · have := hinv.ext m hm (hl m hm)
      unfold Ext1 at this
      rw [hk] at this
      exact this
    · have hgo : ∀ q : Sp, q.k.isMk → gOf q.k (a2.tmps.getD q.d undef) = (a2.tmps.getD q.d undef).ownBlock := by
        intro q hq
        cases hk : q.k <;> rw [hk] at hq <;> first | rfl | exact hq.elim
      have := hinv.dist m hm m' hm' hne (hl m hm) (hl m' hm') g
      rw [hgo m h1, hgo m' h2] at this
      exact this hg
    · exact ((slotsAt p s' avs hst hpath listed a2 w2 hinv hlist u av hu hsp).keep (fun k hk => (hold k hk).trans (hinv.same.block k (hpw k hk))) fun _ _ h => h).mono hsub
  unfold drawnG at h
  split at h
  · -- A VARIABLE IS WRITTEN AT THE END
    rename_i d t x hfr
    obtain ⟨o, ho, hop, hdst, hgd, gsp, hgsp, hgd2, hgk⟩ := freezeAt_spec hfr
    cases hsg : statG ops nt (ops.toList.length - 1) sps with
    | false => rw [hsg] at h; cases h
    | true =>
      rw [hsg] at h
      simp only [cond_true] at h
      have hst := statG_ok hd hsps hsg
      obtain ⟨avs, s', hpath, hk⟩ := opsK_path hT _ _ h
      have hHl : s'.H = s.H := hpath.heap
      have hlenρ : ρ.length = s'.H.length := by rw [hHl]; exact hH.len
      have hpos : ops.toList.length - 1 < ops.size := lt_size ho
      refine part (ops.toList.length - 1) s' avs hst hpath (makeG_pre hk) fun listed a2 w2 hinv hlist => ?_
      rw [show (ops.toList.drop (ops.toList.length - 1)).length = 1 by simp at hpos ⊢; omega]
      have hlg : listed.getD gsp.i true = true := by
        obtain ⟨h1, _, o, h2, _⟩ := hst.sop gsp hgsp
        exact (hlist gsp.i (lt_size h2)).2 h1
      have hgx := hinv.ext gsp hgsp hlg
      unfold Ext1 at hgx
      rw [hgk] at hgx
      dsimp only at hgx
      obtain ⟨g, g1, g2, g3⟩ := hgx
      rw [hgd2] at g1
      have hone : (a2.tmps.getD x undef).oneCell' = true ∧ (a2.tmps.getD x undef).cells = #[a2.tmps.getD x undef] := by
        obtain ⟨sl, rows, vs, b1, b2, b3, b4, b5⟩ := makeG_ok (cargs := cargs) hT hst (howG _ s' avs hst hpath listed a2 w2 hinv hlist Pr w2 (fun _ h => h) (fun _ _ => rfl) fun m hm hmk g hg hlt => ⟨rfl, fun hpr => by have := hpw g hpr; omega⟩) hlenρ sps [] s'.sl [] [] rfl hk trivial (fun v hv => by cases hv) List.Pairwise.nil
          fun u av hu hsp => by
            rw [List.append_nil]
            exact (slotsAt _ s' avs hst hpath listed a2 w2 hinv hlist u av hu hsp).keep (fun k hk => hinv.same.block k (hpw k hk)) fun _ _ h => h
        split at b1
        · rename_i e j he hj
          cases hb : Nat.ble s'.H.length j with
          | false => rw [hb] at b1; cases b1
          | true =>
            have hjv : (ρ ++ vs)[j]? = some (a2.tmps.getD x undef) := b5 x _ hj
            have hle := Nat.le_of_ble_eq_true hb
            rw [List.getElem?_append_right (by omega)] at hjv
            obtain ⟨row, _, hrr, _⟩ := b2.getR _ _ hjv
            obtain ⟨us, hus, _⟩ := hrr
            exact makerow_one hus
        · cases b1
      have hsl : ∃ e, T.sl t = some e := by
        have := makeG_pre hk gsp hgsp
        unfold Pre1 at this
        rw [hgk] at this
        exact this
      obtain ⟨e, hsl⟩ := hsl
      have hdg : ∀ m ∈ sps, m.k.isMk → ∀ g', (a2.tmps.getD m.d undef).ownBlock = some g' → g' ≠ g := by
        intro m hm hmk g' hg' hgg
        subst hgg
        have hlm : listed.getD m.i true = true := by
          obtain ⟨h1, _, o, h2, _⟩ := hst.sop m hm
          exact (hlist m.i (lt_size h2)).2 h1
        have hne : m.i ≠ gsp.i := by
          intro e
          have := hst.uniq hm hgsp e
          subst this
          rw [hgk] at hmk
          exact hmk.elim
        refine hinv.dist m hm gsp hgsp hne hlm hlg g' (by cases hk : m.k <;> rw [hk] at hmk <;> first | exact hg' | exact hmk.elim) ?_
        rw [hgk, hgd2, g1]
        rfl
      have hdown : ∀ (j : Nat) (o' : Oper), ops.toList[j]? = some o' → listed.getD j true = true → ∀ e ∈ o'.after, Region.binds .any e = true → listed.getD e.on true = true := hinv.down
      have hun : listed.getD (ops.toList.length - 1) true = false := hinv.suf _ (Nat.le_refl _) hpos
      have hready : ops.toList.length - 1 ∈ Region.ready .any ops listed := by
        refine mem_ready.2 ⟨hun, o, by rw [← ho]; simp, fun e he hb => ?_⟩
        have hon := (draw_spec (all := ops) (n := 0) hst.draw _ o ho).1 e he hb
        simp only [Nat.zero_add] at hon
        have htrue := (hlist e.on (by omega)).2 hon
        have hls : e.on < listed.size := by rw [hinv.lsize]; omega
        simp [Array.getD, hls] at htrue ⊢
        exact htrue
      refine ⟨fun hempty => absurd hready (by rw [hempty]; exact List.not_mem_nil), fun j hj => ?_⟩
      obtain ⟨h1, o', ho', hall⟩ := mem_ready.1 hj
      have ho'' : ops.toList[j]? = some o' := by rw [← ho']; simp
      have hj' : j < ops.size := lt_size ho''
      have hij : j = ops.toList.length - 1 := by
        rcases Nat.lt_or_ge j (ops.toList.length - 1) with h2 | h2
        · rw [(hlist j hj').2 h2] at h1; cases h1
        · have : ops.toList.length = ops.size := by simp
          omega
      subst hij
      rw [ho] at ho''
      cases ho''
      unfold wpOp
      rw [ho']
      dsimp only
      have hw : Region.wanted o (yielded ops a2.tmps) = true := by unfold Region.wanted; rw [hgd]
      rw [if_pos hw]
      refine .inl ((freeze_run hT hop hsl a2 w2 g1 g3 hone).wp ?_)
      rintro v w3 ⟨c1, c2, c3, c4, c5, c6⟩
      rw [hdst]
      show wpAny P .any ops Q 0 _ a2 w3
      have hsub : ∀ k, Pr k → Pr k ∨ k = g := fun k h => .inl h
      have hold : ∀ k, Pr k → w3.heap[k]? = w2.heap[k]? := fun k hk => c2 k fun e => by
        subst e
        exact absurd (hpw k hk) (Nat.not_lt.2 g2)
      have hhow := howG _ s' avs hst hpath listed a2 w2 hinv hlist (fun k => Pr k ∨ k = g) w3 hsub hold fun m hm hmk g' hg' hlt => ⟨c2 g' (hdg m hm hmk g' hg'), fun hpr => hpr.elim (fun h => by have := hpw g' h; omega) (hdg m hm hmk g' hg')⟩
      obtain ⟨sl, rows, vs, b1, b2, b3, b4, b5⟩ := makeG_ok (cargs := cargs) hT hst hhow hlenρ sps [] s'.sl [] [] rfl hk trivial (fun v hv => by cases hv) List.Pairwise.nil fun u av hu hsp => by
        rw [List.append_nil]
        exact hhow.slots u av hu hsp
      split at b1
      · rename_i e' j he hj
        cases hb : Nat.ble s'.H.length j with
        | false => rw [hb] at b1; cases b1
        | true =>
          rw [hb] at b1
          simp only [cond_true] at b1
          refine ⟨?_, hQ _ a2 w3 (ρ ++ vs) b1 ⟨fun k => Pr k ∨ k = g, w3, hsub, fun k hk => ?_, ?_, ⟨hinv.size, hinv.defers, fun u v hu => ?_, ?_, Keep.refl _ _⟩⟩ fun r u _ hu => by rw [List.getElem?_append_left (List.getElem?_eq_some_iff.1 hu).1]; exact hu⟩
          · apply List.eq_nil_iff_forall_not_mem.2
            intro q hq
            obtain ⟨h1, o'', ho'', _⟩ := mem_ready.1 hq
            have hq' : q < ops.size := lt_size (o := o'') (by rw [← ho'']; simp)
            rw [getD_listed (by rw [hinv.lsize]; exact hpos)] at h1
            split at h1
            · cases h1
            · rename_i hne
              have hql : q < ops.toList.length - 1 := by
                have : ops.toList.length = ops.size := by simp
                omega
              rw [(hlist q hq').2 hql] at h1
              cases h1
          · rw [c6]
            rcases hk with hk | hk
            · exact Nat.lt_of_lt_of_le (hpw k hk) hinv.same.size
            · rw [hk]
              exact (g3.lt g rfl).2
          · have k1 : Keep Pr w0 w2 := hs.keep.trans (Keep.of_below (hsame.trans hinv.same) (hs.lt hp))
            exact k1.trans ⟨c3, c4, c5, by rw [c6]; exact Nat.le_refl _, hold⟩
          · rw [lk_cons] at hu
            split at hu
            · rename_i e1
              subst e1
              cases hu
              refine ⟨⟨g, 0, none⟩, a2.tmps.getD x undef, .inr rfl, b5 x _ hj, c1, ?_⟩
              rw [g1]
              simp [Addr.add]
            · exact b5 u v hu
          · rw [hHl]
            refine hH.grow (fun k hk => ?_) (fun k hk hpr => ?_) b2 b4
            · rw [c2 k (fun e => by subst e; exact absurd hk (Nat.not_lt.2 g2))]
              exact hinv.same.block k hk
            · rcases hpr with hpr | hpr
              · exact hpr
              · subst hpr; exact absurd hk (Nat.not_lt.2 g2)
      · cases b1
  · -- NONE
    rename_i hfr
    cases hsg : (noGhost sps && statG ops nt ops.toList.length sps) with
    | false => rw [hsg] at h; cases h
    | true =>
      rw [hsg] at h
      simp only [cond_true] at h
      rw [Bool.and_eq_true] at hsg
      have hst := statG_ok hd hsps hsg.2
      obtain ⟨avs, s', hpath, hk⟩ := opsK_path hT _ _ h
      have hHl : s'.H = s.H := hpath.heap
      have hlenρ : ρ.length = s'.H.length := by rw [hHl]; exact hH.len
      refine part ops.toList.length s' avs hst hpath (makeG_pre hk) fun listed a2 w2 hinv hlist => ?_
      rw [show (ops.toList.drop ops.toList.length).length = 0 by simp]
      have hhow := howG _ s' avs hst hpath listed a2 w2 hinv hlist Pr w2 (fun _ h => h) (fun _ _ => rfl) fun m hm hmk g hg hlt => ⟨rfl, fun hpr => absurd (hpw g hpr) (Nat.not_lt.2 hlt)⟩
      obtain ⟨sl, rows, vs, b1, b2, b3, b4, b5⟩ := makeG_ok (cargs := cargs) hT hst hhow hlenρ sps [] s'.sl [] [] rfl hk trivial (fun v hv => by cases hv) List.Pairwise.nil fun u av hu hsp => by
        rw [List.append_nil]
        exact hhow.slots u av hu hsp
      refine ⟨?_, hQ _ a2 w2 (ρ ++ vs) b1 ⟨Pr, w0, fun _ h => h, hp, Keep.refl _ _, ⟨hinv.size, hinv.defers, b5, ?_, hs.keep.trans (Keep.of_below (hsame.trans hinv.same) (hs.lt hp))⟩⟩ fun r u _ hu => by rw [List.getElem?_append_left (List.getElem?_eq_some_iff.1 hu).1]; exact hu⟩
      · apply List.eq_nil_iff_forall_not_mem.2
        intro q hq
        obtain ⟨h1, o'', ho'', _⟩ := mem_ready.1 hq
        have hq' : q < ops.size := lt_size (o := o'') (by rw [← ho'']; simp)
        rw [(hlist q hq').2 (by simpa using hq')] at h1
        cases h1
      · rw [hHl]
        exact hH.grow hinv.same.block (fun k hk hpr => hpr) b2 b4
end
end Go.Sm
