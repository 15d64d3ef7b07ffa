/- A machine on plain data, its laws: part 4. -/
import Derived.Test.YtpckpfbjhnllbaaK3
import Derived.LoopN
namespace Go.Sm
open Go Go.RowKit
section
variable {P : Program} {T : TT} {Pr : Nat → Prop} {w0 : World} {cargs : List Value} {nt : Nat}
theorem accs_spec {all : List Oper} : ∀ {os : List Oper} {n : Nat} {acc : List (List Nat)}, acc.length = n → (∀ i o, os[i]? = some o → all[n + i]? = some o) →
    (∀ k j, j ∈ acc.getD k [] → Anc all j k) → ∀ k j, j ∈ (accsOf acc os).getD k [] → Anc all j k
  | [], _, _, _, _, hacc => hacc
  | o1 :: os, n, acc, hn, hos, hacc => by
    have h0 : all[n]? = some o1 := hos 0 o1 rfl
    have hl : ∀ j, j ∈ ancsL acc o1.after.toList → Anc all j n := by
      intro j hj
      obtain ⟨e, h1, h2, h3⟩ := ancsL_mem hj
      rcases h3 with rfl | h3
      · exact .edge n o1 e h0 (by simpa using h1) h2
      · exact .trans j n o1 e h0 (by simpa using h1) h2 (hacc _ _ h3)
    unfold accsOf
    refine accs_spec (os := os) (n := n + 1) (by simp [hn]) (fun i o hi => by rw [show n + 1 + i = n + (i + 1) by omega]; exact hos (i + 1) o (by simpa using hi)) fun k j hj => ?_
    rcases Nat.lt_trichotomy k n with hk | hk | hk
    · rw [List.getD_eq_getElem?_getD, List.getElem?_append_left (by omega)] at hj
      exact hacc k j (by rw [List.getD_eq_getElem?_getD]; exact hj)
    · subst hk
      have e : (acc ++ [ancsL acc o1.after.toList])[k]? = some (ancsL acc o1.after.toList) := by rw [← hn]; simp
      rw [List.getD_eq_getElem?_getD, e] at hj
      exact hl j hj
    · have e : (acc ++ [ancsL acc o1.after.toList])[k]? = none := List.getElem?_eq_none (by simp; omega)
      rw [List.getD_eq_getElem?_getD, e] at hj
      cases hj
theorem ancsAt_spec {ops : Array Oper} {i j : Nat} (h : j ∈ ancsAt ops i) : Anc ops.toList j i := by
  unfold ancsAt at h
  refine accs_spec (all := ops.toList) (os := ops.toList.take (i + 1)) (n := 0) rfl (fun q o hq => ?_) (fun k j hj => by simp at hj) i j h
  rw [List.getElem?_take] at hq
  split at hq
  · rw [Nat.zero_add]; exact hq
  · cases hq
structure StatS (ops : Array Oper) (is1 p : Nat) (A : List Nat) (t a : Nat) (y : Operand) : Prop where
  draw : drawOk ops = true
  pl : p ≤ ops.toList.length
  lt : is1 < p
  behind : ∀ (i : Nat) (o : Oper), ops.toList[i]? = some o → p ≤ i → ∀ j, j < i → Anc ops.toList j i
  st : ∃ o, ops.toList[is1]? = some o ∧ o.op = .store t (.tmp a) y ∧ o.dst = none ∧ o.guard = none
  anc : ∀ j ∈ A, Anc ops.toList j is1
  clos : ∀ j o, (j = is1 ∨ j ∈ A) → ops.toList[j]? = some o → ∀ e ∈ o.after, Region.binds .any e = true → e.on ∈ A
theorem statS_ok {ops : Array Oper} {is1 p t a : Nat} {y : Operand} (hd : drawOk ops = true) (hst : ∃ o, ops.toList[is1]? = some o ∧ o.op = .store t (.tmp a) y ∧ o.dst = none ∧ o.guard = none) (h : statS ops is1 p (ancsAt ops is1) = true) :
    StatS ops is1 p (ancsAt ops is1) t a y := by
  unfold statS at h
  rw [Bool.and_eq_true, Bool.and_eq_true, Bool.and_eq_true] at h
  obtain ⟨h1, h2, h3, h4⟩ := h
  refine ⟨hd, Nat.le_of_ble_eq_true h1, Nat.le_of_ble_eq_true h2, fun i o ho hp j hj => ?_, hst, fun j hj => ancsAt_spec hj, fun j o hj ho e he hb => ?_⟩
  · have := behind_spec (all := ops.toList) h3 rfl (fun i o h => by rw [Nat.zero_add]; exact h) (fun k j hj => by simp at hj) i o ho (by omega) j (by omega)
    rwa [Nat.zero_add] at this
  · unfold closedS at h4
    have h5 := List.all_eq_true.1 h4 j (List.mem_cons.2 hj)
    rw [ho] at h5
    have h6 := List.all_eq_true.1 h5 e (by simpa using he)
    rw [hb, Bool.not_true, Bool.false_or] at h6
    exact memN_iff.1 h6
theorem rest_mem {p is1 j : Nat} {A : List Nat} : j ∈ restOf p is1 A ↔ j < p ∧ j ∉ A ∧ j ≠ is1 := by
  unfold restOf
  rw [List.mem_filter, List.mem_range]
  constructor
  · rintro ⟨h1, h2⟩
    refine ⟨h1, fun h => ?_, fun h => ?_⟩
    · rw [memN_iff.2 h] at h2; cases h2
    · subst h; rw [Nat.beq_refl, Bool.or_true] at h2; cases h2
  · rintro ⟨h1, h2, h3⟩
    refine ⟨h1, ?_⟩
    cases hm : memN j A with
    | true => exact absurd (memN_iff.1 hm) h2
    | false =>
      cases hb : Nat.beq j is1 with
      | true => exact absurd (Nat.eq_of_beq_eq_true hb) h3
      | false => rfl
structure InvS (Pr : Nat → Prop) (w1 : World) (ρ cargs : List Value) (nt : Nat) (ops : Array Oper) (p is1 r : Nat) (A : List Nat) (H' : Hp) (s : St) (avs1 avs2 : List AV) (listed : Array Bool) (a : Act) (w : World) : Prop where
  size : a.tmps.size = nt
  defers : a.defers = []
  keep : Keep Pr w1 w
  lsize : listed.size = ops.size
  doneA : ∀ (j : Nat) (o : Oper) (av : AV) (u : Nat), (idleM (is1 :: restOf p is1 A) 0 (ops.toList.take p))[j]? = some o → avs1[j]? = some av → listed.getD j true = true → o.dst = some u → AVR w1 Pr ρ cargs av (a.tmps.getD u undef)
  doneB : ∀ (j : Nat) (o : Oper) (av : AV) (u : Nat), (idleM (is1 :: A) 0 (ops.toList.take p))[j]? = some o → avs2[j]? = some av → listed.getD j true = true → o.dst = some u → AVR w1 Pr ρ cargs av (a.tmps.getD u undef)
  still : ∀ (u : Nat) (v : AV), lk s.sl u = some v → (∀ (j : Nat) (o : Oper), j < p → ops.toList[j]? = some o → o.dst = some u → listed.getD j true = false) → AVR w1 Pr ρ cargs v (a.tmps.getD u undef)
  down : ∀ (j : Nat) (o : Oper), ops.toList[j]? = some o → listed.getD j true = true → ∀ e ∈ o.after, Region.binds .any e = true → listed.getD e.on true = true
  suf : ∀ i, p ≤ i → i < ops.size → listed.getD i true = false
  heap0 : listed.getD is1 true = false → HR w Pr ρ s.H
  heap1 : listed.getD is1 true = true → HR w Pr ρ H'
  heapK : HR w Pr ρ (s.H.set r none)
theorem invS_quiet {ops : Array Oper} {p is1 r : Nat} {A : List Nat} {H' : Hp} {t a0 : Nat} {y : Operand} (hst : StatS ops is1 p A t a0 y) {s : St} {avs1 avs2 : List AV} {w1 : World} {ρ : List Value} (hp : ∀ k, Pr k → k < w1.heap.size)
    {listed : Array Bool} {a : Act} {w : World} (hinv : InvS Pr w1 ρ cargs nt ops p is1 r A H' s avs1 avs2 listed a w) {i : Nat} {o : Oper} (ho : ops.toList[i]? = some o) (hip : i < p) (his : i ≠ is1) (hun : listed.getD i true = false)
    (hall : ∀ e ∈ o.after, Region.binds .any e = true → listed.getD e.on true = true) (hdst : dstOk nt o.dst = true) {av : AV} (hA : i ∉ is1 :: restOf p is1 A → avs1[i]? = some av) (hB : i ∉ is1 :: A → avs2[i]? = some av)
    {v : Value} {w' : World} (hv : AVR w Pr ρ cargs av v) (hs : Same w w') : InvS Pr w1 ρ cargs nt ops p is1 r A H' s avs1 avs2 (listed.setIfInBounds i true) (a.put o.dst v) w' := by
  have hpw : ∀ k, Pr k → k < w.heap.size := fun k hk => Nat.lt_of_lt_of_le (hp k hk) hinv.keep.size
  have hil' : i < listed.size := by rw [hinv.lsize]; exact lt_size ho
  have spec := draw_spec (all := ops) (n := 0) hst.draw
  simp only [Nat.zero_add] at spec
  have hv1 : AVR w1 Pr ρ cargs av v := hv.keep (fun k hk => (hinv.keep.block k hk).symm) fun _ _ h => h
  have hgd : ∀ (u : Nat), (a.put o.dst v).tmps.getD u undef = if o.dst = some u then v else a.tmps.getD u undef := by
    intro u
    cases hd : o.dst with
    | none => simp [Act.put]
    | some d' =>
      have hlt' : d' < a.tmps.size := by rw [hinv.size]; rw [hd] at hdst; exact of_decide_eq_true hdst
      simp only [Act.put]
      rw [getD_set _ _ _ _ hlt']
      simp
  have hother : ∀ (j : Nat) (o' : Oper) (u : Nat), j ≠ i → ops.toList[j]? = some o' → o'.dst = some u → o.dst ≠ some u := by
    intro j o' u hne hj' hd
    rcases Nat.lt_or_gt_of_ne hne with h | h
    · exact fun h2 => (pair_spec ((spec j o' hj').2 i o h ho)).2 u hd h2
    · intro h2; exact (pair_spec ((spec i o ho).2 j o' h hj')).2 u h2 hd
  have hl1 : (listed.setIfInBounds i true).getD is1 true = listed.getD is1 true := by
    rw [getD_listed hil', if_neg his]
  refine ⟨?_, ?_, hinv.keep.trans (Keep.of_below hs hpw), by simp [hinv.lsize], fun j o' av' u hj ha hl hd => ?_, fun j o' av' u hj ha hl hd => ?_, fun u v' hu hno => ?_, fun j o' hj hl e' he' hb' => ?_, fun j h1 h2 => ?_, fun h => ?_, fun h => ?_, hinv.heapK.keep hs.block⟩
  · cases o.dst <;> simp [Act.put, hinv.size]
  · cases o.dst <;> exact hinv.defers
  · rw [hgd u]
    obtain ⟨_, hj', hnm⟩ := frontM_real hj hd
    by_cases e' : j = i
    · subst e'
      rw [ho] at hj'
      cases hj'
      rw [hA hnm] at ha
      cases ha
      rw [if_pos hd]
      exact hv1
    · rw [if_neg (hother j o' u e' hj' hd)]
      rw [getD_listed hil', if_neg (Ne.symm e')] at hl
      exact hinv.doneA j o' av' u hj ha hl hd
  · rw [hgd u]
    obtain ⟨_, hj', hnm⟩ := frontM_real hj hd
    by_cases e' : j = i
    · subst e'
      rw [ho] at hj'
      cases hj'
      rw [hB hnm] at ha
      cases ha
      rw [if_pos hd]
      exact hv1
    · rw [if_neg (hother j o' u e' hj' hd)]
      rw [getD_listed hil', if_neg (Ne.symm e')] at hl
      exact hinv.doneB j o' av' u hj ha hl hd
  · rw [hgd u]
    have hne : o.dst ≠ some u := by
      intro h2
      have := hno i o hip ho h2
      rw [getD_listed hil', if_pos rfl] at this
      cases this
    rw [if_neg hne]
    refine hinv.still u v' hu fun j o' hjp hj hd => ?_
    have := hno j o' hjp hj hd
    rw [getD_listed hil'] at this
    split at this
    · cases this
    · exact this
  · rw [getD_listed hil'] at hl ⊢
    split
    · rfl
    · by_cases e2 : i = j
      · subst e2
        rw [ho] at hj
        cases hj
        exact hall e' he' hb'
      · rw [if_neg e2] at hl
        exact hinv.down j o' hj hl e' he' hb'
  · rw [getD_listed hil', if_neg (by omega)]
    exact hinv.suf j h1 h2
  · rw [hl1] at h
    exact (hinv.heap0 h).keep hs.block
  · rw [hl1] at h
    exact (hinv.heap1 h).keep hs.block
theorem same_ext {ρ ρ' : List Value} (hl : ρ'.length = ρ.length) (h : ∀ (r : Nat) (u : Value), ρ[r]? = some u → ρ'[r]? = some u) : ρ' = ρ := by
  apply List.ext_getElem?
  intro i
  rcases Nat.lt_or_ge i ρ.length with hi | hi
  · rw [List.getElem?_eq_getElem hi]
    exact h i _ (List.getElem?_eq_getElem hi)
  · rw [List.getElem?_eq_none hi, List.getElem?_eq_none (by omega)]
theorem storeK_set {H : Hp} {t r a b c : Nat} {x : FV} {k : Hp → R} {out : Out} (h : storeK T H t ⟨.r r, a, b, c⟩ x k = some out) : ∃ row', ∀ k', storeK T H t ⟨.r r, a, b, c⟩ x k' = k' (H.set r (some row')) := by
  unfold storeK at h ⊢
  dsimp only at h ⊢
  cases x with
  | el el =>
    cases hq : T.ek t with
    | none => rw [hq] at h; cases h
    | some q =>
      rw [hq] at h
      dsimp only at h ⊢
      cases hrow : rowAt H r with
      | none => rw [hrow] at h; cases h
      | some row =>
        rw [hrow] at h
        dsimp only at h ⊢
        cases ha : row.v.xs[b]? with
        | none => rw [ha] at h; cases h
        | some a' =>
          rw [ha] at h
          dsimp only at h ⊢
          cases hb : setElt row.v.k a' (decide (q = row.v.k) && Nat.beq c 0) c el with
          | none => rw [hb] at h; cases h
          | some b' =>
            rw [hb] at h
            dsimp only at h ⊢
            cases hc : (Nat.beq el.cells.length q.sz && Nat.beq a row.v.k.sz && decide (c < row.v.k.sz)) with
            | false => rw [hc] at h; cases h
            | true => exact ⟨_, fun k' => rfl⟩
  | _ => cases hq : T.ek t <;> rw [hq] at h <;> cases h
theorem store_does (hT : TOK P T) {o : Oper} {t a0 r sz i j : Nat} {y : Operand} (hop : o.op = .store t (.tmp a0) y) {s : St} {k : AV → Hp → R} {out : Out} (ha : lk s.sl a0 = some (.fv (.pt ⟨.r r, sz, i, j⟩))) (h : opK T false (.store t (.tmp a0) y) s k = some out) :
    ∃ row', k .un (s.H.set r (some row')) = some out ∧ Does P o s .un (s.H.set r (some row')) := by
  have e1 : evO s (.tmp a0) = some (.pt ⟨.r r, sz, i, j⟩) := by
    unfold evO
    dsimp only
    rw [ha]
  have key : ∃ row', ∀ k' : AV → Hp → R, opK T false (.store t (.tmp a0) y) s k' = k' .un (s.H.set r (some row')) := by
    unfold opK at h ⊢
    simp only [cond_false, e1] at h ⊢
    cases hv : evO s y with
    | none => rw [hv] at h; cases h
    | some v =>
      rw [hv] at h
      dsimp only at h ⊢
      obtain ⟨row', h1⟩ := storeK_set h
      exact ⟨row', fun k' => h1 _⟩
  obtain ⟨row', hk⟩ := key
  refine ⟨row', (hk k).symm.trans h, ?_⟩
  have := opK_does hT (o := o) (s := s) (k := fun av H' => @ite _ (av = .un ∧ H' = s.H.set r (some row')) (Classical.propDecidable _) (some out) none) (out := out) (by rw [hop, hk]; simp)
  obtain ⟨av, H', h1, h2⟩ := this
  split at h1
  · rename_i h3
    obtain ⟨rfl, rfl⟩ := h3
    exact h2
  · cases h1
theorem invS_step {ops : Array Oper} {p is1 r t a0 : Nat} {A : List Nat} {y : Operand} (hst : StatS ops is1 p A t a0 y) {s s1 s2 : St} {avs1 avs2 : List AV} {row' : Row}
    (hpath1 : Path P (idleM (is1 :: restOf p is1 A) 0 (ops.toList.take p)) nt (idleM (is1 :: restOf p is1 A) 0 (ops.toList.take p)) s avs1 s1)
    (hpath2 : Path P (idleM (is1 :: A) 0 (ops.toList.take p)) nt (idleM (is1 :: A) 0 (ops.toList.take p)) ⟨s1.sl, s.H.set r none⟩ avs2 s2)
    (hdo : ∀ o, ops.toList[is1]? = some o → Does P o s1 .un (s.H.set r (some row'))) {w1 : World} {ρ : List Value} (hp : ∀ k, Pr k → k < w1.heap.size)
    {listed : Array Bool} {a : Act} {w : World} (hinv : InvS Pr w1 ρ cargs nt ops p is1 r A (s.H.set r (some row')) s avs1 avs2 listed a w) {i : Nat} (hr : i ∈ Region.ready .any ops listed) (hip : i < p) {Q : Exit → Act → World → Prop} {K : Act → World → Prop}
    (hK : ∀ a2 w2, InvS Pr w1 ρ cargs nt ops p is1 r A (s.H.set r (some row')) s avs1 avs2 (listed.setIfInBounds i true) a2 w2 → K a2 w2) : wpOp P ops Q i K a w := by
  obtain ⟨hun, o, ho, hall⟩ := mem_ready.1 hr
  have ho' : ops.toList[i]? = some o := by rw [← ho]; simp
  have hil' : i < listed.size := by rw [hinv.lsize]; exact lt_size ho'
  have spec := draw_spec (all := ops) (n := 0) hst.draw
  simp only [Nat.zero_add] at spec
  have hpw : ∀ k, Pr k → k < w.heap.size := fun k hk => Nat.lt_of_lt_of_le (hp k hk) hinv.keep.size
  have hall' : ∀ e ∈ o.after, Region.binds .any e = true → listed.getD e.on true = true := fun e he hb => getD_false (hall e he hb)
  have toW : ∀ {av : AV} {v : Value}, AVR w1 Pr ρ cargs av v → AVR w Pr ρ cargs av v := fun h => h.keep hinv.keep.block fun _ _ h => h
  have hmem : ∀ u, optIn (some u) (o.looksAt ops) = true → u ∈ o.looksAt ops := fun u h => memN_iff.1 h
  have pairS : ∀ (j : Nat) (o' : Oper) (u : Nat), ops.toList[j]? = some o' → o'.dst = some u → u ∈ o.looksAt ops → (j < i ∧ listed.getD j true = true ∧ ∃ e ∈ o.after, Region.binds .any e = true ∧ e.on = j) ∨ j = i ∨ (i < j ∧ listed.getD j true = false ∧ ∃ e ∈ o'.after, Region.binds .any e = true ∧ e.on = i) := by
    intro j o' u hj hd hu
    rcases Nat.lt_trichotomy j i with h | h | h
    · refine .inl ⟨h, ?_⟩
      rcases (pair_spec ((spec j o' hj).2 i o h ho')).1 with ⟨e', he', hb', hon⟩ | ⟨hno, _⟩
      · refine ⟨?_, e', he', hb', hon⟩
        rw [← hon]
        exact hall' e' he' hb'
      · exact absurd hu (hno u hd)
    · exact .inr (.inl h)
    · refine .inr (.inr ⟨h, ?_⟩)
      rcases (pair_spec ((spec i o ho').2 j o' h hj)).1 with ⟨e', he', hb', hon⟩ | ⟨_, hno⟩
      · refine ⟨?_, e', he', hb', hon⟩
        cases hl : listed.getD j true with
        | false => rfl
        | true =>
          have := hinv.down j o' hj hl e' he' hb'
          rw [hon, hun] at this
          cases this
      · exact absurd hu (hno u hd)
  unfold wpOp
  rw [ho]
  dsimp only
  by_cases his : i = is1
  · -- THE WRITE
    subst his
    obtain ⟨o2, ho2, hop, hdst, hgd⟩ := hst.st
    rw [ho'] at ho2
    cases ho2
    have hw : Region.wanted o (yielded ops a.tmps) = true := by unfold Region.wanted; rw [hgd]
    rw [if_pos hw]
    have hlook : ∀ u, u ∈ o.looksAt ops → ∀ v, lk s1.sl u = some v → AVR w Pr ρ cargs v (a.tmps.getD u undef) := by
      intro u hu v hv
      refine toW ?_
      rcases hpath1.final hv with ⟨j, o', h1, h2, h3⟩ | ⟨h1, h2⟩
      · obtain ⟨hjp, hj, hne⟩ := frontM_real h1 h2
        refine hinv.doneA j o' v u h1 h3 ?_ h2
        rcases pairS j o' u hj h2 hu with h8 | h8 | h8
        · exact h8.2.1
        · exact absurd (List.mem_cons.2 (.inl h8)) hne
        · obtain ⟨_, _, e', he', hb', hon⟩ := h8
          have hjA : j ∈ A := by
            refine Classical.byContradiction fun hna => hne (List.mem_cons_of_mem _ (rest_mem.2 ⟨hjp, hna, fun e => hne (List.mem_cons.2 (.inl e))⟩))
          exact anc_ready hinv.down (hst.anc j hjA) ho' hall'
      · refine hinv.still u v h1 fun j o' hjp hj hd => ?_
        rcases pairS j o' u hj hd hu with h8 | h8 | h8
        · obtain ⟨_, _, e', he', hb', hon⟩ := h8
          have hjA : j ∈ A := by rw [← hon]; exact hst.clos i o (.inl rfl) ho' e' he' hb'
          refine absurd hd (h2 j o' (frontM_of hjp hj fun hm => ?_))
          rcases List.mem_cons.1 hm with h9 | h9
          · subst h9
            rw [ho'] at hj
            cases hj
            rw [hdst] at hd
            cases hd
          · exact (rest_mem.1 h9).2.1 hjA
        · subst h8
          exact hun
        · exact h8.2.1
    have hnoA : listed.getD i true = false := hun
    have hH1 : s1.H = s.H := hpath1.heap
    refine .inl ((hdo o ho' a w Pr ρ cargs hpw (by rw [hH1]; exact hinv.heap0 hun) (Opd.of_slots fun u hu v hv => hlook u ?_ v hv)).wp ?_)
    · unfold Oper.looksAt
      refine List.mem_append_left _ (List.mem_filterMap.2 ⟨.tmp u, by simpa using hu, rfl⟩)
    · rintro v w' ⟨ρ', hρ, _, hHR, hkeep⟩
      have hlen : ρ'.length = ρ.length := by
        rw [hHR.len, List.length_set, (hinv.heap0 hun).len]
      have := same_ext hlen hρ
      subst this
      rw [hdst]
      refine hK _ _ ⟨hinv.size, hinv.defers, hinv.keep.trans hkeep, by simp [hinv.lsize], fun j o' av' u hj ha hl hd => ?_, fun j o' av' u hj ha hl hd => ?_, fun u v' hu hno => ?_, fun j o' hj hl e' he' hb' => ?_, fun j h1 h2 => ?_, fun h => ?_, fun _ => hHR, ?_⟩
      · obtain ⟨_, _, hnm⟩ := frontM_real hj hd
        have hji : ¬ i = j := fun e => hnm (List.mem_cons.2 (.inl e.symm))
        rw [getD_listed hil', if_neg hji] at hl
        exact hinv.doneA j o' av' u hj ha hl hd
      · obtain ⟨_, _, hnm⟩ := frontM_real hj hd
        have hji : ¬ i = j := fun e => hnm (List.mem_cons.2 (.inl e.symm))
        rw [getD_listed hil', if_neg hji] at hl
        exact hinv.doneB j o' av' u hj ha hl hd
      · refine hinv.still u v' hu fun j o' hjp hj hd => ?_
        have := hno j o' hjp hj hd
        rw [getD_listed hil'] at this
        split at this
        · cases this
        · exact this
      · rw [getD_listed hil'] at hl ⊢
        split
        · rfl
        · by_cases e2 : i = j
          · subst e2
            rw [ho'] at hj
            cases hj
            exact hall' e' he' hb'
          · rw [if_neg e2] at hl
            exact hinv.down j o' hj hl e' he' hb'
      · rw [getD_listed hil', if_neg (by omega)]
        exact hinv.suf j h1 h2
      · rw [getD_listed hil', if_pos rfl] at h
        cases h
      · have := hHR.drop r
        rw [List.set_set] at this
        exact this
  · by_cases hiA : i ∈ A
    · -- WHAT THE WRITE WAITS FOR
      have hnm : i ∉ is1 :: restOf p is1 A := fun hm => by
        rcases List.mem_cons.1 hm with h | h
        · exact his h
        · exact (rest_mem.1 h).2.1 hiA
      have hoi := frontM_of hip ho' hnm
      obtain ⟨av, hav⟩ : ∃ av, avs1[i]? = some av := ⟨_, List.getElem?_eq_getElem (by rw [hpath1.len, idleM_len, List.length_take]; have := lt_size ho'; simp; omega)⟩
      obtain ⟨hdst, si, sx, hsH, hstep, hslots⟩ := hpath1.at hoi hav
      have hun1 : listed.getD is1 true = false := by
        cases hb : listed.getD is1 true with
        | false => rfl
        | true =>
          have := anc_listed hinv.down (hst.anc i hiA) hb
          rw [hun] at this
          cases this
      have hlook : ∀ u, u ∈ o.looksAt ops → ∀ v, lk si.sl u = some v → AVR w Pr ρ cargs v (a.tmps.getD u undef) := by
        intro u hu v hv
        refine toW ?_
        rcases hslots u v hv with ⟨j, o', h1, h2, h3, h4⟩ | ⟨h1, h2⟩
        · obtain ⟨hjp, h2', _⟩ := frontM_real h2 h3
          refine hinv.doneA j o' v u h2 h4 ?_ h3
          rcases pairS j o' u h2' h3 hu with h8 | h8 | h8
          · exact h8.2.1
          · omega
          · omega
        · refine hinv.still u v h1 fun j o' hjp hj hd => ?_
          rcases pairS j o' u hj hd hu with h8 | h8 | h8
          · obtain ⟨hji, _, e', he', hb', hon⟩ := h8
            have hjA : j ∈ A := by rw [← hon]; exact hst.clos i o (.inr hiA) ho' e' he' hb'
            refine absurd hd (h2 j o' hji (frontM_of hjp hj fun hm => ?_))
            rcases List.mem_cons.1 hm with h9 | h9
            · subst h9
              obtain ⟨o3, ho3, _, hd3, _⟩ := hst.st
              rw [hj] at ho3
              cases ho3
              rw [hd3] at hd
              cases hd
            · exact (rest_mem.1 h9).2.1 hjA
          · subst h8; exact hun
          · exact h8.2.1
      have hnext : ∀ (v : Value) (w' : World), AVR w Pr ρ cargs av v → Same w w' → K (a.put o.dst v) w' := fun v w' hv hs =>
        hK _ _ (invS_quiet hst hp hinv ho' hip his hun hall' hdst (fun _ => hav) (fun h => absurd (List.mem_cons_of_mem _ hiA) h) hv hs)
      rcases hstep with ⟨hg', hq⟩ | ⟨hg', rfl⟩
      · rw [if_pos (hg'.frontM.wanted (w := w) (Pr := Pr) (ρ := ρ) (cargs := cargs) fun u hd v hv => hlook u (hmem u hd) v hv)]
        refine .inl ((hq a w Pr ρ cargs hpw ?_ (Opd.of_slots fun u hu v hv => ?_)).wp fun v w' ⟨h1, h2⟩ => hnext v w' h1 h2)
        · rw [hg'.same.2, hsH]
          exact hinv.heap0 hun1
        · refine hlook u ?_ v (by rw [← hg'.same.1 u]; exact hv)
          unfold Oper.looksAt
          refine List.mem_append_left _ (List.mem_filterMap.2 ⟨.tmp u, by simpa using hu, rfl⟩)
      · rw [if_neg (by rw [hg'.frontM.wanted (w := w) (Pr := Pr) (ρ := ρ) (cargs := cargs) fun u hd v hv => hlook u (hmem u hd) v hv]; exact Bool.false_ne_true)]
        exact hnext undef w rfl (Same.refl w)
    · -- THE OTHERS
      have hnm : i ∉ is1 :: A := fun hm => by
        rcases List.mem_cons.1 hm with h | h
        · exact his h
        · exact hiA h
      have hoi := frontM_of hip ho' hnm
      obtain ⟨av, hav⟩ : ∃ av, avs2[i]? = some av := ⟨_, List.getElem?_eq_getElem (by rw [hpath2.len, idleM_len, List.length_take]; have := lt_size ho'; simp; omega)⟩
      obtain ⟨hdst, si, sx, hsH, hstep, hslots⟩ := hpath2.at hoi hav
      have hlook : ∀ u, u ∈ o.looksAt ops → ∀ v, lk si.sl u = some v → AVR w Pr ρ cargs v (a.tmps.getD u undef) := by
        intro u hu v hv
        refine toW ?_
        rcases hslots u v hv with ⟨j, o', h1, h2, h3, h4⟩ | ⟨h1, h2⟩
        · obtain ⟨hjp, h2', _⟩ := frontM_real h2 h3
          refine hinv.doneB j o' v u h2 h4 ?_ h3
          rcases pairS j o' u h2' h3 hu with h8 | h8 | h8
          · exact h8.2.1
          · omega
          · omega
        · -- from the first part
          have noB : ∀ (j : Nat) (o' : Oper), j < p → ops.toList[j]? = some o' → o'.dst = some u → j ∉ A → j ≠ is1 → listed.getD j true = false := by
            intro j o' hjp hj hd hjA hjs
            rcases pairS j o' u hj hd hu with h8 | h8 | h8
            · exact absurd hd (h2 j o' h8.1 (frontM_of hjp hj fun hm => (List.mem_cons.1 hm).elim hjs hjA))
            · subst h8; exact hun
            · exact h8.2.1
          rcases hpath1.final h1 with ⟨j, o', f1, f2, f3⟩ | ⟨f1, f2⟩
          · obtain ⟨hjp, hj, hne⟩ := frontM_real f1 f2
            have hjA : j ∈ A := Classical.byContradiction fun hna => hne (List.mem_cons_of_mem _ (rest_mem.2 ⟨hjp, hna, fun e => hne (List.mem_cons.2 (.inl e))⟩))
            refine hinv.doneA j o' v u f1 f3 ?_ f2
            rcases pairS j o' u hj f2 hu with h8 | h8 | h8
            · exact h8.2.1
            · subst h8; exact absurd hjA hiA
            · obtain ⟨_, _, e', he', hb', hon⟩ := h8
              refine absurd ?_ hiA
              rw [← hon]
              exact hst.clos j o' (.inr hjA) hj e' he' hb'
          · refine hinv.still u v f1 fun j o' hjp hj hd => ?_
            by_cases hjs : j = is1
            · subst hjs
              obtain ⟨o3, ho3, _, hd3, _⟩ := hst.st
              rw [hj] at ho3
              cases ho3
              rw [hd3] at hd
              cases hd
            · by_cases hjA : j ∈ A
              · refine absurd hd (f2 j o' (frontM_of hjp hj fun hm => ?_))
                rcases List.mem_cons.1 hm with h9 | h9
                · exact hjs h9
                · exact (rest_mem.1 h9).2.1 hjA
              · exact noB j o' hjp hj hd hjA hjs
      have hnext : ∀ (v : Value) (w' : World), AVR w Pr ρ cargs av v → Same w w' → K (a.put o.dst v) w' := fun v w' hv hs =>
        hK _ _ (invS_quiet hst hp hinv ho' hip his hun hall' hdst (fun h => absurd (List.mem_cons_of_mem _ (rest_mem.2 ⟨hip, hiA, his⟩)) h) (fun _ => hav) hv hs)
      rcases hstep with ⟨hg', hq⟩ | ⟨hg', rfl⟩
      · rw [if_pos (hg'.frontM.wanted (w := w) (Pr := Pr) (ρ := ρ) (cargs := cargs) fun u hd v hv => hlook u (hmem u hd) v hv)]
        refine .inl ((hq a w Pr ρ cargs hpw ?_ (Opd.of_slots fun u hu v hv => ?_)).wp fun v w' ⟨h1, h2⟩ => hnext v w' h1 h2)
        · rw [hg'.same.2, hsH]
          exact hinv.heapK
        · refine hlook u ?_ v (by rw [← hg'.same.1 u]; exact hv)
          unfold Oper.looksAt
          refine List.mem_append_left _ (List.mem_filterMap.2 ⟨.tmp u, by simpa using hu, rfl⟩)
      · rw [if_neg (by rw [hg'.frontM.wanted (w := w) (Pr := Pr) (ρ := ρ) (cargs := cargs) fun u hd v hv => hlook u (hmem u hd) v hv]; exact Bool.false_ne_true)]
        exact hnext undef w rfl (Same.refl w)
theorem invS_any {ops : Array Oper} {p is1 r t a0 : Nat} {A : List Nat} {y : Operand} (hst : StatS ops is1 p A t a0 y) {s s1 s2 : St} {avs1 avs2 : List AV} {row' : Row}
    (hpath1 : Path P (idleM (is1 :: restOf p is1 A) 0 (ops.toList.take p)) nt (idleM (is1 :: restOf p is1 A) 0 (ops.toList.take p)) s avs1 s1)
    (hpath2 : Path P (idleM (is1 :: A) 0 (ops.toList.take p)) nt (idleM (is1 :: A) 0 (ops.toList.take p)) ⟨s1.sl, s.H.set r none⟩ avs2 s2)
    (hdo : ∀ o, ops.toList[is1]? = some o → Does P o s1 .un (s.H.set r (some row'))) {w1 : World} {ρ : List Value} (hp : ∀ k, Pr k → k < w1.heap.size)
    {Q : Exit → Act → World → Prop} (hQ : ∀ (listed : Array Bool) (a : Act) (w : World), InvS Pr w1 ρ cargs nt ops p is1 r A (s.H.set r (some row')) s avs1 avs2 listed a w → (∀ j, j < ops.size → (listed.getD j true = true ↔ j < p)) → wpAny P .any ops Q (ops.toList.drop p).length listed a w) :
    ∀ (fuel : Nat) (left : List Nat) (listed : Array Bool) (a : Act) (w : World), left.length = fuel → left.Nodup → (∀ i, i ∈ left ↔ i < p ∧ listed.getD i true = false) → InvS Pr w1 ρ cargs nt ops p is1 r A (s.H.set r (some row')) s avs1 avs2 listed a w → wpAny P .any ops Q (fuel + (ops.toList.drop p).length) listed a w := by
  have hpl : p ≤ ops.size := by simpa using hst.pl
  intro fuel
  induction fuel with
  | zero =>
    intro left listed a w hl hn hleft hinv
    have hnil : left = [] := List.eq_nil_of_length_eq_zero hl
    subst hnil
    rw [Nat.zero_add]
    refine hQ listed a w hinv fun j hj => ?_
    constructor
    · intro h
      rcases Nat.lt_or_ge j p with h2 | h2
      · exact h2
      · rw [hinv.suf j h2 hj] at h; cases h
    · intro h
      cases hb : listed.getD j true with
      | true => rfl
      | false => exact absurd ((hleft j).2 ⟨h, hb⟩) (by simp)
  | succ fuel ih =>
    intro left listed a w hl hn hleft hinv
    have hex : ∃ i, i ∈ left := by
      cases left with
      | nil => simp at hl
      | cons i l => exact ⟨i, by simp⟩
    rw [show fuel + 1 + (ops.toList.drop p).length = fuel + (ops.toList.drop p).length + 1 by omega]
    refine ⟨fun hempty => ?_, fun i hi => ?_⟩
    · exfalso
      obtain ⟨i0, hi0⟩ := hex
      have hmin : ∃ i, i ∈ left ∧ ∀ j, j < i → j ∉ left := by
        have key : ∀ n i, i ≤ n → i ∈ left → ∃ i, i ∈ left ∧ ∀ j, j < i → j ∉ left := by
          intro n
          induction n with
          | zero => intro i hi him; exact ⟨i, him, fun j hj => by omega⟩
          | succ n ihn =>
            intro i hi him
            by_cases h : ∃ j, j < i ∧ j ∈ left
            · obtain ⟨j, hj, hjm⟩ := h
              exact ihn j (by omega) hjm
            · exact ⟨i, him, fun j hj hjm => h ⟨j, hj, hjm⟩⟩
        exact key i0 i0 (Nat.le_refl _) hi0
      obtain ⟨i, him, hmini⟩ := hmin
      obtain ⟨hlt, hun⟩ := (hleft i).1 him
      obtain ⟨o, ho⟩ : ∃ o, ops[i]? = some o := ⟨_, Array.getElem?_eq_getElem (by omega)⟩
      have ho' : ops.toList[i]? = some o := by rw [← ho]; simp
      have hready : i ∈ Region.ready .any ops listed := by
        refine mem_ready.2 ⟨hun, o, ho, fun e he hb => ?_⟩
        have hon := (draw_spec (all := ops) (n := 0) hst.draw i o ho').1 e he hb
        simp only [Nat.zero_add] at hon
        have hnl : e.on ∉ left := hmini _ hon
        have htrue : listed.getD e.on true = true := by
          cases hb2 : listed.getD e.on true with
          | true => rfl
          | false => exact absurd ((hleft _).2 ⟨by omega, hb2⟩) hnl
        have hls : e.on < listed.size := by rw [hinv.lsize]; omega
        simp [Array.getD, hls] at htrue ⊢
        exact htrue
      rw [hempty] at hready
      cases hready
    · obtain ⟨h1, o, ho, hall⟩ := mem_ready.1 hi
      have ho' : ops.toList[i]? = some o := by rw [← ho]; simp
      have hlt := lt_size ho'
      have hip : i < p := by
        rcases Nat.lt_or_ge i p with h2 | h2
        · exact h2
        · exfalso
          obtain ⟨j, hj⟩ := hex
          obtain ⟨hjp, hju⟩ := (hleft j).1 hj
          have := anc_ready hinv.down (hst.behind i o ho' h2 j (by omega)) ho' (fun e he hb => getD_false (hall e he hb))
          rw [hju] at this
          cases this
      have him : i ∈ left := (hleft i).2 ⟨hip, h1⟩
      refine invS_step hst hpath1 hpath2 hdo hp hinv hi hip fun a2 w2 hinv' => ih (left.erase i) _ a2 w2 ?_ (hn.erase i) (fun j => ?_) hinv'
      · rw [List.length_erase_of_mem him, hl]; rfl
      · rw [hn.mem_erase_iff, hleft j, getD_listed (by rw [hinv.lsize]; exact hlt)]
        constructor
        · rintro ⟨hne, h2, h3⟩; exact ⟨h2, by rw [if_neg (Ne.symm hne)]; exact h3⟩
        · rintro ⟨h2, h3⟩
          split at h3
          · cases h3
          · rename_i e; exact ⟨Ne.symm e, h2, h3⟩
theorem drawnS_ok (hT : TOK P T) (hp : ∀ k, Pr k → k < w0.heap.size) {ops : Array Oper} (hd : drawOk ops = true) {is1 p : Nat} {Q : Exit → Act → World → Prop} {out : Out} {k : St → R} {id : Nat} {s : St} {a : Act} {w : World} {ρ : List Value}
    (h : drawnS T nt ops is1 p s k = some out) (hs : SR Pr w0 cargs nt s a w ρ) (nf : Nat) (hQ : ∀ s' a' w' ρ', k s' = some out → SR Pr w0 cargs nt s' a' w' ρ' → Ext nf ρ ρ' → Q .normal a' w') : (Code.region id ops true).wp P Q a w := by
  unfold drawnS at h
  split at h
  · rename_i o ho
    split at h
    · rename_i t a0 y hop hdst hgd
      cases hsg : statS ops is1 p (ancsAt ops is1) with
      | false => rw [hsg] at h; cases h
      | true =>
        rw [hsg] at h
        simp only [cond_true] at h
        have hst := statS_ok hd ⟨o, ho, hop, hdst, hgd⟩ hsg
        obtain ⟨avs1, s1, hpath1, h⟩ := opsK_path hT _ _ h
        split at h
        · rename_i r sz ii jj hr
          obtain ⟨avs2, s2, hpath2, h⟩ := opsK_path hT _ _ h
          obtain ⟨row', hk, hdo⟩ := store_does hT hop hr h
          have hH1 : s1.H = s.H := hpath1.heap
          rw [hH1] at hk hdo hpath2
          have hpl : p ≤ ops.size := by simpa using hst.pl
          have hsame : Same w { w with drawn := w.drawn + 1 } := Same.drew w
          have hpw : ∀ k, Pr k → k < ({ w with drawn := w.drawn + 1 } : World).heap.size := hs.lt hp
          have hH : HR ({ w with drawn := w.drawn + 1 } : World) Pr ρ s.H := hs.heap.keep hsame.block
          have hdl : (ops.toList.drop p).length = ops.size - p := by simp
          have hfalse : ∀ (j : Nat), (Array.replicate ops.size false).getD j true = true → j < ops.size → False := by
            intro j h1 h2
            simp [Array.getD, h2] at h1
          have hi1 : is1 < ops.size := lt_size ho
          refine wp_region_any hT.mo ?_
          have start : InvS Pr ({ w with drawn := w.drawn + 1 } : World) ρ cargs nt ops p is1 r (ancsAt ops is1) (s.H.set r (some row')) s avs1 avs2 (Array.replicate ops.size false) a { w with drawn := w.drawn + 1 } :=
            ⟨hs.size, hs.defers, Keep.refl _ _, by simp, fun j o av u hj ha hl hd => (hfalse j hl (lt_size (frontM_real hj hd).2.1)).elim, fun j o av u hj ha hl hd => (hfalse j hl (lt_size (frontM_real hj hd).2.1)).elim, fun u v hv _ => (hs.slots u v hv).same hsame (hs.lt hp), fun j o hj hl => (hfalse j hl (lt_size hj)).elim, fun i _ h2 => by simp [Array.getD, h2], fun _ => hH, fun hl => (hfalse _ hl hi1).elim, hH.drop r⟩
          have all0 : ∀ i, i ∈ List.range p ↔ i < p ∧ (Array.replicate ops.size false).getD i true = false := by
            intro i
            rw [List.mem_range]
            constructor
            · intro hi
              have : i < ops.size := by omega
              exact ⟨hi, by simp [Array.getD, this]⟩
            · exact fun h => h.1
          have main := invS_any (cargs := cargs) (Q := Q) hst hpath1 hpath2 (fun o' ho' => by rw [ho] at ho'; cases ho'; exact hdo) hpw (fun listed a2 w2 hinv hlist => ?_) p (List.range p) _ a _ (by simp) List.nodup_range all0 start
          · rwa [show p + (ops.toList.drop p).length = ops.size by rw [hdl]; omega] at main
          · have hstB : StatB ops ops.size p 0 0 0 nt := ⟨hd, hst.pl, hst.behind, fun hlt => by omega, fun i o hip ho hlt => by omega⟩
            refine turn_ok hT nf hp hstB (ops.toList.drop p) p _ listed a2 w2 ρ rfl (Nat.le_refl _) (by rw [hdl]; omega) hinv.lsize hlist hk ⟨hinv.size, hinv.defers, fun u v hv => ?_, hinv.heap1 ((hlist is1 hi1).2 hst.lt), hs.keep.trans ((Keep.of_below hsame (hs.lt hp)).trans hinv.keep)⟩ hQ
            have toW : ∀ {av : AV} {v : Value}, AVR ({ w with drawn := w.drawn + 1 } : World) Pr ρ cargs av v → AVR w2 Pr ρ cargs av v := fun h => h.keep hinv.keep.block fun _ _ h => h
            refine toW ?_
            have hl : ∀ j, j < p → listed.getD j true = true := fun j hj => (hlist j (by omega)).2 hj
            rcases hpath2.final hv with ⟨j, o', h1, h2, h3⟩ | ⟨h1, h2⟩
            · exact hinv.doneB j o' v u h1 h3 (hl j (frontM_real h1 h2).1) h2
            · rcases hpath1.final h1 with ⟨j, o', f1, f2, f3⟩ | ⟨f1, f2⟩
              · exact hinv.doneA j o' v u f1 f3 (hl j (frontM_real f1 f2).1) f2
              · refine hinv.still u v f1 fun j o' hjp hj hd => ?_
                exfalso
                by_cases hjs : j = is1
                · subst hjs
                  rw [ho] at hj
                  cases hj
                  rw [hdst] at hd
                  cases hd
                · by_cases hjA : j ∈ ancsAt ops is1
                  · refine f2 j o' (frontM_of hjp hj fun hm => ?_) hd
                    rcases List.mem_cons.1 hm with h9 | h9
                    · exact hjs h9
                    · exact (rest_mem.1 h9).2.1 hjA
                  · refine h2 j o' (frontM_of hjp hj fun hm => ?_) hd
                    rcases List.mem_cons.1 hm with h9 | h9
                    · exact hjs h9
                    · exact hjA h9
        · cases h
    · cases h
  · cases h
end
end Go.Sm
namespace Go.Sm
open Go Go.RowKit
section
variable {P : Program} {T : TT} {Pr : Nat → Prop} {w0 : World} {cargs : List Value} {nt : Nat}
theorem mvOp_spec {o : Oper} {x : Operand} {d : Nat} (h : mvOp o = some (x, d)) : o.op = .move x ∧ o.dst = some d ∧ o.guard = none := by
  unfold mvOp at h
  split at h
  · rename_i h1 h2 h3
    cases h
    exact ⟨h1, h2, h3⟩
  · cases h
theorem clOp_spec {o : Oper} {f a d : Nat} (h : clOp o = some (f, a, d)) : (∃ c : Call, o.op = .call c ∧ c.callee = .value (.func f) ∧ c.args.toList = [.tmp a]) ∧ o.dst = some d ∧ o.guard = none := by
  unfold clOp at h
  split at h
  · rename_i c d' h1 h2 h3
    split at h
    · rename_i h4 h5
      cases h
      exact ⟨⟨c, h1, h4, h5⟩, h2, h3⟩
    · cases h
  · cases h
theorem b1Op_spec {o : Oper} {t b d : Nat} (h : b1Op o = some (t, b, d)) : (∃ parts, o.op = .buildSlice t 1 parts ∧ parts.toList = [(0, .tmp b)]) ∧ o.dst = some d ∧ o.guard = none := by
  unfold b1Op at h
  split at h
  · rename_i t' n parts d' h1 h2 h3
    split at h
    · rename_i b' h4
      cases hn : Nat.beq n 1 with
      | false => rw [hn] at h; cases h
      | true =>
        rw [hn] at h
        cases h
        have := Nat.eq_of_beq_eq_true hn
        subst this
        exact ⟨⟨parts, h1, h4⟩, h2, h3⟩
    · cases h
  · cases h
theorem apOp_spec {o : Oper} {t x y d : Nat} (h : apOp o = some (t, x, y, d)) : (∃ c : Call, o.op = .call c ∧ c.callee = .builtin .append ∧ c.args.toList = [.tmp x, .tmp y] ∧ c.argTypes.toList = [t, t]) ∧ o.dst = some d ∧ o.guard = none := by
  unfold apOp at h
  split at h
  · rename_i c d' h1 h2 h3
    split at h
    · rename_i x' y' t1 t2 h4 h5 h6
      cases hn : Nat.beq t1 t2 with
      | false => rw [hn] at h; cases h
      | true =>
        rw [hn] at h
        cases h
        have := Nat.eq_of_beq_eq_true hn
        subst this
        exact ⟨⟨c, h1, h4, h5, h6⟩, h2, h3⟩
    · cases h
  · cases h
theorem less_lk {ds : List Nat} : ∀ {l : List (Nat × AV)} {t : Nat} {v : AV}, lk (less ds l) t = some v → t ∉ ds ∧ lk l t = some v
  | [], t, v, h => by cases h
  | p :: l, t, v, h => by
    unfold less at h
    rw [List.filter_cons] at h
    split at h
    · rename_i hp
      rw [lk_cons] at h
      split at h
      · rename_i e
        cases h
        refine ⟨fun hm => ?_, by rw [lk_cons, if_pos e]⟩
        rw [← e] at hm
        rw [memN_iff.2 hm] at hp
        cases hp
      · rename_i e
        obtain ⟨h1, h2⟩ := less_lk (l := l) h
        exact ⟨h1, by rw [lk_cons, if_neg e]; exact h2⟩
    · rename_i hp
      obtain ⟨h1, h2⟩ := less_lk (l := l) h
      refine ⟨h1, ?_⟩
      rw [lk_cons, if_neg (fun e => ?_)]
      · exact h2
      · subst e
        refine hp ?_
        cases hm : memN p.1 ds with
        | false => rfl
        | true => exact absurd (memN_iff.1 hm) h1
theorem yields_move {o : Oper} {a : Act} {w : World} {x : Operand} {Φ : Value → World → Prop} (hop : o.op = .move x) (h : Φ (a.eval x) w) : Yields P o a w Φ := by
  unfold Yields
  rw [exec_eq hop]
  exact h
theorem wanted_none {o : Oper} (h : o.guard = none) (y : Nat → Option Bool) : Region.wanted o y = true := by
  unfold Region.wanted
  rw [h]
theorem SR.forget {s : St} {a : Act} {w : World} {ρ : List Value} {d : Nat} {v : Value} (h : SR Pr w0 cargs nt s a w ρ) (hd : d < nt) (sl : List (Nat × AV)) (hsl : ∀ t u, lk sl t = some u → t ≠ d ∧ lk s.sl t = some u) : SR Pr w0 cargs nt ⟨sl, s.H⟩ (a.put (some d) v) w ρ := by
  refine ⟨by simp [Act.put, h.size], h.defers, fun t u hu => ?_, h.heap, h.keep⟩
  obtain ⟨h1, h2⟩ := hsl t u hu
  simp only [Act.put]
  rw [getD_set _ _ _ _ (by rw [h.size]; exact hd), if_neg (fun e => h1 e.symm)]
  exact h.slots t u h2
theorem eval_tmp_put {a : Act} {d t : Nat} {v : Value} (hd : d < a.tmps.size) : (a.put (some d) v).eval (.tmp t) = if d = t then v else a.eval (.tmp t) := by
  show (a.tmps.setIfInBounds d v).getD t undef = _
  rw [getD_set _ _ _ _ hd]
  rfl
theorem eval_at {s : St} {a : Act} {w : World} {ρ : List Value} (hs : SR Pr w0 cargs nt s a w ρ) {x : Operand} {v : FV} (h : evO s x = some v) : FVR w Pr ρ cargs v (a.eval x) := by
  cases x with
  | tmp t =>
    unfold evO at h
    dsimp only at h
    split at h
    · rename_i u hu
      cases h
      exact hs.slots t _ hu
    · cases h
  | const c => exact constO_ok h w Pr ρ cargs
  | global g => cases h
  | func f => cases h; exact ⟨[], rfl, trivial⟩
theorem joinK_ok (hT : TOK P T) (hp : ∀ k, Pr k → k < w0.heap.size) {ops : Array Oper} {Q : Exit → Act → World → Prop} {out : Out} {k : St → R} {j : Jn} {rest : List Oper} {s : St} {a : Act} {w : World} {ρ : List Value}
    (hj : joinAt ops.toList = some (j, rest)) (h : joinK T nt ops j rest s k = some out) (hs : SR Pr w0 cargs nt s a w ρ) (nf : Nat)
    (hQ : ∀ s' a' w' ρ', k s' = some out → SRx Pr w0 cargs nt s' a' w' ρ' → Ext nf ρ ρ' → Q .normal a' w') : wpList P ops Q ops.toList a w := by
  unfold joinAt at hj
  split at hj
  · rename_i o0 o1 o2 o3 o4 rest' hops
    split at hj
    · rename_i x0 d0 f a1 d1 x2 d2 t b d3 t' x y d4 m0 m1 m2 m3 m4
      cases hc : ((Nat.beq a1 d0 && Nat.beq b d2) && ((Nat.beq x d1 && Nat.beq y d3) && (Nat.beq t t' && (!Nat.beq d1 d2 && !Nat.beq d1 d3)))) with
      | false => rw [hc] at hj; cases hj
      | true =>
        rw [hc] at hj
        cases hj
        simp only [Bool.and_eq_true, Bool.not_eq_true'] at hc
        obtain ⟨⟨c1, c2⟩, ⟨c3, c4⟩, c5, c6, c7⟩ := hc
        have e1 := Nat.eq_of_beq_eq_true c1
        have e2 := Nat.eq_of_beq_eq_true c2
        have e3 := Nat.eq_of_beq_eq_true c3
        have e4 := Nat.eq_of_beq_eq_true c4
        have e5 := Nat.eq_of_beq_eq_true c5
        subst e1 e2 e3 e4 e5
        have n12 : x ≠ b := fun e => by subst e; rw [Nat.beq_refl] at c6; cases c6
        have n13 : x ≠ y := fun e => by subst e; rw [Nat.beq_refl] at c7; cases c7
        obtain ⟨p0, q0, g0⟩ := mvOp_spec m0
        obtain ⟨⟨cl, p1, p1a, p1b⟩, q1, g1⟩ := clOp_spec m1
        obtain ⟨p2, q2, g2⟩ := mvOp_spec m2
        obtain ⟨⟨parts, p3, p3a⟩, q3, g3⟩ := b1Op_spec m3
        obtain ⟨⟨cc, p4, p4a, p4b, p4c⟩, q4, g4⟩ := apOp_spec m4
        unfold joinK at h
        dsimp only at h
        split at h
        · rename_i e oo kd xss oo2 vec hsl hx0 hx2
          split at h
          · rename_i e2 ys hsl2 hys
            have hvec := cast_ok hys
            subst hvec
            obtain ⟨rs, hcok, hk⟩ := hT.S _ _ _ _ h
            split at hk
            · rename_i e' i
              cases hcc : ((Nat.beq e' e && Nat.beq i 0) && (decide (xss.length < 1099511627776) && ((Nat.blt a1 nt && Nat.blt x nt) && (Nat.blt b nt && (Nat.blt y nt && Nat.blt d4 nt))))) with
              | false => rw [hcc] at hk; cases hk
              | true =>
                rw [hcc] at hk
                simp only [cond_true] at hk
                simp only [Bool.and_eq_true, decide_eq_true_eq] at hcc
                obtain ⟨⟨f1, f2⟩, f3, ⟨f4, f5⟩, f6, f7, f8⟩ := hcc
                have f1' := Nat.eq_of_beq_eq_true f1
                have f2' := Nat.eq_of_beq_eq_true f2
                subst f1' f2'
                have l0 : a1 < nt := Nat.le_of_ble_eq_true f4
                have l1 : x < nt := Nat.le_of_ble_eq_true f5
                have l2 : b < nt := Nat.le_of_ble_eq_true f6
                have l3 : y < nt := Nat.le_of_ble_eq_true f7
                have l4 : d4 < nt := Nat.le_of_ble_eq_true f8
                have hpw := hs.lt hp
                rw [hops]
                unfold wpList
                rw [wanted_none g0]
                simp only [if_true]
                refine .inl ((yields_move (Φ := fun v w' => v = a.eval x0 ∧ w = w') p0 ⟨rfl, rfl⟩).wp ?_)
                rintro v0 _ ⟨hv0, rfl⟩
                rw [q0]
                have hv0r : VvR w Pr v0 kd xss := by rw [hv0]; exact (eval_at hs hx0).1
                have sA : SR Pr w0 cargs nt ⟨less [a1] s.sl, s.H⟩ (a.put (some a1) v0) w ρ := hs.forget l0 _ fun t u hu => by
                  obtain ⟨h1, h2⟩ := less_lk hu
                  exact ⟨fun e => h1 (by rw [e]; exact List.mem_cons_self), h2⟩
                have ev0 : (a.put (some a1) v0).eval (.tmp a1) = v0 := by rw [eval_tmp_put (by rw [hs.size]; exact l0), if_pos rfl]
                generalize a.put (some a1) v0 = aA at *
                unfold wpList
                rw [wanted_none g1]
                simp only [if_true]
                obtain ⟨callee, args, ts⟩ := cl
                dsimp only at p1a p1b
                subst p1a
                have hargs1 : args.toList.map aA.eval = [v0] := by rw [p1b]; simp [ev0]
                refine .inl ((yields_callOK (cs := []) p1 rfl hcok (by rw [hargs1]; exact ⟨⟨hv0r.mono hpw, fun i hi => by cases hi⟩, trivial⟩)).wp ?_)
                rintro v1 w1 ⟨us, rfl, hsame, hrv⟩
                rw [q1]
                match us, hrv.all with
                | [u1], hall =>
                obtain ⟨us1, hown1, hnew1, hels⟩ := hall.1
                rw [hargs1] at hels
                have sB : SR Pr w0 cargs nt ⟨less [a1, x] s.sl, s.H⟩ (aA.put (some x) u1) w ρ := sA.forget l1 _ fun t u hu => by
                  obtain ⟨h1, h2⟩ := less_lk hu
                  refine ⟨fun e => h1 (by rw [e]; simp), ?_⟩
                  have : ∀ l : List (Nat × AV), lk (less [a1, x] l) t = some u → lk (less [a1] l) t = some u := by
                    intro l
                    induction l with
                    | nil => intro h; exact h
                    | cons p l ih =>
                      intro h
                      unfold less at h ⊢
                      rw [List.filter_cons] at h ⊢
                      have ht : t ≠ a1 ∧ t ≠ x := ⟨fun e => h1 (by rw [e]; simp), fun e => h1 (by rw [e]; simp)⟩
                      by_cases hpt : p.1 = t
                      · have m1 : memN p.1 [a1, x] = false := by
                          cases hm : memN p.1 [a1, x] with
                          | false => rfl
                          | true => rw [hpt] at hm; exact absurd (memN_iff.1 hm) h1
                        have m2 : memN p.1 [a1] = false := by
                          cases hm : memN p.1 [a1] with
                          | false => rfl
                          | true => rw [hpt] at hm; exact absurd (List.mem_singleton.1 (memN_iff.1 hm)) ht.1
                        rw [m1] at h
                        rw [m2]
                        simp only [Bool.not_false, if_true] at h ⊢
                        rw [lk_cons, if_pos hpt] at h ⊢
                        exact h
                      · have h' : lk (less [a1, x] l) t = some u := by
                          split at h
                          · rw [lk_cons, if_neg hpt] at h; exact h
                          · exact h
                        split
                        · rw [lk_cons, if_neg hpt]; exact ih h'
                        · exact ih h'
                  exact this _ hu
                have ev1 : (aA.put (some x) (packV [u1])).eval (.tmp x) = u1 := by rw [eval_tmp_put (by rw [sA.size]; exact l1), if_pos rfl]; rfl
                have sB' : SR Pr w0 cargs nt ⟨less [a1, x] s.sl, s.H⟩ (aA.put (some x) (packV [u1])) w ρ := sB
                clear sB sA
                generalize aA.put (some x) (packV [u1]) = aB at *
                unfold wpList
                rw [wanted_none g2]
                simp only [if_true]
                refine .inl ((yields_move (Φ := fun v w' => v = aB.eval x2 ∧ w1 = w') p2 ⟨rfl, rfl⟩).wp ?_)
                rintro v2 _ ⟨hv2, rfl⟩
                rw [q2]
                have hv2r : VwR w Pr v2 ⟨kd, ys⟩ := by rw [hv2]; exact (eval_at sB' hx2).1
                have sC : SR Pr w0 cargs nt ⟨less [a1, x, b, y] s.sl, s.H⟩ (aB.put (some b) v2) w ρ := ⟨by simp [Act.put, sB'.size], sB'.defers, fun t u hu => by
                  obtain ⟨h1, h2⟩ := less_lk hu
                  simp only [Act.put]
                  rw [getD_set _ _ _ _ (by rw [sB'.size]; exact l2), if_neg (fun e => h1 (by rw [← e]; simp))]
                  refine sB'.slots t u ?_
                  have : ∀ l : List (Nat × AV), lk (less [a1, x, b, y] l) t = some u → lk (less [a1, x] l) t = some u := by
                    intro l
                    induction l with
                    | nil => intro h; exact h
                    | cons p l ih =>
                      intro h
                      unfold less at h ⊢
                      rw [List.filter_cons] at h ⊢
                      by_cases hpt : p.1 = t
                      · have m1 : memN p.1 [a1, x, b, y] = false := by
                          cases hm : memN p.1 [a1, x, b, y] with
                          | false => rfl
                          | true => rw [hpt] at hm; exact absurd (memN_iff.1 hm) h1
                        have m2 : memN p.1 [a1, x] = false := by
                          cases hm : memN p.1 [a1, x] with
                          | false => rfl
                          | true =>
                            rw [hpt] at hm
                            have := memN_iff.1 hm
                            exact absurd (show t ∈ [a1, x, b, y] by simp at this ⊢; rcases this with h | h <;> simp [h]) h1
                        rw [m1] at h
                        rw [m2]
                        simp only [Bool.not_false, if_true] at h ⊢
                        rw [lk_cons, if_pos hpt] at h ⊢
                        exact h
                      · have h' : lk (less [a1, x, b, y] l) t = some u := by
                          split at h
                          · rw [lk_cons, if_neg hpt] at h; exact h
                          · exact h
                        split
                        · rw [lk_cons, if_neg hpt]; exact ih h'
                        · exact ih h'
                  exact this _ hu, sB'.heap, sB'.keep⟩
                have ev1b : (aB.put (some b) v2).eval (.tmp x) = u1 := by rw [eval_tmp_put (by rw [sB'.size]; exact l2), if_neg (fun e => n12 e.symm)]; exact ev1
                have ev2 : (aB.put (some b) v2).eval (.tmp b) = v2 := by rw [eval_tmp_put (by rw [sB'.size]; exact l2), if_pos rfl]
                clear sB'
                generalize aB.put (some b) v2 = aC at *
                have hone : v2.oneCell' = true ∧ v2.cells = #[v2] := by
                  rcases hv2r with ⟨h1, _⟩ | ⟨_, _, h1, _⟩ <;> rw [h1] <;> exact ⟨rfl, rfl⟩
                unfold wpList
                rw [wanted_none g3]
                simp only [if_true]
                have hpa : parts = #[(0, .tmp b)] := by rw [← Array.toArray_toList (xs := parts), p3a]
                have hpm : parts.map (fun p => (p.1, aC.eval p.2)) = #[(0, v2)] := by rw [hpa]; simp [ev2]
                refine .inl ((yields_value (x := Instr.buildSlice t 1 (parts.map fun p => (p.1, aC.eval p.2))) (by rw [exec_eq p3]; rfl) (by rw [hpm]; exact build1_run hT hsl hsl2 v2 hone.2) (Φ := fun v w' => v = .slice (some ⟨w1.heap.size, 0, none⟩) 1 1 ∧ w1.alloc (.cells #[v2] e') = w') ⟨rfl, rfl⟩).wp ?_)
                rintro v3 _ ⟨rfl, rfl⟩
                rw [q3]
                have sD : SR Pr w0 cargs nt ⟨less [a1, x, b, y] s.sl, s.H⟩ (aC.put (some y) (.slice (some ⟨w1.heap.size, 0, none⟩) 1 1)) w ρ := sC.forget l3 _ fun t u hu => ⟨fun e => (less_lk hu).1 (by rw [e]; simp), hu⟩
                have ev1d : (aC.put (some y) (.slice (some ⟨w1.heap.size, 0, none⟩) 1 1)).eval (.tmp x) = u1 := by rw [eval_tmp_put (by rw [sC.size]; exact l3), if_neg (fun e => n13 e.symm)]; exact ev1b
                have ev3 : (aC.put (some y) (.slice (some ⟨w1.heap.size, 0, none⟩) 1 1)).eval (.tmp y) = .slice (some ⟨w1.heap.size, 0, none⟩) 1 1 := by rw [eval_tmp_put (by rw [sC.size]; exact l3), if_pos rfl]
                clear sC
                generalize aC.put (some y) (.slice (some ⟨w1.heap.size, 0, none⟩) 1 1) = aD at *
                have hlen : us1.length = xss.length := by
                  rcases hv0r with ⟨h1, h2⟩ | ⟨ad, cap, h1, _⟩
                  · rcases hels with ⟨_, h4⟩ | ⟨ad, n, cap, h4, _⟩
                    · rw [h4, h2]
                      rfl
                    · simp at h4
                      rw [h1] at h4
                      cases h4
                  · rcases hels with ⟨h3, _⟩ | ⟨ad', n, cap', h3, h4, _⟩
                    · simp at h3
                      rw [h1] at h3
                      cases h3
                    · simp at h3
                      rw [h1] at h3
                      cases h3
                      exact h4
                obtain ⟨ti, hi, hsz, hz, hby⟩ := hT.s1 e' e2 hsl2
                have hold3 : ∀ g, g < w1.heap.size → (w1.alloc (.cells #[v2] e')).heap[g]? = w1.heap[g]? := fun g hg => heap_old w1 _ g hg
                have hown3 : (w1.alloc (.cells #[v2] e')).ownsRow 0 e' 1 u1 us1.length us1 := ownsRow_keep0 (fun g hg => hold3 g (hown1.lt g hg).2) hown1
                have hnewc : ∀ (j : Nat) (u : Value), ([v2] : List Value)[j]? = some u → (w1.alloc (.cells #[v2] e')).cell? ((⟨w1.heap.size, 0, none⟩ : Addr).add j) = some u := by
                  intro j u hu
                  have hrow : (w1.alloc (.cells #[v2] e')).ownsRow 0 e' 1 (.slice (some ⟨w1.heap.size, 0, none⟩) 1 1) 1 [v2] :=
                    ⟨by simp, .inr ⟨w1.heap.size, 1, #[v2], rfl, Nat.zero_le _, heap_alloc_new w1 _, Nat.le_refl _, by unfold maxLen; omega, by simp, by simp⟩⟩
                  exact hrow.cells (g := w1.heap.size) rfl j u hu
                have hbts : (us1.length + 1) * ti.bytes ≤ 140737488355328 := by
                  calc (us1.length + 1) * ti.bytes ≤ 1099511627776 * 64 := Nat.mul_le_mul (by omega) hby
                    _ ≤ 140737488355328 := by decide
                obtain ⟨v4, w4, r1, r2, r3, r4⟩ := append_own (P := P) (w1.alloc (.cells #[v2] e')) t o4.type e' ti (.slice none 0 0) 1 (hT.sl t e' hsl) hi hz hsz rfl (by omega) u1 us1.length us1 hown3 ⟨w1.heap.size, 0, none⟩ 1 1 [v2] rfl hnewc (fun u hu => by rw [List.mem_singleton.1 hu]; exact hone.1) (by unfold maxLen; omega) hbts
                unfold wpList
                rw [wanted_none g4]
                simp only [if_true]
                obtain ⟨callee4, args4, ts4⟩ := cc
                dsimp only at p4a p4b p4c
                subst p4a
                have hargs4 : args4.map aD.eval = #[u1, .slice (some ⟨w1.heap.size, 0, none⟩) 1 1] := by
                  rw [← Array.toArray_toList (xs := args4), p4b]
                  simp [ev1d, ev3]
                have hts4 : ts4 = #[t, t] := by rw [← Array.toArray_toList (xs := ts4), p4c]
                refine .inl ((yields_builtin p4 (v := v4) (w' := w4) (Φ := fun v w' => v4 = v ∧ w4 = w') (fun consts => by rw [hargs4, hts4]; simp [builtin, r1]) ⟨rfl, rfl⟩).wp ?_)
                rintro _ _ ⟨rfl, rfl⟩
                rw [q4]
                have hsz4 : w.heap.size ≤ w1.heap.size ∧ w1.heap.size < (w1.alloc (.cells #[v2] e')).heap.size ∧ (w1.alloc (.cells #[v2] e')).heap.size ≤ w4.heap.size := ⟨hsame.size, (Array.getElem?_eq_some_iff.1 (heap_alloc_new w1 _)).1, r3.size⟩
                have hold : ∀ g, g < w.heap.size → w4.heap[g]? = w.heap[g]? := fun g hg => by
                  rw [r3.block g (by omega) (fun e => by have := hnew1 g e.symm; omega), hold3 g (by omega), hsame.block g hg]
                have hown4 : w4.ownsRow 0 e' 1 v4 (us1.length + 1) (us1 ++ [v2]) := r2
                have hPr' : ∀ k, (Pr k ∨ (w.heap.size ≤ k ∧ k < w4.heap.size)) → k < w4.heap.size := fun k hk => hk.elim (fun h => by have := hpw k h; omega) fun h => h.2
                have hkeep : Keep Pr w w4 := ⟨by rw [r3.os]; exact hsame.os, by rw [r3.tape]; exact hsame.tape, by rw [r3.output]; exact hsame.output, by omega, fun k hk => hold k (hpw k hk)⟩
                have hH4 : HR w4 (fun k => Pr k ∨ (w.heap.size ≤ k ∧ k < w4.heap.size)) ρ s.H := by
                  have hH1 : HR w (fun k => Pr k ∨ (w.heap.size ≤ k ∧ k < w4.heap.size)) ρ s.H := by
                    have hh := hs.heap
                    refine ⟨hh.len, fun r row hr => ?_, hh.apart, hh.ll.more fun k hk hk' => hk'.elim id fun h => by omega⟩
                    obtain ⟨v, hv, vs, b1, b2, b3⟩ := hh.row r row hr
                    exact ⟨v, hv, vs, b1, b2, fun g hg hp' => hp'.elim (b3 g hg) fun h => by have := (b1.lt g hg).2; omega⟩
                  exact hH1.keep hold
                have hvv : VvR w4 (fun k => Pr k ∨ (w.heap.size ≤ k ∧ k < w4.heap.size)) v4 kd (xss ++ [ys]) := by
                  have hl4 := hown4.lt
                  rcases hown4.2 with ⟨_, h0⟩ | ⟨g, cap, cur, rfl, _, _, hcap, _⟩
                  · omega
                  · refine .inr ⟨⟨g, 0, none⟩, cap, by rw [List.length_append, ← hlen]; rfl, by rw [List.length_append, ← hlen]; exact hcap, .inr ?_, ?_⟩
                    · have hg4 := (hl4 g rfl).2
                      rcases r4 g rfl with h5 | h5
                      · exact .inr ⟨hnew1 g h5, hg4⟩
                      · exact .inr ⟨by have := hsz4; dsimp only; omega, hg4⟩
                    · intro i xs hi
                      rw [List.getElem?_append] at hi
                      split at hi
                      · rename_i hlt
                        obtain ⟨ui, hui⟩ : ∃ u, us1[i]? = some u := ⟨us1[i], List.getElem?_eq_getElem (by omega)⟩
                        refine ⟨ui, hown4.cells (g := g) rfl i ui (by rw [List.getElem?_append_left (by omega)]; exact hui), ?_⟩
                        rcases hv0r with ⟨_, h2⟩ | ⟨ad, cap0, h1, _, _, hin⟩
                        · rw [h2] at hi; simp at hi
                        · rcases hels with ⟨h3, _⟩ | ⟨ad', n, cap', h3, h4, h5⟩
                          · simp at h3
                            rw [h1] at h3
                            cases h3
                          · simp at h3
                            rw [h1] at h3
                            cases h3
                            obtain ⟨u6, h6, h7⟩ := hin i xs hi
                            rw [h5 i ui hui] at h6
                            cases h6
                            exact (h7.keep fun k hk => hold k (hpw k hk)).mono fun k hk => .inl hk
                      · rename_i hge
                        have : i - xss.length = 0 := by
                          rcases Nat.eq_zero_or_pos (i - xss.length) with h | h
                          · exact h
                          · rw [List.getElem?_eq_none (by simp; omega)] at hi; cases hi
                        rw [this] at hi
                        simp at hi
                        subst hi
                        have hie : i = us1.length := by omega
                        refine ⟨v2, hown4.cells (g := g) rfl i v2 (by rw [hie]; simp), (hv2r.keep fun k hk => hold k (hpw k hk)).mono fun k hk => .inl hk⟩
                have hfin : SR (fun k => Pr k ∨ (w.heap.size ≤ k ∧ k < w4.heap.size)) w4 cargs nt ⟨(d4, .fv (.vv none kd (xss ++ [ys]))) :: less [a1, x, b, y] s.sl, s.H⟩ (aD.put (some d4) v4) w4 ρ := by
                  have base : SR (fun k => Pr k ∨ (w.heap.size ≤ k ∧ k < w4.heap.size)) w4 cargs nt ⟨less [a1, x, b, y] s.sl, s.H⟩ aD w4 ρ :=
                    ⟨sD.size, sD.defers, fun t u hu => ((sD.slots t u hu).keep (fun k hk => hold k (hpw k hk)) fun _ _ h => h).mono fun k hk => .inl hk, hH4, Keep.refl _ _⟩
                  exact base.put (dst := some d4) (av := .fv (.vv none kd (xss ++ [ys]))) (H' := s.H) (decide_eq_true l4) (fun _ _ h => h) ⟨hvv, fun i hi => by cases hi⟩ hH4 (Keep.refl _ _)
                refine opsK_ok hT nf hPr' rest _ _ w4 ρ hk hfin fun s' a' w' ρ' hk' hs' he => hQ s' a' w' ρ' hk' ⟨_, w4, fun k hk => .inl hk, hPr', hs.keep.trans hkeep, hs'⟩ he
            · cases hk
          · cases h
        · cases h
    · cases hj
  · cases hj
end
end Go.Sm
namespace Go.Sm
open Go Go.RowKit
def plF : FV → Bool
  | .el _ => true
  | .nil => true
  | .own _ => true
  | .pl _ _ => true
  | .pt p => (match p.b with
    | .r _ => true
    | _ => false)
  | _ => false
def vfF : FV → Bool
  | .mv _ _ _ => true
  | .pm _ _ _ _ => true
  | x => plF x
def vfA : AV → Bool
  | .un => true
  | .fv x => vfF x
  | .tup xs => xs.all plF
def VFF (ρ : List Value) (x : FV) (v : Value) : Prop := match x with
  | .mv r _ _ => ρ[r]? = some v
  | .pm r _ _ i => ∃ vr g, ρ[r]? = some vr ∧ vr.ownBlock = some g ∧ v = .pointer (some ⟨g, i, none⟩)
  | x => ∀ (w : World) (Pr : Nat → Prop) (cargs : List Value), FVR w Pr ρ cargs x v
def VFA (ρ : List Value) : AV → Value → Prop
  | .un, v => v = undef
  | .fv x, v => VFF ρ x v
  | .tup xs, v => ∃ vs, v = .tuple vs.toArray ∧ AllR (VFF ρ) xs vs
def matF (w : World) (Pr : Nat → Prop) (ρ : List Value) : FV → Prop
  | .mv r e π => MR w Pr ρ r e π
  | .pm r e π _ => MR w Pr ρ r e π
  | _ => True
def matA (w : World) (Pr : Nat → Prop) (ρ : List Value) : AV → Prop
  | .fv x => matF w Pr ρ x
  | _ => True
section
variable {P : Program} {T : TT} {Pr : Nat → Prop} {w0 w w' : World} {ρ ρ' cargs : List Value} {nt : Nat}
theorem plF_vf {x : FV} (h : plF x = true) : vfF x = true := by cases x <;> first | rfl | exact h
theorem plF_mat {x : FV} (h : plF x = true) : matF w Pr ρ x := by cases x <;> first | trivial | cases h
theorem VFF.of {x : FV} {v : Value} (hx : vfF x = true) (h : FVR w Pr ρ cargs x v) : VFF ρ x v := by
  cases x with
  | el e => exact fun _ _ _ => h
  | nil => exact fun _ _ _ => h
  | own r => exact fun _ _ _ => h
  | pl r i => exact fun _ _ _ => h
  | mv r e π => exact h.1
  | pm r e π i => exact h.1
  | pt p =>
    obtain ⟨b, sz, i, j⟩ := p
    cases b with
    | r r => exact fun _ _ _ => h
    | v _ => cases hx
    | w _ => cases hx
    | s _ _ => cases hx
  | vw _ _ => cases hx
  | fn _ _ => cases hx
  | vv _ _ _ => cases hx
  | pv _ _ _ => cases hx
  | ne _ => cases hx
theorem VFF.to {x : FV} {v : Value} (hx : vfF x = true) (h : VFF ρ x v) (hm : matF w Pr ρ x) : FVR w Pr ρ cargs x v := by
  cases x with
  | mv r e π => exact ⟨h, hm⟩
  | pm r e π i => exact ⟨h, hm⟩
  | el e => exact h w Pr cargs
  | nil => exact h w Pr cargs
  | own r => exact h w Pr cargs
  | pl r i => exact h w Pr cargs
  | pt p => exact h w Pr cargs
  | vw _ _ => cases hx
  | fn _ _ => cases hx
  | vv _ _ _ => cases hx
  | pv _ _ _ => cases hx
  | ne _ => cases hx
theorem VFF.ext {x : FV} {v : Value} (hr : ∀ (r : Nat) (u : Value), ρ[r]? = some u → ρ'[r]? = some u) (h : VFF ρ x v) : VFF ρ' x v := by
  cases x with
  | mv r e π => exact hr _ _ h
  | pm r e π i => obtain ⟨vr, g, h1, h2⟩ := h; exact ⟨vr, g, hr _ _ h1, h2⟩
  | _ => exact fun w Pr cargs => (h w Pr cargs).keep (fun _ _ => rfl) hr
theorem VFA.of {x : AV} {v : Value} (hx : vfA x = true) (h : AVR w Pr ρ cargs x v) : VFA ρ x v := by
  cases x with
  | un => exact h
  | fv x => exact VFF.of hx h
  | tup xs =>
    obtain ⟨vs, h1, h2⟩ := h
    refine ⟨vs, h1, ?_⟩
    clear h1
    have hx' : xs.all plF = true := hx
    clear hx
    induction xs generalizing vs with
    | nil => cases vs with
      | nil => trivial
      | cons _ _ => exact h2.elim
    | cons x xs ih => cases vs with
      | nil => exact h2.elim
      | cons u us =>
        rw [List.all_cons, Bool.and_eq_true] at hx'
        exact ⟨VFF.of (plF_vf hx'.1) h2.1, ih us h2.2 hx'.2⟩
theorem VFFs.to {xs : List FV} : ∀ {vs : List Value}, xs.all plF = true → AllR (VFF ρ) xs vs → AllR (FVR w Pr ρ cargs) xs vs := by
  induction xs with
  | nil => intro vs _ h; cases vs with
    | nil => trivial
    | cons _ _ => exact h.elim
  | cons x xs ih => intro vs hx h; cases vs with
    | nil => exact h.elim
    | cons u us =>
      rw [List.all_cons, Bool.and_eq_true] at hx
      exact ⟨VFF.to (plF_vf hx.1) h.1 (plF_mat hx.1), ih hx.2 h.2⟩
theorem VFA.to {x : AV} {v : Value} (hx : vfA x = true) (h : VFA ρ x v) (hm : matA w Pr ρ x) : AVR w Pr ρ cargs x v := by
  cases x with
  | un => exact h
  | fv x => exact VFF.to hx h hm
  | tup xs =>
    obtain ⟨vs, h1, h2⟩ := h
    exact ⟨vs, h1, VFFs.to hx h2⟩
def clean (f : AV → Option AV) : List Nat → List (Nat × AV) → List (Nat × AV)
  | _, [] => []
  | seen, (t, v) :: l => bif memN t seen then clean f seen l else match f v with
    | some v' => (t, v') :: clean f (t :: seen) l
    | none => clean f (t :: seen) l
theorem clean_lk {f : AV → Option AV} : ∀ {l : List (Nat × AV)} {seen : List Nat} {t : Nat} {v' : AV}, lk (clean f seen l) t = some v' → t ∉ seen ∧ ∃ v, lk l t = some v ∧ f v = some v'
  | [], _, t, v', h => by cases h
  | (t0, v0) :: l, seen, t, v', h => by
    unfold clean at h
    cases hm : memN t0 seen with
    | true =>
      rw [hm] at h
      obtain ⟨h1, v, h2, h3⟩ := clean_lk (l := l) h
      refine ⟨h1, v, ?_, h3⟩
      rw [lk_cons, if_neg (fun e => h1 (by rw [← e]; exact memN_iff.1 hm))]
      exact h2
    | false =>
      rw [hm] at h
      simp only [cond_false] at h
      have hn : t0 ∉ seen := fun hh => by rw [memN_iff.2 hh] at hm; cases hm
      split at h
      · rename_i v1 hv1
        rw [lk_cons] at h
        split at h
        · rename_i e
          subst e
          cases h
          exact ⟨hn, v0, by rw [lk_cons, if_pos rfl], hv1⟩
        · rename_i hne
          obtain ⟨h1, v, h2, h3⟩ := clean_lk (l := l) h
          exact ⟨fun hh => h1 (List.mem_cons_of_mem _ hh), v, by rw [lk_cons, if_neg hne]; exact h2, h3⟩
      · obtain ⟨h1, v, h2, h3⟩ := clean_lk (l := l) h
        refine ⟨fun hh => h1 (List.mem_cons_of_mem _ hh), v, ?_, h3⟩
        rw [lk_cons, if_neg (fun e => h1 (by rw [e]; exact List.mem_cons_self))]
        exact h2
def keepM (r e : Nat) (π : List (Option Nat)) : AV → Option AV
  | .fv (.mv r' _ _) => bif Nat.beq r r' then some (.fv (.mv r e π)) else none
  | .fv (.pm r' _ _ i) => bif Nat.beq r r' then some (.fv (.pm r e π i)) else none
  | v => bif vfA v then some v else none
theorem keepM_spec {r e : Nat} {π : List (Option Nat)} {v v' : AV} (h : keepM r e π v = some v') : vfA v = true ∧ vfA v' = true ∧ (∀ ρ u, VFA ρ v u → VFA ρ v' u) ∧ ∀ w Pr ρ, MR w Pr ρ r e π → matA w Pr ρ v' := by
  have other : ∀ v, (bif vfA v then some v else none) = some v' → (∀ r e π, v ≠ .fv (.mv r e π)) → (∀ r e π i, v ≠ .fv (.pm r e π i)) → vfA v = true ∧ vfA v' = true ∧ (∀ ρ u, VFA ρ v u → VFA ρ v' u) ∧ ∀ w Pr ρ, MR w Pr ρ r e π → matA w Pr ρ v' := by
    intro v h h1 h2
    cases hv : vfA v with
    | false => rw [hv] at h; cases h
    | true =>
      rw [hv] at h
      cases h
      refine ⟨rfl, hv, fun _ _ h => h, fun w Pr ρ _ => ?_⟩
      cases v' with
      | un => trivial
      | tup xs => trivial
      | fv x => cases x with
        | mv r e π => exact absurd rfl (h1 r e π)
        | pm r e π i => exact absurd rfl (h2 r e π i)
        | _ => trivial
  unfold keepM at h
  split at h
  · rename_i r' e' π'
    cases hb : Nat.beq r r' with
    | false => rw [hb] at h; cases h
    | true =>
      rw [hb] at h
      cases h
      have := Nat.eq_of_beq_eq_true hb
      subst this
      exact ⟨rfl, rfl, fun _ _ h => h, fun _ _ _ h => h⟩
  · rename_i r' e' π' i
    cases hb : Nat.beq r r' with
    | false => rw [hb] at h; cases h
    | true =>
      rw [hb] at h
      cases h
      have := Nat.eq_of_beq_eq_true hb
      subst this
      exact ⟨rfl, rfl, fun _ _ h => h, fun _ _ _ h => h⟩
  · rename_i h1 h2
    exact other _ h (fun r e π => h1 r e π) (fun r e π i => h2 r e π i)
theorem HR.keepPr {H : Hp} (h : HR w Pr ρ H) (hs : ∀ k, ¬ Pr k → w'.heap[k]? = w.heap[k]?) (hsz : w'.heap.size = w.heap.size) : HR w' Pr ρ H := by
  refine ⟨h.len, fun r row hr => ?_, h.apart, ?_⟩
  · obtain ⟨v, hv, us, h1, h2, h3⟩ := h.row r row hr
    exact ⟨v, hv, us, ownsRow_keep (fun g hg => hs g (h3 g hg)) h1, h2, h3⟩
  · obtain ⟨I, hI⟩ := h.ll
    refine ⟨I, fun r row z h1 h2 => ?_⟩
    obtain ⟨v, us, a1, a2, a3, ad, aa, a4, a5⟩ := hI r row z h1 h2
    have hk : ∀ g, (I r g ∨ v.ownBlock = some g) → w'.heap[g]? = w.heap[g]? := fun g hg => hs g (a5 g hg).2.1
    exact ⟨v, us, a1, ownsRow_keep (fun g hg => hk g (.inr hg)) a2, a3.mono fun xs u h => h.keep fun g hg => hk g (.inl hg), ad, aa, a4, fun g hg => ⟨by have := (a5 g hg).1; omega, (a5 g hg).2⟩⟩
theorem HR.pushNone {w1 : World} {Pr' : Nat → Prop} {H : Hp} {v : Value} (hH : HR w1 Pr ρ H) (hs : ∀ k, k < w1.heap.size → w.heap[k]? = w1.heap[k]?) (hpr : ∀ k, k < w1.heap.size → Pr' k → Pr k) : HR w Pr' (ρ ++ [v]) (H ++ [none]) := by
  have key : ∀ {r : Nat} {row : Row}, (H ++ [none])[r]? = some (some row) → r < H.length ∧ H[r]? = some (some row) := by
    intro r row h
    rcases Nat.lt_trichotomy r H.length with h1 | h1 | h1
    · rw [List.getElem?_append_left h1] at h
      exact ⟨h1, h⟩
    · subst h1
      simp at h
    · rw [List.getElem?_eq_none (by simp; omega)] at h
      cases h
  have keyr : ∀ {r : Nat} {row : Row}, rowAt (H ++ [none]) r = some row → r < H.length ∧ rowAt H r = some row := by
    intro r row h
    obtain ⟨h1, h2⟩ := rowAt_no h
    obtain ⟨h3, h4⟩ := key h2
    exact ⟨h3, rowAt_of h4 h1⟩
  have oldv : ∀ {r : Nat} {u : Value}, r < H.length → (ρ ++ [v])[r]? = some u → ρ[r]? = some u := by
    intro r u h1 h2
    rw [List.getElem?_append_left (by rw [hH.len]; exact h1)] at h2
    exact h2
  refine ⟨by simp [hH.len], fun r row h => ?_, fun r r' row row' v1 v2 g hne h1 h2 h3 h4 h5 => ?_, (hH.ll.more hpr).step (size_same hs) (fun g hg _ => hs g hg) (fun r row h => ?_) (fun r p h => ?_) fun r row v1 g h1 h2 h3 => ?_⟩
  · obtain ⟨hr, h1⟩ := keyr h
    obtain ⟨u, hu, us, e1, e2, e3⟩ := hH.row r row h1
    exact ⟨u, getElem?_push_old hu, us, ownsRow_keep (fun g hg => hs g (e1.lt g hg).2) e1, e2, fun g hg hp => e3 g hg (hpr g (e1.lt g hg).2 hp)⟩
  · obtain ⟨a1, a2⟩ := keyr h1
    obtain ⟨b1, b2⟩ := keyr h2
    exact hH.apart r r' row row' v1 v2 g hne a2 b2 (oldv a1 h3) (oldv b1 h4) h5
  · obtain ⟨h1, h2⟩ := llAt_is2 h
    obtain ⟨h3, h4⟩ := key h2
    exact ⟨llAt_of h4 h1, List.getElem?_append_left (by rw [hH.len]; exact h3)⟩
  · obtain ⟨e, h2⟩ := alAt_at h
    obtain ⟨h3, h4⟩ := key h2
    exact ⟨alAt_of h4, List.getElem?_append_left (by rw [hH.len]; exact h3)⟩
  · obtain ⟨a1, a2⟩ := keyr h1
    exact .inr ⟨r, row, v1, a2, oldv a1 h2, h3⟩
theorem own_one {H : Hp} {r : Nat} {row : Row} {v : Value} (hH : HR w Pr ρ H) (hr : rowAt H r = some row) (hv : ρ[r]? = some v) : v.oneCell' = true ∧ v.cells = #[v] := by
  obtain ⟨u, hu, us, h1, _⟩ := hH.row r row hr
  rw [hv] at hu
  cases hu
  exact makerow_one h1
theorem mstore_run (hT : TOK P T) {o : Oper} {t e0 r e i j g : Nat} {x y : Operand} {π : List (Option Nat)} {H : Hp} {row : Row} {vr : Value} (hop : o.op = .store t x y) (hsl : T.sl t = some e0) (a : Act) (hH : HR w Pr ρ H) (hx : FVR w Pr ρ cargs (.pm r e π i) (a.eval x)) (hy : ρ[j]? = some (a.eval y))
    (hj : rowAt H j = some row) (hi : i < π.length) (hr : ρ[r]? = some vr) (hg : vr.ownBlock = some g) :
    Yields P o a w fun v w' => v = undef ∧ HR w' Pr ρ H ∧ MR w' Pr ρ r e (π.set i (some j)) ∧ (∀ k, k ≠ g → w'.heap[k]? = w.heap[k]?) ∧ w'.os = w.os ∧ w'.tape = w.tape ∧ w'.output = w.output ∧ w'.heap.size = w.heap.size := by
  obtain ⟨⟨vr1, g1, b1, b2, b3⟩, vr2, g2, us, a1, a2, a3, a4, a5⟩ := hx
  rw [hr] at b1 a1
  cases b1
  cases a1
  rw [hg] at b2 a2
  cases b2
  cases a2
  have hone := own_one hH hj hy
  have hul : us.length = π.length := by rw [a4.1, Nat.mul_one]
  obtain ⟨ti, hti, htsz, _⟩ := hT.s1 t e0 hsl
  obtain ⟨w', hst, hown', hoth, hos, htape, hout, hsize⟩ := write_row (P := P) a4 hg i [a.eval y] (by simp; omega) (fun u hu => by rw [List.mem_singleton.1 hu]; exact hone.1)
  have hset : us.take i ++ [a.eval y] ++ us.drop (i + [a.eval y].length) = us.set i (a.eval y) := by
    rw [List.set_eq_take_append_cons_drop, if_pos (by omega)]
    simp
  rw [hset] at hown'
  unfold Yields
  rw [exec_eq hop]
  have hrun : (Instr.storeAt t (a.eval x) (a.eval y)).run P w = .ok () w' := by
    rw [b3]
    simp [Instr.storeAt, Instr.sureAddr, storeVar, hone.2, sizeOf, typeInfo, hti, htsz, hst]
  simp only [execOp, Sem.run_bind, hrun, Result.andThen_ok, Sem.run_pure]
  refine ⟨by trivial, hH.keepPr (fun k hk => hoth k fun h => hk (by rw [h]; exact a3)) hsize, ⟨vr, g, us.set i (a.eval y), hr, hg, a3, by rw [List.length_set]; exact hown', fun i' j' h => ?_⟩, hoth, hos, htape, hout, hsize⟩
  rw [List.getElem?_set] at h
  rw [List.getElem?_set]
  by_cases hii : i = i'
  · rw [if_pos hii] at h ⊢
    rw [if_pos (by omega)] at h ⊢
    cases h
    exact ⟨a.eval y, rfl, hy⟩
  · rw [if_neg hii] at h ⊢
    exact a5 i' j' h
def ownO (s : St) (x : Operand) : Option Nat := match evO s x with
  | some (.own j) => (match rowAt s.H j with
    | some _ => some j
    | none => none)
  | _ => none
theorem ownO_spec {s : St} {x : Operand} {j : Nat} (h : ownO s x = some j) : evO s x = some (.own j) ∧ ∃ row, rowAt s.H j = some row := by
  unfold ownO at h
  split at h
  · rename_i j' hj
    split at h
    · rename_i row hrow
      cases h
      exact ⟨hj, row, hrow⟩
    · cases h
  · cases h
theorem maxLen_three : 3 ≤ maxLen := by unfold maxLen; omega
theorem range3 {α : Type} (f : Nat → α) : (Array.range 3).map f = #[f 0, f 1, f 2] := by
  apply Array.ext'
  simp [List.range_succ]
theorem build3_run (hT : TOK P T) {t e e2 : Nat} (hsl : T.sl t = some e) (hsl2 : T.sl e = some e2) (ua ub uc : Value) (oa : ua.cells = #[ua]) (ob : ub.cells = #[ub]) (oc : uc.cells = #[uc]) :
    (Instr.buildSlice t 3 #[(0, ua), (1, ub), (2, uc)]).run P w = .ok (.slice (some ⟨w.heap.size, 0, none⟩) 3 3) (w.alloc (.cells #[ua, ub, uc] e)) := by
  obtain ⟨i, hi, hsz, hz, _⟩ := hT.s1 e e2 hsl2
  have hf1 : Instr.fill (fun i => some (i, 1)) ((Array.range 3).map ((Value.slice none 0 0).cells[· % (Value.slice none 0 0).cells.size]!)) [(0, ua), (1, ub), (2, uc)] = some #[ua, ub, uc] := by
    rw [range3]
    have h0 : ∀ z : Array Value, z.size = 3 → Instr.fill (fun i => some (i, 1)) z [(0, ua), (1, ub), (2, uc)] = some #[ua, ub, uc] := by
      intro z hz
      obtain ⟨l⟩ := z
      match l, hz with
      | [z0, z1, z2], _ =>
        simp [Instr.fill, oa, ob, oc]
    exact h0 _ rfl
  simp [Instr.buildSlice, run_underlying (hT.sl t e hsl), sizeOf, typeInfo, zeroValue, hi, hz, hsz, newRow, hf1]
theorem outer_run (hT : TOK P T) {o : Oper} {t e e2 : Nat} {parts : Array (Nat × Operand)} {xa xb xc : Operand} {ja jb jc : Nat} {H : Hp} (hop : o.op = .buildSlice t 3 parts) (hparts : parts.toList = [(0, xa), (1, xb), (2, xc)]) (hsl : T.sl t = some e) (hsl2 : T.sl e = some e2) (a : Act)
    (hH : HR w Pr ρ H) (ha : ρ[ja]? = some (a.eval xa)) (hb : ρ[jb]? = some (a.eval xb)) (hc : ρ[jc]? = some (a.eval xc)) (oa : (a.eval xa).cells = #[a.eval xa]) (ob : (a.eval xb).cells = #[a.eval xb]) (oc : (a.eval xc).cells = #[a.eval xc]) :
    Yields P o a w fun v w' => Same w w' ∧ v.ownBlock = some w.heap.size ∧ HR w' (fun k => Pr k ∨ k = w.heap.size) (ρ ++ [v]) (H ++ [none]) ∧ MR w' (fun k => Pr k ∨ k = w.heap.size) (ρ ++ [v]) H.length e [some ja, some jb, some jc] ∧ w.heap.size < w'.heap.size := by
  have hpa : parts = #[(0, xa), (1, xb), (2, xc)] := by rw [← hparts]
  have hrun := build3_run (w := w) (P := P) hT hsl hsl2 _ _ _ oa ob oc
  have hpm : parts.map (fun p => (p.1, a.eval p.2)) = #[(0, a.eval xa), (1, a.eval xb), (2, a.eval xc)] := by rw [hpa]; simp
  refine yields_value (x := Instr.buildSlice t 3 (parts.map fun p => (p.1, a.eval p.2))) (by rw [exec_eq hop]; rfl) (by rw [hpm]; exact hrun) ?_
  clear hpm hpa hparts hop
  generalize a.eval xa = ua at *
  generalize a.eval xb = ub at *
  generalize a.eval xc = uc at *
  have hsame : Same w (w.alloc (.cells #[ua, ub, uc] e)) := (Below.refl _ _).alloc (Nat.le_refl _) _
  have hrow : (w.alloc (.cells #[ua, ub, uc] e)).ownsRow 0 e 1 (.slice (some ⟨w.heap.size, 0, none⟩) 3 3) 3 [ua, ub, uc] :=
    ⟨by simp, .inr ⟨w.heap.size, 3, #[ua, ub, uc], rfl, Nat.zero_le _, heap_alloc_new w _, Nat.le_refl _, maxLen_three, by simp, by simp⟩⟩
  refine ⟨hsame, rfl, hH.pushNone hsame.block (fun k hk h => h.elim id fun e => absurd hk (by omega)), ⟨_, w.heap.size, [ua, ub, uc], by rw [← hH.len]; simp, rfl, .inr rfl, hrow, fun i' j' h => ?_⟩, (hrow.lt _ rfl).2⟩
  match i', h with
  | 0, h => cases h; exact ⟨_, rfl, getElem?_push_old ha⟩
  | 1, h => cases h; exact ⟨_, rfl, getElem?_push_old hb⟩
  | 2, h => cases h; exact ⟨_, rfl, getElem?_push_old hc⟩
end
end Go.Sm
namespace Go.Sm
open Go Go.RowKit
abbrev GF := List FV → Hp → (List FV → Hp → R) → R
def GOK (P : Program) (f : Nat) (F : GF) : Prop := ∀ xs H k out, F xs H k = some out →
  ∀ (w : World) (Pr : Nat → Prop) (ρ vs : List Value) (r e : Nat) (π : List (Option Nat)) (ys' : List FV) (v : Value) (g : Nat), xs = .mv r e π :: ys' → ys'.all plF = true → (∀ k, Pr k → k < w.heap.size) → HR w Pr ρ H → AllR (FVR w Pr ρ []) xs vs →
    ρ[r]? = some v → v.ownBlock = some g → Pr g →
    Calls P f vs.toArray w fun en w' => ∃ ys H' us ρ', k ys H' = some out ∧ en = .returned (packV us) ∧ AllR (VFF ρ') ys us ∧ HR w' (fun k => Pr k ∧ k ≠ g) ρ' H' ∧ Keep (fun k => Pr k ∧ k ≠ g) w w'
def GOKs (P : Program) (G : Nat → Option GF) : Prop := ∀ f F, G f = some F → Real P f ∧ GOK P f F
def elO : AV → Option AV
  | .un => some .un
  | .fv (.el e) => some (.fv (.el e))
  | .fv .nil => some (.fv .nil)
  | _ => none
def stepU (T : TT) (G : Nat → Option GF) (op : Op) (s : St) (M : Option Nat) (k : AV → St → Option Nat → R) : R :=
  match op with
  | .store t x y => (match evO s x, evO s y with
    | some (.pm r e π i), some (.own j) => (match M, T.sl t, rowAt s.H j with
      | some r', some _, some _ => bif Nat.beq r r' && decide (i < π.length) then k .un ⟨clean (keepM r e (π.set i (some j))) [] s.sl, s.H⟩ M else none
      | _, _, _ => none)
    | _, _ => opK T false (.store t x y) s fun av H => k av ⟨s.sl, H⟩ M)
  | .buildSlice t n parts => (match T.sl t, M with
    | some e, none => (match T.ek e with
      | none => (match T.sl e, parts.toList with
        | some _, [(0, xa), (1, xb), (2, xc)] => (match ownO s xa, ownO s xb, ownO s xc with
          | some ja, some jb, some jc => bif Nat.beq n 3 then k (.fv (.mv s.H.length e [some ja, some jb, some jc])) ⟨s.sl, s.H ++ [none]⟩ (some s.H.length) else none
          | _, _, _ => none)
        | _, _ => none)
      | some _ => opK T false (.buildSlice t n parts) s fun av H => k av ⟨s.sl, H⟩ M)
    | _, _ => opK T false (.buildSlice t n parts) s fun av H => k av ⟨s.sl, H⟩ M)
  | .call c => (match c.callee with
    | .value x => (match evO s x with
      | some (.fn f []) => (match G f with
        | some F => (match evAll s c.args.toList, M with
          | some (.mv r e π :: ys), some r' => bif Nat.beq r r' && ys.all plF then F (.mv r e π :: ys) s.H fun vs H' => bif vs.all plF then k (packed vs) ⟨clean elO [] s.sl, H'⟩ none else none else none
          | _, _ => none)
        | none => opK T false (.call c) s fun av H => k av ⟨s.sl, H⟩ M)
      | _ => opK T false (.call c) s fun av H => k av ⟨s.sl, H⟩ M)
    | _ => opK T false (.call c) s fun av H => k av ⟨s.sl, H⟩ M)
  | op => opK T false op s fun av H => k av ⟨s.sl, H⟩ M
def opsU (T : TT) (G : Nat → Option GF) (nt : Nat) (all : List Oper) : List Oper → St → Option Nat → (St → Option Nat → R) → R
  | [], s, M, k => k s M
  | o :: os, s, M, k => bif dstOk nt o.dst then guardK all o.guard s (fun s => stepU T G o.op s M fun av s2 M2 => opsU T G nt all os (putS s2 o.dst av s2.H) M2 k) (fun s => opsU T G nt all os (putS s o.dst .un s.H) M k)
    else none
def SRu (Pr : Nat → Prop) (w0 : World) (cargs : List Value) (nt : Nat) (M : Option Nat) (s : St) (a : Act) (w : World) (ρ : List Value) : Prop :=
  ∃ (Pr' : Nat → Prop) (w1 : World), (∀ k, Pr k → Pr' k) ∧ (∀ k, Pr' k → k < w1.heap.size) ∧ Keep Pr w0 w1 ∧ SR Pr' w1 cargs nt s a w ρ ∧ ∀ r, M = some r → ∃ v g, ρ[r]? = some v ∧ v.ownBlock = some g ∧ Pr' g ∧ ¬ Pr g
section
variable {P : Program} {T : TT} {G : Nat → Option GF} {Pr : Nat → Prop} {w0 : World} {cargs : List Value} {nt : Nat}
theorem evO_ok {s : St} {a : Act} {w : World} {ρ : List Value} (hs : SR Pr w0 cargs nt s a w ρ) {x : Operand} {v : FV} (h : evO s x = some v) : FVR w Pr ρ cargs v (a.eval x) := by
  cases x with
  | tmp t =>
    unfold evO at h
    dsimp only at h
    split at h
    · rename_i u hu
      cases h
      exact hs.slots t _ hu
    · cases h
  | const c => exact constO_ok h w Pr ρ cargs
  | global g => cases h
  | func f => cases h; exact ⟨[], rfl, trivial⟩
theorem evAll_ok {s : St} {a : Act} {w : World} {ρ : List Value} (hs : SR Pr w0 cargs nt s a w ρ) {xs : List Operand} {vs : List FV} (h : evAll s xs = some vs) : AllR (FVR w Pr ρ cargs) vs (xs.map a.eval) :=
  evAll_mem h fun _ _ _ hv => evO_ok hs hv
theorem step_ord (hT : TOK P T) {o : Oper} {op : Op} {s : St} {M : Option Nat} {k : AV → St → Option Nat → R} {out : Out} (hop : o.op = op) (h : opK T false op s (fun av H => k av ⟨s.sl, H⟩ M) = some out) (hd : dstOk nt o.dst = true)
    {a : Act} {w : World} {ρ : List Value} (hs : SRu Pr w0 cargs nt M s a w ρ) : Yields P o a w fun v w' => ∃ av s2 M2 ρ', k av s2 M2 = some out ∧ SRu Pr w0 cargs nt M2 (putS s2 o.dst av s2.H) (a.put o.dst v) w' ρ' := by
  obtain ⟨av, H', hk, hdoes⟩ := opK_does hT (o := o) (by rw [hop]; exact h)
  obtain ⟨Pr', w1, h1, h2, h3, h4, h5⟩ := hs
  refine (hdoes a w Pr' ρ cargs (h4.lt h2) h4.heap (Opd.of_slots fun t _ v hv => h4.slots t v hv)).mono fun v w' ⟨ρ', hr, hv, hH, hkeep⟩ => ⟨av, ⟨s.sl, H'⟩, M, ρ', hk, Pr', w1, h1, h2, h3, ?_, fun r hr' => ?_⟩
  · have := h4.put hd hr hv hH hkeep
    cases hdst : o.dst <;> rw [hdst] at this <;> exact this
  · obtain ⟨v', g, b1, b2⟩ := h5 r hr'
    exact ⟨v', g, hr _ _ b1, b2⟩
theorem step_store (hT : TOK P T) {o : Oper} {t r e i j e0 : Nat} {π : List (Option Nat)} {x y : Operand} {row : Row} {s : St} (hop : o.op = .store t x y) (hx : evO s x = some (.pm r e π i)) (hy : evO s y = some (.own j)) (hsl : T.sl t = some e0) (hj : rowAt s.H j = some row) (hi : i < π.length)
    {a : Act} {w : World} {ρ : List Value} (hs : SRu Pr w0 cargs nt (some r) s a w ρ) (hd : dstOk nt o.dst = true) : Yields P o a w fun v w' => ∃ ρ', (∀ (r : Nat) (u : Value), ρ[r]? = some u → ρ'[r]? = some u) ∧ SRu Pr w0 cargs nt (some r) (putS ⟨clean (keepM r e (π.set i (some j))) [] s.sl, s.H⟩ o.dst .un s.H) (a.put o.dst v) w' ρ' := by
  obtain ⟨Pr', w1, h1, h2, h3, h4, h5⟩ := hs
  obtain ⟨vr, g, b1, b2, b3, b4⟩ := h5 r rfl
  refine (mstore_run hT hop hsl a h4.heap (evO_ok h4 hx) (evO_ok h4 hy) hj hi b1 b2).mono fun v w' ⟨c1, c2, c3, c4, c5, c6, c7, c8⟩ => ⟨ρ, fun _ _ h => h, Pr', w', h1, fun k hk => by rw [c8]; exact h4.lt h2 k hk, ?_, ?_, fun r' hr' => by cases hr'; exact ⟨vr, g, b1, b2, b3, b4⟩⟩
  · exact (h3.trans (h4.keep.mono h1)).trans ⟨c5, c6, c7, by rw [c8]; exact Nat.le_refl _, fun k hk => c4 k fun e => b4 (e ▸ hk)⟩
  · have base : SR Pr' w' cargs nt ⟨clean (keepM r e (π.set i (some j))) [] s.sl, s.H⟩ a w' ρ := by
      refine ⟨h4.size, h4.defers, fun u v' hv => ?_, c2, Keep.refl _ _⟩
      obtain ⟨_, v0, d1, d2⟩ := clean_lk hv
      obtain ⟨e1, e2, e3, e4⟩ := keepM_spec d2
      exact VFA.to e2 (e3 _ _ (VFA.of e1 (h4.slots u v0 d1))) (e4 _ _ _ c3)
    exact base.put hd (fun _ _ h => h) (by rw [c1]; rfl) c2 (Keep.refl _ _)
theorem step_outer (hT : TOK P T) {o : Oper} {t e e2 : Nat} {parts : Array (Nat × Operand)} {xa xb xc : Operand} {ja jb jc : Nat} {s : St} (hop : o.op = .buildSlice t 3 parts) (hparts : parts.toList = [(0, xa), (1, xb), (2, xc)]) (hsl : T.sl t = some e) (hsl2 : T.sl e = some e2)
    (ha : ownO s xa = some ja) (hb : ownO s xb = some jb) (hc : ownO s xc = some jc) {a : Act} {w : World} {ρ : List Value} (hs : SRu Pr w0 cargs nt none s a w ρ) (hd : dstOk nt o.dst = true) :
    Yields P o a w fun v w' => ∃ ρ', (∀ (r : Nat) (u : Value), ρ[r]? = some u → ρ'[r]? = some u) ∧ SRu Pr w0 cargs nt (some s.H.length) (putS ⟨s.sl, s.H ++ [none]⟩ o.dst (.fv (.mv s.H.length e [some ja, some jb, some jc])) (s.H ++ [none])) (a.put o.dst v) w' ρ' := by
  obtain ⟨Pr', w1, h1, h2, h3, h4, h5⟩ := hs
  obtain ⟨a1, ra, a2⟩ := ownO_spec ha
  obtain ⟨b1, rb, b2⟩ := ownO_spec hb
  obtain ⟨c1, rc, c2⟩ := ownO_spec hc
  have va : ρ[ja]? = some (a.eval xa) := evO_ok h4 a1
  have vb : ρ[jb]? = some (a.eval xb) := evO_ok h4 b1
  have vc : ρ[jc]? = some (a.eval xc) := evO_ok h4 c1
  have hlen := h4.heap.len
  refine (outer_run hT hop hparts hsl hsl2 a h4.heap va vb vc (own_one h4.heap a2 va).2 (own_one h4.heap b2 vb).2 (own_one h4.heap c2 vc).2).mono fun v w' ⟨d1, d2, d3, d4, d5⟩ => ⟨ρ ++ [v], fun _ _ h => getElem?_push_old h, fun k => Pr' k ∨ k = w.heap.size, w', fun k hk => .inl (h1 k hk), fun k hk => ?_, ?_, ?_, fun r hr => ?_⟩
  · rcases hk with hk | hk
    · exact Nat.lt_of_lt_of_le (h4.lt h2 k hk) d1.size
    · rw [hk]; exact d5
  · exact (h3.trans (h4.keep.mono h1)).trans (Keep.of_below d1 fun k hk => h4.lt h2 k (h1 k hk))
  · have base : SR (fun k => Pr' k ∨ k = w.heap.size) w' cargs nt ⟨s.sl, s.H ++ [none]⟩ a w' (ρ ++ [v]) :=
      ⟨h4.size, h4.defers, fun u v' hv => ((h4.slots u v' hv).keep (fun k hk => d1.block k (h4.lt h2 k hk)) fun _ _ h => getElem?_push_old h).mono fun _ h => .inl h, d3, Keep.refl _ _⟩
    refine base.put hd (fun _ _ h => h) ?_ d3 (Keep.refl _ _)
    exact ⟨by rw [← hlen]; simp, d4⟩
  · cases hr
    exact ⟨v, w.heap.size, by rw [← hlen]; simp, d2, .inr rfl, fun hp => Nat.lt_irrefl _ (h4.lt h2 _ (h1 _ hp))⟩
theorem step_call (hG : GOKs P G) {o : Oper} {x : Operand} {args : Array Operand} {ts : Array TypeId} {f r e : Nat} {π : List (Option Nat)} {ys : List FV} {F : GF} {s : St} {k : List FV → Hp → R} {out : Out} (hop : o.op = .call { callee := .value x, args := args, argTypes := ts }) (hx : evO s x = some (.fn f [])) (hF : G f = some F)
    (hxs : evAll s args.toList = some (.mv r e π :: ys)) (hpl : ys.all plF = true) (h : F (.mv r e π :: ys) s.H k = some out) {a : Act} {w : World} {ρ : List Value} (hs : SRu Pr w0 cargs nt (some r) s a w ρ) (hd : dstOk nt o.dst = true) :
    Yields P o a w fun v w' => ∃ vs H' ρ', k vs H' = some out ∧ (vs.all plF = true → SRu Pr w0 cargs nt none (putS ⟨clean elO [] s.sl, H'⟩ o.dst (packed vs) H') (a.put o.dst v) w' ρ') := by
  obtain ⟨hreal, hok⟩ := hG f F hF
  have hc := hok _ _ _ _ h
  obtain ⟨Pr', w1, h1, h2, h3, h4, h5⟩ := hs
  obtain ⟨vr, g, b1, b2, b3, b4⟩ := h5 r rfl
  obtain ⟨cs, hcs, hcaps⟩ := evO_ok h4 hx
  have hcs0 : cs = [] := by
    cases cs with
    | nil => rfl
    | cons c cs => exact hcaps.elim
  subst hcs0
  have hargs := evAll_ok h4 hxs
  have hargs0 : AllR (FVR w Pr' ρ []) (.mv r e π :: ys) (args.toList.map a.eval) := by
    cases hl : args.toList.map a.eval with
    | nil => rw [hl] at hargs; exact hargs.elim
    | cons u us =>
      rw [hl] at hargs
      refine ⟨hargs.1, ?_⟩
      have : ∀ (l : List FV) (us : List Value), l.all plF = true → AllR (FVR w Pr' ρ cargs) l us → AllR (FVR w Pr' ρ []) l us := by
        intro l
        induction l with
        | nil => intro us _ h; cases us with
          | nil => trivial
          | cons _ _ => exact h.elim
        | cons x l ih => intro us hp h; cases us with
          | nil => exact h.elim
          | cons u us =>
            rw [List.all_cons, Bool.and_eq_true] at hp
            exact ⟨VFF.to (plF_vf hp.1) (VFF.of (plF_vf hp.1) h.1) (plF_mat hp.1), ih us hp.2 h.2⟩
      exact this ys us hpl hargs.2
  refine yields_call hop hcs hreal ?_
  rw [List.append_nil]
  refine (hc w Pr' ρ _ r e π ys vr g rfl hpl (h4.lt h2) h4.heap hargs0 b1 b2 b3).mono ?_
  rintro en w' ⟨vs, H', us, ρ', hk, rfl, hus, hH, hkeep⟩
  refine ⟨packV us, rfl, vs, H', ρ', hk, fun hvs => ⟨fun k => Pr' k ∧ k ≠ g, w', fun k hk => ⟨h1 k hk, fun e => b4 (e ▸ hk)⟩, fun k hk => Nat.lt_of_lt_of_le (h4.lt h2 k hk.1) hkeep.size, ?_, ?_, fun r hr => by cases hr⟩⟩
  · exact (h3.trans (h4.keep.mono h1)).trans (hkeep.mono fun k hk => ⟨h1 k hk, fun e => b4 (e ▸ hk)⟩)
  · have base : SR (fun k => Pr' k ∧ k ≠ g) w' cargs nt ⟨clean elO [] s.sl, H'⟩ a w' ρ' := by
      refine ⟨h4.size, h4.defers, fun u v' hv => ?_, hH, Keep.refl _ _⟩
      obtain ⟨_, v0, d1, d2⟩ := clean_lk hv
      have := h4.slots u v0 d1
      unfold elO at d2
      split at d2 <;> cases d2
      · exact this
      · exact this
      · exact this
    exact base.put hd (fun _ _ h => h) (packed_ok (VFFs.to hvs hus)) hH (Keep.refl _ _)
theorem stepU_ok (hT : TOK P T) (hG : GOKs P G) {o : Oper} {s : St} {M : Option Nat} {k : AV → St → Option Nat → R} {out : Out} (h : stepU T G o.op s M k = some out) (hd : dstOk nt o.dst = true)
    {a : Act} {w : World} {ρ : List Value} (hs : SRu Pr w0 cargs nt M s a w ρ) : Yields P o a w fun v w' => ∃ av s2 M2 ρ', k av s2 M2 = some out ∧ SRu Pr w0 cargs nt M2 (putS s2 o.dst av s2.H) (a.put o.dst v) w' ρ' := by
  unfold stepU at h
  split at h
  · rename_i t x y hop
    split at h
    · rename_i r e π i j hx hy
      split at h
      · rename_i r' e0 row hsl hj
        cases hb : (Nat.beq r r' && decide (i < π.length)) with
        | false => rw [hb] at h; cases h
        | true =>
          rw [hb] at h
          rw [Bool.and_eq_true] at hb
          have := Nat.eq_of_beq_eq_true hb.1
          subst this
          exact (step_store hT hop hx hy hsl hj (of_decide_eq_true hb.2) hs hd).mono fun v w' ⟨ρ', h1, h2⟩ => ⟨_, _, _, ρ', h, h2⟩
      · cases h
    · exact step_ord hT hop h hd hs
  · rename_i t n parts hop
    split at h
    · rename_i e hsl
      split at h
      · split at h
        · rename_i e2 xa xb xc hsl2 hparts
          split at h
          · rename_i ja jb jc ha hb hc
            cases hn : Nat.beq n 3 with
            | false => rw [hn] at h; cases h
            | true =>
              rw [hn] at h
              have := Nat.eq_of_beq_eq_true hn
              subst this
              exact (step_outer hT hop hparts hsl hsl2 ha hb hc hs hd).mono fun v w' ⟨ρ', h1, h2⟩ => ⟨_, _, _, ρ', h, h2⟩
          · cases h
        · cases h
      · exact step_ord hT hop h hd hs
    · exact step_ord hT hop h hd hs
  · rename_i c hop
    obtain ⟨callee, args, ts⟩ := c
    dsimp only at h
    split at h
    · rename_i x hcal
      split at h
      · rename_i f hx
        split at h
        · rename_i F hF
          split at h
          · rename_i r e π ys r' hxs
            cases hb : (Nat.beq r r' && ys.all plF) with
            | false => rw [hb] at h; cases h
            | true =>
              rw [hb] at h
              rw [Bool.and_eq_true] at hb
              have := Nat.eq_of_beq_eq_true hb.1
              subst this
              simp only [cond_true] at h
              refine (step_call hG hop hx hF hxs hb.2 h hs hd).mono fun v w' ⟨vs, H', ρ', hk, hy⟩ => ?_
              cases hvs : vs.all plF with
              | false => rw [hvs] at hk; cases hk
              | true =>
                rw [hvs] at hk
                exact ⟨_, _, _, ρ', hk, hy hvs⟩
          · cases h
        · exact step_ord hT hop h hd hs
      · exact step_ord hT hop h hd hs
    · exact step_ord hT hop h hd hs
  · exact step_ord hT rfl h hd hs
theorem SRu.guard {all : List Oper} {g : Option (Nat × Bool)} {s s1 : St} {b : Bool} {M : Option Nat} {a : Act} {w : World} {ρ : List Value} (h : SRu Pr w0 cargs nt M s a w ρ) (hg : Guard all g s b s1) : SRu Pr w0 cargs nt M s1 a w ρ := by
  obtain ⟨Pr', w1, h1, h2, h3, h4, h5⟩ := h
  exact ⟨Pr', w1, h1, h2, h3, h4.guard hg, h5⟩
theorem SRu.wanted {all : Array Oper} {o : Oper} {s s1 : St} {b : Bool} {M : Option Nat} {a : Act} {w : World} {ρ : List Value} (h : SRu Pr w0 cargs nt M s a w ρ) (hg : Guard all.toList o.guard s b s1) : Region.wanted o (yielded all a.tmps) = b := by
  obtain ⟨Pr', w1, h1, h2, h3, h4, h5⟩ := h
  exact hg.wanted (w := w) (Pr := Pr') (ρ := ρ) (cargs := cargs) fun d _ v hv => h4.slots d v hv
theorem SRu.putUn {s : St} {M : Option Nat} {a : Act} {w : World} {ρ : List Value} {d : Option Nat} (h : SRu Pr w0 cargs nt M s a w ρ) (hd : dstOk nt d = true) : SRu Pr w0 cargs nt M (putS s d .un s.H) (a.put d undef) w ρ := by
  obtain ⟨Pr', w1, h1, h2, h3, h4, h5⟩ := h
  exact ⟨Pr', w1, h1, h2, h3, h4.put hd (fun _ _ h => h) rfl h4.heap (Keep.refl _ _), h5⟩
theorem opsU_ok (hT : TOK P T) (hG : GOKs P G) {ops : Array Oper} {Q : Exit → Act → World → Prop} {out : Out} {k : St → Option Nat → R} : ∀ (os : List Oper) (s : St) (M : Option Nat) (a : Act) (w : World) (ρ : List Value),
    opsU T G nt ops.toList os s M k = some out → SRu Pr w0 cargs nt M s a w ρ → (∀ s' M' a' w' ρ', k s' M' = some out → SRu Pr w0 cargs nt M' s' a' w' ρ' → Q .normal a' w') → wpList P ops Q os a w
  | [], s, M, a, w, ρ, h, hs, hQ => hQ s M a w ρ h hs
  | o :: os, s, M, a, w, ρ, h, hs, hQ => by
    unfold opsU at h
    cases hd : dstOk nt o.dst with
    | false => rw [hd] at h; cases h
    | true =>
      rw [hd] at h
      simp only [cond_true] at h
      obtain ⟨b, s1, hg, h1⟩ := guardK_ok h
      have hw := hs.wanted hg
      have hs1 := hs.guard hg
      unfold wpList
      rw [hw]
      cases b with
      | false =>
        simp only [Bool.false_eq_true, if_false] at h1 ⊢
        exact opsU_ok hT hG os _ _ _ w ρ h1 (hs1.putUn hd) hQ
      | true =>
        simp only [if_true] at h1 ⊢
        refine .inl ((stepU_ok hT hG h1 hd hs1).wp ?_)
        rintro v w' ⟨av, s2, M2, ρ', hk, hs2⟩
        exact opsU_ok hT hG os _ _ _ w' ρ' hk hs2 hQ
theorem turnU_ok (hT : TOK P T) (hG : GOKs P G) {ops : Array Oper} {p q : Nat} (hdraw : drawOk ops = true) (hbeh : ∀ (i : Nat) (o : Oper), ops.toList[i]? = some o → p ≤ i → ∀ j, j < i → j < q → Anc ops.toList j i) (hq : q ≤ ops.size) {Q : Exit → Act → World → Prop} {out : Out} {k : St → Option Nat → R} : ∀ (os : List Oper) (i : Nat) (s : St) (M : Option Nat) (listed : Array Bool) (a : Act) (w : World) (ρ : List Value),
    (ops.toList.take q).drop i = os → p ≤ i → i + os.length = q → listed.size = ops.size → (∀ j, j < ops.size → (listed.getD j true = true ↔ j < i)) → opsU T G nt ops.toList os s M k = some out → SRu Pr w0 cargs nt M s a w ρ →
    (∀ s' M' listed' a' w' ρ', k s' M' = some out → SRu Pr w0 cargs nt M' s' a' w' ρ' → listed'.size = ops.size → (∀ j, j < ops.size → (listed'.getD j true = true ↔ j < q)) → wpAny P .any ops Q (ops.size - q) listed' a' w') → wpAny P .any ops Q (os.length + (ops.size - q)) listed a w
  | [], i, s, M, listed, a, w, ρ, hd, hpi, hil, hsz, hl, h, hs, hQ => by
    rw [List.length_nil, Nat.zero_add]
    have : i = q := by simpa using hil
    subst this
    exact hQ s M listed a w ρ h hs hsz hl
  | o :: os, i, s, M, listed, a, w, ρ, hd, hpi, hil, hsz, hl, h, hs, hQ => by
    have hiq : i < q := by simp at hil; omega
    have hlen : i < ops.size := by omega
    have ho : ops.toList[i]? = some o := by
      have := congrArg (·[0]?) hd
      simp only [List.getElem?_drop, List.getElem?_cons_zero, Nat.add_zero] at this
      rw [List.getElem?_take, if_pos hiq] at this
      exact this
    have hun : listed.getD i true = false := by
      cases hb : listed.getD i true with
      | false => rfl
      | true => have := (hl i hlen).1 hb; omega
    have hdown : ∀ (j : Nat) (o' : Oper), ops.toList[j]? = some o' → listed.getD j true = true → ∀ e ∈ o'.after, Region.binds .any e = true → listed.getD e.on true = true := by
      intro j o' hj hlj e he hb
      have h1 := (draw_spec (all := ops) (n := 0) hdraw j o' hj).1 e he hb
      have h2 := (hl j (lt_size hj)).1 hlj
      have h3 := lt_size hj
      simp only [Nat.zero_add] at h1
      exact (hl e.on (by omega)).2 (by omega)
    have hready : i ∈ Region.ready .any ops listed := by
      refine mem_ready.2 ⟨hun, o, by rw [← ho]; simp, fun e he hb => ?_⟩
      have hon := (draw_spec (all := ops) (n := 0) hdraw i o ho).1 e he hb
      simp only [Nat.zero_add] at hon
      have htrue := (hl e.on (by omega)).2 hon
      have hls : e.on < listed.size := by rw [hsz]; omega
      simp [Array.getD, hls] at htrue ⊢
      exact htrue
    rw [show (o :: os).length + (ops.size - q) = (os.length + (ops.size - q)) + 1 by simp; omega]
    refine ⟨fun hempty => ?_, fun j hj => ?_⟩
    · rw [hempty] at hready; cases hready
    · obtain ⟨h1, o', ho', hall⟩ := mem_ready.1 hj
      have ho'' : ops.toList[j]? = some o' := by rw [← ho']; simp
      have hj' : j < ops.size := lt_size ho''
      have hij : j = i := by
        rcases Nat.lt_trichotomy j i with h2 | h2 | h2
        · rw [(hl j hj').2 h2] at h1; cases h1
        · exact h2
        · have := anc_ready hdown (hbeh j o' ho'' (by omega) i h2 hiq) ho'' (fun e he hb => getD_false (hall e he hb))
          rw [hun] at this
          cases this
      subst hij
      rw [ho] at ho''
      cases ho''
      unfold opsU at h
      cases hdst : dstOk nt o.dst with
      | false => rw [hdst] at h; cases h
      | true =>
        rw [hdst] at h
        simp only [cond_true] at h
        obtain ⟨bb, s1, hg, h2⟩ := guardK_ok h
        have hw := hs.wanted hg
        have hs1 := hs.guard hg
        have hl2 : ∀ z, z < ops.size → ((listed.setIfInBounds j true).getD z true = true ↔ z < j + 1) := by
          intro z hz
          rw [getD_listed (by rw [hsz]; exact hlen)]
          by_cases e : j = z
          · subst e; simp
          · rw [if_neg e, hl z hz]; omega
        have hd2 : (ops.toList.take q).drop (j + 1) = os := by
          rw [← List.drop_drop, hd]
          rfl
        unfold wpOp
        rw [ho']
        dsimp only
        rw [hw]
        cases bb with
        | false =>
          simp only [Bool.false_eq_true, if_false] at h2 ⊢
          exact turnU_ok hT hG hdraw hbeh hq os (j + 1) _ _ _ _ w ρ hd2 (by omega) (by simp at hil; omega) (by simp [hsz]) hl2 h2 (hs1.putUn hdst) hQ
        | true =>
          simp only [if_true] at h2 ⊢
          refine .inl ((stepU_ok hT hG h2 hdst hs1).wp ?_)
          rintro v w' ⟨av, s2, M2, ρ', hk, hs2⟩
          exact turnU_ok hT hG hdraw hbeh hq os (j + 1) _ _ _ _ w' ρ' hd2 (by omega) (by simp at hil; omega) (by simp [hsz]) hl2 hk hs2 hQ
end
end Go.Sm
namespace Go.Sm
open Go Go.RowKit
def statM (ops : Array Oper) (nt p q : Nat) (sps : List Sp) : Bool :=
  Nat.ble p q && (Nat.ble q ops.toList.length && (behindQ p q 0 [] ops.toList && statSp ops nt p sps))
def drawnM (T : TT) (G : Nat → Option GF) (nt : Nat) (ops : Array Oper) (sps : List Sp) (p q : Nat) (s : St) (M : Option Nat) (k : St → Option Nat → R) : R :=
  bif noGhost sps && statM ops nt p q sps then
    opsK T true nt (idleM (sps.map Sp.i) 0 (ops.toList.take p)) (idleM (sps.map Sp.i) 0 (ops.toList.take p)) s fun s' => makeG T s' sps s'.sl [] fun sl rows =>
      opsU T G nt ops.toList ((ops.toList.take q).drop p) ⟨sl, s'.H ++ rows.map some⟩ M fun s2 M2 =>
        opsK T true nt (idleM (List.range q) 0 (ops.toList.take ops.toList.length)) (idleM (List.range q) 0 (ops.toList.take ops.toList.length)) s2 fun s3 => k s3 M2
  else none
section
variable {P : Program} {T : TT} {G : Nat → Option GF} {Pr : Nat → Prop} {w0 : World} {cargs : List Value} {nt : Nat}
structure InvQ (Pr : Nat → Prop) (w1 : World) (ρ cargs : List Value) (nt : Nat) (ops : Array Oper) (q : Nat) (s : St) (avs : List AV) (listed : Array Bool) (a : Act) (w : World) : Prop where
  size : a.tmps.size = nt
  defers : a.defers = []
  same : Same w1 w
  lsize : listed.size = ops.size
  done : ∀ (j : Nat) (o : Oper) (av : AV) (u : Nat), (idleM (List.range q) 0 (ops.toList.take ops.toList.length))[j]? = some o → avs[j]? = some av → listed.getD j true = true → o.dst = some u → AVR w1 Pr ρ cargs av (a.tmps.getD u undef)
  still : ∀ (u : Nat) (v : AV), lk s.sl u = some v → (∀ (j : Nat) (o : Oper), (idleM (List.range q) 0 (ops.toList.take ops.toList.length))[j]? = some o → o.dst = some u → listed.getD j true = false) → AVR w1 Pr ρ cargs v (a.tmps.getD u undef)
  down : ∀ (j : Nat) (o : Oper), ops.toList[j]? = some o → listed.getD j true = true → ∀ e ∈ o.after, Region.binds .any e = true → listed.getD e.on true = true
  pre : ∀ j, j < q → listed.getD j true = true
theorem invQ_step {ops : Array Oper} {q : Nat} (hdraw : drawOk ops = true) {s s' : St} {avs : List AV} (hpath : Path P (idleM (List.range q) 0 (ops.toList.take ops.toList.length)) nt (idleM (List.range q) 0 (ops.toList.take ops.toList.length)) s avs s')
    {w1 : World} {ρ : List Value} (hp : ∀ k, Pr k → k < w1.heap.size) (hH : HR w1 Pr ρ s.H)
    {listed : Array Bool} {a : Act} {w : World} (hinv : InvQ Pr w1 ρ cargs nt ops q s avs listed a w) {i : Nat} (hr : i ∈ Region.ready .any ops listed) {Q : Exit → Act → World → Prop} {K : Act → World → Prop}
    (hK : ∀ a2 w2, InvQ Pr w1 ρ cargs nt ops q s avs (listed.setIfInBounds i true) a2 w2 → K a2 w2) : wpOp P ops Q i K a w := by
  obtain ⟨hun, o, ho, hall⟩ := mem_ready.1 hr
  have ho' : ops.toList[i]? = some o := by rw [← ho]; simp
  have hip : i < ops.toList.length := by have := lt_size ho'; simpa using this
  have hil' : i < listed.size := by rw [hinv.lsize]; exact lt_size ho'
  have hib : i ∉ List.range q := fun hm => by
    rw [hinv.pre i (List.mem_range.1 hm)] at hun
    cases hun
  have spec := draw_spec (all := ops) (n := 0) hdraw
  simp only [Nat.zero_add] at spec
  have hp' : ∀ k, Pr k → k < w.heap.size := fun k hk => Nat.lt_of_lt_of_le (hp k hk) hinv.same.size
  have hdown : ∀ (j : Nat) (o' : Oper), ops.toList[j]? = some o' → (listed.setIfInBounds i true).getD j true = true → ∀ e' ∈ o'.after, Region.binds .any e' = true → (listed.setIfInBounds i true).getD e'.on true = true := by
    intro j o' hj hl e' he' hb'
    rw [getD_listed hil'] at hl ⊢
    split
    · rfl
    · by_cases e2 : i = j
      · subst e2
        rw [ho'] at hj
        cases hj
        exact getD_false (hall e' he' hb')
      · rw [if_neg e2] at hl
        exact hinv.down j o' hj hl e' he' hb'
  have hpre : ∀ j, j < q → (listed.setIfInBounds i true).getD j true = true := by
    intro j hj
    rw [getD_listed hil']
    split
    · rfl
    · exact hinv.pre j hj
  have hstill : ∀ (u : Nat) (v : AV), lk s.sl u = some v → (∀ (j : Nat) (o' : Oper), (idleM (List.range q) 0 (ops.toList.take ops.toList.length))[j]? = some o' → o'.dst = some u → (listed.setIfInBounds i true).getD j true = false) → AVR w1 Pr ρ cargs v (a.tmps.getD u undef) := by
    intro u v hu hno
    refine hinv.still u v hu fun j o' hj hd => ?_
    have := hno j o' hj hd
    rw [getD_listed hil'] at this
    split at this
    · cases this
    · exact this
  have hother : ∀ (j : Nat) (o' : Oper) (av' : AV) (u : Nat), j ≠ i → (idleM (List.range q) 0 (ops.toList.take ops.toList.length))[j]? = some o' → avs[j]? = some av' → (listed.setIfInBounds i true).getD j true = true → o'.dst = some u → AVR w1 Pr ρ cargs av' (a.tmps.getD u undef) := by
    intro j o' av' u hne hj ha hl hd
    rw [getD_listed hil', if_neg (Ne.symm hne)] at hl
    exact hinv.done j o' av' u hj ha hl hd
  unfold wpOp
  rw [ho]
  dsimp only
  have hoi := frontM_of hip ho' hib
  obtain ⟨av, hav⟩ : ∃ av, avs[i]? = some av := ⟨_, List.getElem?_eq_getElem (by rw [hpath.len, idleM_len, List.length_take]; omega)⟩
  obtain ⟨hdst, si, s1, hsH, hstep, hslots⟩ := hpath.at hoi hav
  have hlook : ∀ u, u ∈ o.looksAt ops → ∀ v, lk si.sl u = some v → AVR w Pr ρ cargs v (a.tmps.getD u undef) := by
    intro u hu v hv
    refine AVR.same (w := w1) ?_ hinv.same hp
    rcases hslots u v hv with ⟨j, o', h1, h2, h3, h4⟩ | ⟨h1, h2⟩
    · obtain ⟨_, h2', _⟩ := frontM_real h2 h3
      have hpr := ((spec j o' h2').2 i o h1 ho')
      rcases (pair_spec hpr).1 with ⟨e', he', hb', hon⟩ | ⟨hno, _⟩
      · refine hinv.done j o' v u h2 h4 ?_ h3
        have := hall e' he' hb'
        rw [hon] at this
        exact getD_false this
      · exact absurd hu (hno u h3)
    · refine hinv.still u v h1 fun j o' hj hd => ?_
      rcases Nat.lt_trichotomy j i with hlt' | heq | hgt
      · exact absurd hd (h2 j o' hlt' hj)
      · subst heq; exact hun
      · cases hl : listed.getD j true with
        | false => rfl
        | true =>
          obtain ⟨_, hj', _⟩ := frontM_real hj hd
          have hpr := (spec i o ho').2 j o' hgt hj'
          rcases (pair_spec hpr).1 with ⟨e', he', hb', hon⟩ | ⟨_, hno⟩
          · have := hinv.down j o' hj' hl e' he' hb'
            rw [hon, hun] at this
            cases this
          · exact absurd hu (hno u hd)
  have hnext : ∀ (v : Value) (w' : World), AVR w Pr ρ cargs av v → Same w w' → K (a.put o.dst v) w' := by
    intro v w' hv hs
    have hv1 : AVR w1 Pr ρ cargs av v := hv.back hinv.same hp
    refine hK _ _ ?_
    have hgd : ∀ (u : Nat), (a.put o.dst v).tmps.getD u undef = if o.dst = some u then v else a.tmps.getD u undef := by
      intro u
      cases hd : o.dst with
      | none => simp [Act.put]
      | some d' =>
        have hlt' : d' < a.tmps.size := by rw [hinv.size]; rw [hd] at hdst; exact of_decide_eq_true hdst
        simp only [Act.put]
        rw [getD_set _ _ _ _ hlt']
        simp
    refine ⟨?_, ?_, hinv.same.trans hs, by simp [hinv.lsize], fun j o' av' u hj ha hl hd => ?_, fun u v' hu hno => ?_, hdown, hpre⟩
    · cases o.dst <;> simp [Act.put, hinv.size]
    · cases o.dst <;> exact hinv.defers
    · rw [hgd u]
      by_cases e' : j = i
      · subst e'
        rw [hoi] at hj
        cases hj
        rw [hav] at ha
        cases ha
        rw [if_pos hd]
        exact hv1
      · obtain ⟨_, hj', _⟩ := frontM_real hj hd
        have hne : o.dst ≠ some u := by
          rcases Nat.lt_or_gt_of_ne e' with h | h
          · exact fun h2 => (pair_spec ((spec j o' hj').2 i o h ho')).2 u hd h2
          · intro h2; exact (pair_spec ((spec i o ho').2 j o' h hj')).2 u h2 hd
        rw [if_neg hne]
        exact hother j o' av' u e' hj ha hl hd
    · rw [hgd u]
      have hne : o.dst ≠ some u := by
        intro h2
        have := hno i o hoi h2
        rw [getD_listed hil', if_pos rfl] at this
        cases this
      rw [if_neg hne]
      exact hstill u v' hu hno
  have hmem : ∀ u, optIn (some u) (o.looksAt ops) = true → u ∈ o.looksAt ops := fun u h => memN_iff.1 h
  rcases hstep with ⟨hg', hq⟩ | ⟨hg', rfl⟩
  · rw [if_pos (hg'.frontM.wanted (w := w) (Pr := Pr) (ρ := ρ) (cargs := cargs) fun u hd v hv => hlook u (hmem u hd) v hv)]
    refine .inl ((hq a w Pr ρ cargs hp' ?_ (Opd.of_slots fun u hu v hv => ?_)).wp fun v w' ⟨h1, h2⟩ => hnext v w' h1 h2)
    · rw [hg'.same.2, hsH]
      exact hH.keep hinv.same.block
    · refine hlook u ?_ v (by rw [← hg'.same.1 u]; exact hv)
      unfold Oper.looksAt
      refine List.mem_append_left _ (List.mem_filterMap.2 ⟨.tmp u, by simpa using hu, rfl⟩)
  · rw [if_neg (by rw [hg'.frontM.wanted (w := w) (Pr := Pr) (ρ := ρ) (cargs := cargs) fun u hd v hv => hlook u (hmem u hd) v hv]; exact Bool.false_ne_true)]
    exact hnext undef w rfl (Same.refl w)
theorem invQ_any {ops : Array Oper} {q : Nat} (hdraw : drawOk ops = true) {s s' : St} {avs : List AV} (hpath : Path P (idleM (List.range q) 0 (ops.toList.take ops.toList.length)) nt (idleM (List.range q) 0 (ops.toList.take ops.toList.length)) s avs s')
    {w1 : World} {ρ : List Value} (hp : ∀ k, Pr k → k < w1.heap.size) (hH : HR w1 Pr ρ s.H)
    {Q : Exit → Act → World → Prop} (hQ : ∀ (listed : Array Bool) (a : Act) (w : World), InvQ Pr w1 ρ cargs nt ops q s avs listed a w → (∀ j, j < ops.size → listed.getD j true = true) → Q .normal a w) :
    ∀ (fuel : Nat) (left : List Nat) (listed : Array Bool) (a : Act) (w : World), left.length = fuel → left.Nodup → (∀ i, i ∈ left ↔ i < ops.size ∧ listed.getD i true = false) → InvQ Pr w1 ρ cargs nt ops q s avs listed a w → wpAny P .any ops Q fuel listed a w := by
  intro fuel
  induction fuel with
  | zero =>
    intro left listed a w hl hn hleft hinv
    have hnil : left = [] := List.eq_nil_of_length_eq_zero hl
    subst hnil
    have hallT : ∀ j, j < ops.size → listed.getD j true = true := by
      intro j hj
      cases hb : listed.getD j true with
      | true => rfl
      | false => exact absurd ((hleft j).2 ⟨hj, hb⟩) (by simp)
    refine ⟨?_, hQ listed a w hinv hallT⟩
    apply List.eq_nil_iff_forall_not_mem.2
    intro j hj
    obtain ⟨h1, o, ho, _⟩ := mem_ready.1 hj
    have hj' : j < ops.size := lt_size (o := o) (by rw [← ho]; simp)
    rw [hallT j hj'] at h1
    cases h1
  | succ fuel ih =>
    intro left listed a w hl hn hleft hinv
    have hex : ∃ i, i ∈ left := by
      cases left with
      | nil => simp at hl
      | cons i l => exact ⟨i, by simp⟩
    refine ⟨fun hempty => ?_, fun i hi => ?_⟩
    · exfalso
      obtain ⟨i0, hi0⟩ := hex
      have hmin : ∃ i, i ∈ left ∧ ∀ j, j < i → j ∉ left := by
        have key : ∀ n i, i ≤ n → i ∈ left → ∃ i, i ∈ left ∧ ∀ j, j < i → j ∉ left := by
          intro n
          induction n with
          | zero => intro i hi him; exact ⟨i, him, fun j hj => by omega⟩
          | succ n ihn =>
            intro i hi him
            by_cases h : ∃ j, j < i ∧ j ∈ left
            · obtain ⟨j, hj, hjm⟩ := h
              exact ihn j (by omega) hjm
            · exact ⟨i, him, fun j hj hjm => h ⟨j, hj, hjm⟩⟩
        exact key i0 i0 (Nat.le_refl _) hi0
      obtain ⟨i, him, hmini⟩ := hmin
      obtain ⟨hlt, hun⟩ := (hleft i).1 him
      obtain ⟨o, ho⟩ : ∃ o, ops[i]? = some o := ⟨_, Array.getElem?_eq_getElem hlt⟩
      have ho' : ops.toList[i]? = some o := by rw [← ho]; simp
      have hready : i ∈ Region.ready .any ops listed := by
        refine mem_ready.2 ⟨hun, o, ho, fun e he hb => ?_⟩
        have hon := (draw_spec (all := ops) (n := 0) hdraw i o ho').1 e he hb
        simp only [Nat.zero_add] at hon
        have hnl : e.on ∉ left := hmini _ hon
        have htrue : listed.getD e.on true = true := by
          cases hb2 : listed.getD e.on true with
          | true => rfl
          | false => exact absurd ((hleft _).2 ⟨by omega, hb2⟩) hnl
        have hls : e.on < listed.size := by rw [hinv.lsize]; omega
        simp [Array.getD, hls] at htrue ⊢
        exact htrue
      rw [hempty] at hready
      cases hready
    · obtain ⟨h1, o, ho, hall⟩ := mem_ready.1 hi
      have ho' : ops.toList[i]? = some o := by rw [← ho]; simp
      have hlt := lt_size ho'
      have him : i ∈ left := (hleft i).2 ⟨hlt, h1⟩
      refine invQ_step hdraw hpath hp hH hinv hi fun a2 w2 hinv' => ih (left.erase i) _ a2 w2 ?_ (hn.erase i) (fun j => ?_) hinv'
      · rw [List.length_erase_of_mem him, hl]; rfl
      · rw [hn.mem_erase_iff, hleft j, getD_listed (by rw [hinv.lsize]; exact hlt)]
        constructor
        · rintro ⟨hne, h2, h3⟩; exact ⟨h2, by rw [if_neg (Ne.symm hne)]; exact h3⟩
        · rintro ⟨h2, h3⟩
          split at h3
          · cases h3
          · rename_i e; exact ⟨Ne.symm e, h2, h3⟩
theorem tail_ok (hT : TOK P T) {ops : Array Oper} {q : Nat} (hdraw : drawOk ops = true) (hq : q ≤ ops.size) {Q : Exit → Act → World → Prop} {out : Out} {k : St → R} {s : St} {M : Option Nat} {listed : Array Bool} {a : Act} {w : World} {ρ : List Value}
    (h : opsK T true nt (idleM (List.range q) 0 (ops.toList.take ops.toList.length)) (idleM (List.range q) 0 (ops.toList.take ops.toList.length)) s k = some out) (hs : SRu Pr w0 cargs nt M s a w ρ) (hsz : listed.size = ops.size) (hl : ∀ j, j < ops.size → (listed.getD j true = true ↔ j < q))
    (hQ : ∀ s' a' w' ρ', k s' = some out → SRu Pr w0 cargs nt M s' a' w' ρ' → Q .normal a' w') : wpAny P .any ops Q (ops.size - q) listed a w := by
  obtain ⟨avs, s', hpath, hk⟩ := opsK_path hT _ _ h
  obtain ⟨Pr', w1, h1, h2, h3, h4, h5⟩ := hs
  refine invQ_any (cargs := cargs) (Pr := Pr') hdraw hpath (h4.lt h2) h4.heap (fun listed2 a2 w2 hinv hall => ?_) (ops.size - q) (List.range' q (ops.size - q)) listed a w (by simp) List.nodup_range' (fun i => ?_)
    ⟨h4.size, h4.defers, Same.refl _, hsz, fun j o av u hj ha hlj hd => ?_, fun u v hv _ => h4.slots u v hv, fun j o hj hlj e he hb => ?_, fun j hj => (hl j (by omega)).2 hj⟩
  · refine hQ s' a2 w2 ρ hk ⟨Pr', w1, h1, h2, h3, ⟨hinv.size, hinv.defers, fun u v hv => ?_, by rw [hpath.heap]; exact h4.heap.keep hinv.same.block, h4.keep.trans (Keep.of_below hinv.same (h4.lt h2))⟩, h5⟩
    have : AVR w Pr' ρ cargs v (a2.tmps.getD u undef) := by
      rcases hpath.final hv with ⟨j, o, f1, f2, f3⟩ | ⟨f1, f2⟩
      · exact hinv.done j o v u f1 f3 (hall j (lt_size (frontM_real f1 f2).2.1)) f2
      · exact hinv.still u v f1 fun j o hj hd => absurd hd (f2 j o hj)
    exact this.keep (fun k hk => hinv.same.block k (h4.lt h2 k hk)) fun _ _ h => h
  · rw [List.mem_range'_1]
    constructor
    · rintro ⟨a1, a2⟩
      refine ⟨by omega, ?_⟩
      cases hb : listed.getD i true with
      | false => rfl
      | true => have := (hl i (by omega)).1 hb; omega
    · rintro ⟨a1, a2⟩
      refine ⟨Nat.not_lt.1 fun hlt => ?_, by omega⟩
      rw [(hl i a1).2 hlt] at a2
      cases a2
  · obtain ⟨_, hj', hne⟩ := frontM_real hj hd
    exact absurd (List.mem_range.2 ((hl j (lt_size hj')).1 hlj)) hne
  · have g1 := (draw_spec (all := ops) (n := 0) hdraw j o hj).1 e he hb
    have g2 := (hl j (lt_size hj)).1 hlj
    have g3 := lt_size hj
    simp only [Nat.zero_add] at g1
    exact (hl e.on (by omega)).2 (by omega)
theorem frontG_ok (hT : TOK P T) (hp : ∀ k, Pr k → k < w0.heap.size) {ops : Array Oper} {p : Nat} {sps : List Sp} (hst : StatG ops nt p sps) (hng : noGhost sps = true) {Q : Exit → Act → World → Prop} {out : Out} {kk : Hp → List (Nat × AV) → List Row → R} {id : Nat} {s : St} {a : Act} {w : World} {ρ : List Value}
    (h : opsK T true nt (idleM (sps.map Sp.i) 0 (ops.toList.take p)) (idleM (sps.map Sp.i) 0 (ops.toList.take p)) s (fun s' => makeG T s' sps s'.sl [] fun sl rows => kk s'.H sl rows) = some out) (hs : SR Pr w0 cargs nt s a w ρ)
    (hQ : ∀ H' sl rows vs listed a2 w2, kk H' sl rows = some out → SR Pr w0 cargs nt ⟨sl, H' ++ rows.map some⟩ a2 w2 (ρ ++ vs) → listed.size = ops.size → (∀ j, j < ops.size → (listed.getD j true = true ↔ j < p)) → wpAny P .any ops Q (ops.toList.drop p).length listed a2 w2) : (Code.region id ops true).wp P Q a w := by
  have hsame : Same w { w with drawn := w.drawn + 1 } := Same.drew w
  have hpw : ∀ k, Pr k → k < ({ w with drawn := w.drawn + 1 } : World).heap.size := hs.lt hp
  have hH : HR ({ w with drawn := w.drawn + 1 } : World) Pr ρ s.H := hs.heap.keep hsame.block
  refine wp_region_any hT.mo ?_
  obtain ⟨avs, s', hpath, hk⟩ := opsK_path hT _ _ h
  have hHl : s'.H = s.H := hpath.heap
  have hlenρ : ρ.length = s'.H.length := by rw [hHl]; exact hH.len
  have hpl : p ≤ ops.size := by simpa using hst.pl
  have hdl : (ops.toList.drop p).length = ops.size - p := by simp
  have hfalse : ∀ (j : Nat), (Array.replicate ops.size false).getD j true = true → j < ops.size → False := by
    intro j h1 h2
    simp [Array.getD, h2] at h1
  have start : InvG T Pr ({ w with drawn := w.drawn + 1 } : World) ρ cargs nt ops p sps s s' avs (Array.replicate ops.size false) a { w with drawn := w.drawn + 1 } := by
    have hspl : ∀ sp ∈ sps, sp.i < ops.size := fun sp hsp => by
      obtain ⟨_, _, o, h1, _⟩ := hst.sop sp hsp
      exact lt_size h1
    exact ⟨hs.size, hs.defers, Same.refl _, by simp, fun j o av u hj ha hl hd => (hfalse j hl (lt_size (frontM_real hj hd).2.1)).elim, fun u v hv _ _ => (hs.slots u v hv).same hsame (hs.lt hp), fun j o hj hl => (hfalse j hl (lt_size hj)).elim, fun sp hsp hl => (hfalse _ hl (hspl sp hsp)).elim, fun sp hsp sp' _ _ hl => (hfalse _ hl (hspl sp hsp)).elim, fun i _ h2 => by simp [Array.getD, h2]⟩
  have all0 : ∀ i, i ∈ List.range p ↔ i < p ∧ (Array.replicate ops.size false).getD i true = false := by
    intro i
    rw [List.mem_range]
    constructor
    · intro hi
      have : i < ops.size := by omega
      exact ⟨hi, by simp [Array.getD, this]⟩
    · exact fun h => h.1
  have main := invG_any (cargs := cargs) (Q := Q) hT hst hpath (makeG_pre hk) hpw hH (fun listed a2 w2 hinv hlist => ?_) p (List.range p) _ a _ (by simp) List.nodup_range all0 start
  · rwa [show p + (ops.toList.drop p).length = ops.size by rw [hdl]; omega] at main
  · have hl : ∀ m ∈ sps, listed.getD m.i true = true := fun m hm => by
      obtain ⟨h1, _, o, h2, _⟩ := hst.sop m hm
      exact (hlist m.i (lt_size h2)).2 h1
    have hng' : ∀ g, ({ w with drawn := w.drawn + 1 } : World).heap.size ≤ g → ¬ Pr g := fun g hg hpr => absurd (hpw g hpr) (Nat.not_lt.2 hg)
    have slotsAt : ∀ u v, lk s'.sl u = some v → (∀ sp ∈ sps, sp.d ≠ u) → AVR w2 Pr ρ cargs v (a2.tmps.getD u undef) := by
      intro u v hv hub
      have : AVR ({ w with drawn := w.drawn + 1 } : World) Pr ρ cargs v (a2.tmps.getD u undef) := by
        rcases hpath.final hv with ⟨j, o, h1, h2, h3⟩ | ⟨h1, h2⟩
        · have hj := frontM_real h1 h2
          exact hinv.done j o v u h1 h3 ((hlist j (lt_size hj.2.1)).2 hj.1) h2
        · exact hinv.still u v h1 hub fun j o hj hd => absurd hd (h2 j o hj)
      exact this.keep (fun k hk => hinv.same.block k (hpw k hk)) fun _ _ h => h
    have hhow : HowG T s' ({ w with drawn := w.drawn + 1 } : World) w2 Pr ρ cargs sps fun u => a2.tmps.getD u undef := by
      refine ⟨fun m hm t x hk => ?_, fun m hm t n hk => ?_, fun m hm t n ps hk => ?_, fun m hm b hk => ?_, fun m hm m' hm' hne h1 h2 g hg => ?_, slotsAt⟩
      · have := hinv.ext m hm (hl m hm)
        unfold Ext1 at this
        rw [hk] at this
        dsimp only at this
        obtain ⟨e, kd, q, n, a1, a2', a3, vs, a4, a5, a6⟩ := this
        exact ⟨e, kd, q, n, a1, a2', a3, vs, a4, a5, fun g hg => ⟨a6 g hg, hng' g (a6 g hg)⟩⟩
      · have := hinv.ext m hm (hl m hm)
        unfold Ext1 at this
        rw [hk] at this
        dsimp only at this
        obtain ⟨e, kd, a1, a2', vs, a4, a5, a6⟩ := this
        exact ⟨e, kd, a1, a2', vs, a4, a5, fun g hg => ⟨a6 g hg, hng' g (a6 g hg)⟩⟩
      · have := hinv.ext m hm (hl m hm)
        unfold Ext1 at this
        rw [hk] at this
        dsimp only at this
        obtain ⟨e, kd, els, xs, a1, a2', a3, a3', vs, a4, a5, a6⟩ := this
        exact ⟨e, kd, els, xs, a1, a2', a3, a3', vs, a4, a5, fun g hg => ⟨a6 g hg, hng' g (a6 g hg)⟩⟩
      · have := hinv.ext m hm (hl m hm)
        unfold Ext1 at this
        rw [hk] at this
        exact this
      · have hgo : ∀ q : Sp, q.k.isMk → gOf q.k (a2.tmps.getD q.d undef) = (a2.tmps.getD q.d undef).ownBlock := by
          intro q hq
          cases hk : q.k <;> rw [hk] at hq <;> first | rfl | exact hq.elim
        have := hinv.dist m hm m' hm' hne (hl m hm) (hl m' hm') g
        rw [hgo m h1, hgo m' h2] at this
        exact this hg
    obtain ⟨sl, rows, vs, b1, b2, b3, b4, b5⟩ := makeG_ok (cargs := cargs) hT hst hhow hlenρ sps [] s'.sl [] [] rfl hk trivial (fun v hv => by cases hv) List.Pairwise.nil fun u av hu hsp => by
      rw [List.append_nil]
      exact slotsAt u av hu hsp
    refine hQ s'.H sl rows vs listed a2 w2 b1 ⟨hinv.size, hinv.defers, b5, ?_, hs.keep.trans (Keep.of_below (hsame.trans hinv.same) (hs.lt hp))⟩ hinv.lsize hlist
    rw [hHl]
    exact hH.grow hinv.same.block (fun k hk hpr => hpr) b2 b4
theorem drawnM_ok (hT : TOK P T) (hG : GOKs P G) {ops : Array Oper} (hd : drawOk ops = true) {sps : List Sp} (hsps : sps = specials T 0 [] ops.toList) {p q : Nat} {Q : Exit → Act → World → Prop} {out : Out} {k : St → Option Nat → R} {id : Nat} {s : St} {M : Option Nat} {a : Act} {w : World} {ρ : List Value}
    (h : drawnM T G nt ops sps p q s M k = some out) (hs : SRu Pr w0 cargs nt M s a w ρ) (hQ : ∀ s' M' a' w' ρ', k s' M' = some out → SRu Pr w0 cargs nt M' s' a' w' ρ' → Q .normal a' w') : (Code.region id ops true).wp P Q a w := by
  unfold drawnM at h
  cases hsg : (noGhost sps && statM ops nt p q sps) with
  | false => rw [hsg] at h; cases h
  | true =>
    rw [hsg] at h
    simp only [cond_true] at h
    rw [Bool.and_eq_true] at hsg
    have hsm := hsg.2
    unfold statM at hsm
    rw [Bool.and_eq_true, Bool.and_eq_true, Bool.and_eq_true] at hsm
    obtain ⟨s1, s2, s3, s4⟩ := hsm
    have hpq := Nat.le_of_ble_eq_true s1
    have hql := Nat.le_of_ble_eq_true s2
    have hq : q ≤ ops.size := by simpa using hql
    have hbeh : ∀ (i : Nat) (o : Oper), ops.toList[i]? = some o → p ≤ i → ∀ j, j < i → j < q → Anc ops.toList j i := by
      intro i o ho hp j hj hjq
      have := behindQ_spec (all := ops.toList) s3 rfl (fun i o h => by rw [Nat.zero_add]; exact h) (fun k j hj => by simp at hj) i o ho (by omega) j (by omega) hjq
      rwa [Nat.zero_add] at this
    have hst := statSp_ok hd hsps (Nat.le_trans hpq hql) (fun i o ho hp j hj => hbeh i o ho hp j (by omega) (by omega)) s4
    obtain ⟨Pr', w1, h1, h2, h3, h4, h5⟩ := hs
    refine frontG_ok (kk := fun H' sl rows => opsU T G nt ops.toList ((ops.toList.take q).drop p) ⟨sl, H' ++ rows.map some⟩ M fun s2 M2 => opsK T true nt (idleM (List.range q) 0 (ops.toList.take ops.toList.length)) (idleM (List.range q) 0 (ops.toList.take ops.toList.length)) s2 fun s3 => k s3 M2) hT h2 hst hsg.1 h h4 fun H' sl rows vs listed a2 w2 hk hs2 hsz hl => ?_
    have hs3 : SRu Pr w0 cargs nt M ⟨sl, H' ++ rows.map some⟩ a2 w2 (ρ ++ vs) := ⟨Pr', w1, h1, h2, h3, hs2, fun r hr => by
      obtain ⟨v, g, b1, b2⟩ := h5 r hr
      exact ⟨v, g, by rw [List.getElem?_append_left (List.getElem?_eq_some_iff.1 b1).1]; exact b1, b2⟩⟩
    have hlen : ((ops.toList.take q).drop p).length = q - p := by
      rw [List.length_drop, List.length_take]
      simp at hql ⊢
      omega
    have := turnU_ok (Q := Q) hT hG hd hbeh hq ((ops.toList.take q).drop p) p _ M listed a2 w2 (ρ ++ vs) rfl (Nat.le_refl _) (by rw [hlen]; omega) hsz hl hk hs3 fun s' M' listed' a' w' ρ' hk' hs' hsz' hl' => tail_ok hT hd hq hk' hs' hsz' hl' fun s'' a'' w'' ρ'' hk'' hs'' => hQ s'' M' a'' w'' ρ'' hk'' hs''
    rw [hlen] at this
    rwa [show (ops.toList.drop p).length = q - p + (ops.size - q) by simp; omega]
end
end Go.Sm
namespace Go.Sm
open Go Go.RowKit
def findM : List (Nat × AV) → Option Nat
  | [] => none
  | (t, .fv (.mv _ _ _)) :: _ => some t
  | _ :: l => findM l
def eqOp : Option Nat → Option Nat → Bool
  | none, none => true
  | some a, some b => Nat.beq a b
  | _, _ => false
def eqPi : List (Option Nat) → List (Option Nat) → Bool
  | [], [] => true
  | a :: as, b :: bs => eqOp a b && eqPi as bs
  | _, _ => false
theorem eqOp_spec {a b : Option Nat} (h : eqOp a b = true) : a = b := by
  cases a <;> cases b <;> first | rfl | cases h | (rw [Nat.eq_of_beq_eq_true h])
theorem eqPi_spec : ∀ {a b : List (Option Nat)}, eqPi a b = true → a = b
  | [], [], _ => rfl
  | a :: as, b :: bs, h => by
    unfold eqPi at h
    rw [Bool.and_eq_true] at h
    rw [eqOp_spec h.1, eqPi_spec h.2]
  | [], _ :: _, h => by cases h
  | _ :: _, [], h => by cases h
def okM (r e : Nat) (π : List (Option Nat)) : AV → Bool
  | .fv (.mv r' e' π') => Nat.beq r r' && (Nat.beq e e' && eqPi π π')
  | .fv (.pm r' e' π' _) => Nat.beq r r' && (Nat.beq e e' && eqPi π π')
  | v => vfA v
def allM (r e : Nat) (π : List (Option Nat)) (sl : List (Nat × AV)) : Bool := sl.all fun x => okM r e π x.2
def hidden (π : List (Option Nat)) : List (Option Nat) := π.map fun _ => none
def drawnL (T : TT) (G : Nat → Option GF) (nt : Nat) (ops : Array Oper) (is1 p : Nat) (s : St) (M : Option Nat) (k : St → Option Nat → R) : R :=
  match findM s.sl with
  | none => none
  | some tm => match lk s.sl tm, ops.toList[is1]? with
    | some (.fv (.mv r e π)), some o => (match o.op, o.dst, o.guard with
      | .store t (.tmp a) (.tmp y), none, none => bif statS ops is1 p (ancsAt ops is1) then
          opsK T true nt (idleM (is1 :: restOf p is1 (ancsAt ops is1)) 0 (ops.toList.take p)) (idleM (is1 :: restOf p is1 (ancsAt ops is1)) 0 (ops.toList.take p)) ⟨clean (keepM r e π) [] s.sl, s.H⟩ fun s1 => match lk s1.sl a, lk s1.sl y, M with
            | some (.fv (.pm _ _ _ i)), some (.fv (.own j)), some r' => (match T.sl t, rowAt s1.H j with
              | some _, some _ => bif Nat.beq r r' && (decide (i < π.length) && allM r e π s1.sl) then
                  opsK T true nt (idleM (is1 :: ancsAt ops is1) 0 (ops.toList.take p)) (idleM (is1 :: ancsAt ops is1) 0 (ops.toList.take p)) ⟨clean (keepM r e (hidden π)) [] s1.sl, s1.H⟩ fun s2 => bif allM r e (hidden π) s2.sl then
                    opsU T G nt ops.toList ((ops.toList.take ops.toList.length).drop p) ⟨clean (keepM r e (π.set i (some j))) [] s2.sl, s2.H⟩ M k
                  else none
                else none
              | _, _ => none)
            | _, _, _ => none
        else none
      | _, _, _ => none)
    | _, _ => none
section
variable {P : Program} {T : TT} {G : Nat → Option GF} {Pr : Nat → Prop} {w0 : World} {cargs : List Value} {nt : Nat}
theorem okM_spec {r e : Nat} {π : List (Option Nat)} {v : AV} (h : okM r e π v = true) : vfA v = true ∧ ∀ w Pr ρ, MR w Pr ρ r e π → matA w Pr ρ v := by
  unfold okM at h
  split at h
  · rename_i r' e' π'
    rw [Bool.and_eq_true, Bool.and_eq_true] at h
    have h1 := Nat.eq_of_beq_eq_true h.1
    have h2 := Nat.eq_of_beq_eq_true h.2.1
    have h3 := eqPi_spec h.2.2
    subst h1 h2 h3
    exact ⟨rfl, fun _ _ _ h => h⟩
  · rename_i r' e' π' i
    rw [Bool.and_eq_true, Bool.and_eq_true] at h
    have h1 := Nat.eq_of_beq_eq_true h.1
    have h2 := Nat.eq_of_beq_eq_true h.2.1
    have h3 := eqPi_spec h.2.2
    subst h1 h2 h3
    exact ⟨rfl, fun _ _ _ h => h⟩
  · rename_i h1 h2
    refine ⟨h, fun w Pr ρ _ => ?_⟩
    cases v with
    | un => trivial
    | tup xs => trivial
    | fv x => cases x with
      | mv r e π => exact absurd rfl (h1 r e π)
      | pm r e π i => exact absurd rfl (h2 r e π i)
      | _ => trivial
theorem lk_in : ∀ {l : List (Nat × AV)} {t : Nat} {v : AV}, lk l t = some v → (t, v) ∈ l
  | [], _, _, h => by cases h
  | (t0, v0) :: l, t, v, h => by
    rw [lk_cons] at h
    split at h
    · rename_i e
      subst e
      cases h
      exact List.mem_cons_self
    · exact List.mem_cons_of_mem _ (lk_in h)
theorem allM_lk {r e : Nat} {π : List (Option Nat)} {sl : List (Nat × AV)} (h : allM r e π sl = true) {t : Nat} {v : AV} (hm : (t, v) ∈ sl) : okM r e π v = true := List.all_eq_true.1 h (t, v) hm
theorem Guard.sub {all : List Oper} {g : Option (Nat × Bool)} {s s1 : St} {b : Bool} (h : Guard all g s b s1) : ∀ x ∈ s.sl, x ∈ s1.sl := by
  cases h with
  | always h => exact fun _ h => h
  | test j want b o d h1 h2 h3 h4 => exact fun _ h => List.mem_cons_of_mem _ h
  | skip j want o d h1 h2 h3 h4 => exact fun _ h => h
theorem put_sub {s : St} {d : Option Nat} {av : AV} {H : Hp} : ∀ x ∈ s.sl, x ∈ (putS s d av H).sl := by
  cases d with
  | none => exact fun _ h => h
  | some d => exact fun _ h => List.mem_cons_of_mem _ h
theorem Path.mem {all os : List Oper} {s s' : St} {avs : List AV} (h : Path P all nt os s avs s') : (∀ x ∈ s.sl, x ∈ s'.sl) ∧ ∀ (j : Nat) (o : Oper) (av : AV) (u : Nat), os[j]? = some o → avs[j]? = some av → o.dst = some u → (u, av) ∈ s'.sl := by
  induction h with
  | nil s => exact ⟨fun _ h => h, fun j o av u h => by simp at h⟩
  | yes o os s s1 s' av avs h1 h2 h3 h4 ih =>
    refine ⟨fun x hx => ih.1 x (put_sub x (h2.sub x hx)), fun j o' av' u hj ha hd => ?_⟩
    cases j with
    | zero =>
      simp at hj ha
      subst hj ha
      refine ih.1 _ ?_
      rw [hd]
      exact List.mem_cons_self
    | succ j => exact ih.2 j o' av' u (by simpa using hj) (by simpa using ha) hd
  | no o os s s1 s' avs h1 h2 h4 ih =>
    refine ⟨fun x hx => ih.1 x (put_sub x (h2.sub x hx)), fun j o' av' u hj ha hd => ?_⟩
    cases j with
    | zero =>
      simp at hj ha
      subst hj ha
      refine ih.1 _ ?_
      rw [hd]
      exact List.mem_cons_self
    | succ j => exact ih.2 j o' av' u (by simpa using hj) (by simpa using ha) hd
theorem hidden_set {π : List (Option Nat)} {i : Nat} {x : Option Nat} : hidden (π.set i x) = hidden π := by
  unfold hidden
  apply List.ext_getElem?
  intro q
  rw [List.getElem?_map, List.getElem?_map, List.getElem?_set]
  by_cases h : i = q
  · subst h
    rw [if_pos rfl]
    by_cases hl : i < π.length
    · rw [if_pos hl, List.getElem?_eq_getElem hl]
      rfl
    · rw [if_neg hl, List.getElem?_eq_none (by omega)]
  · rw [if_neg h]
structure InvL (Pr Pr' : Nat → Prop) (w1 : World) (ρ : List Value) (nt : Nat) (ops : Array Oper) (p is1 r e : Nat) (π π' : List (Option Nat)) (A : List Nat) (H : Hp) (sl0 : List (Nat × AV)) (avs1 avs2 : List AV) (listed : Array Bool) (a : Act) (w : World) : Prop where
  size : a.tmps.size = nt
  defers : a.defers = []
  lsize : listed.size = ops.size
  bnd : ∀ k, Pr' k → k < w.heap.size
  keep : Keep Pr w1 w
  heap : HR w Pr' ρ H
  doneA : ∀ (j : Nat) (o : Oper) (av : AV) (u : Nat), (idleM (is1 :: restOf p is1 A) 0 (ops.toList.take p))[j]? = some o → avs1[j]? = some av → listed.getD j true = true → o.dst = some u → VFA ρ av (a.tmps.getD u undef)
  doneB : ∀ (j : Nat) (o : Oper) (av : AV) (u : Nat), (idleM (is1 :: A) 0 (ops.toList.take p))[j]? = some o → avs2[j]? = some av → listed.getD j true = true → o.dst = some u → VFA ρ av (a.tmps.getD u undef)
  still : ∀ (u : Nat) (v : AV), lk sl0 u = some v → (∀ (j : Nat) (o : Oper), j < p → ops.toList[j]? = some o → o.dst = some u → listed.getD j true = false) → VFA ρ v (a.tmps.getD u undef)
  down : ∀ (j : Nat) (o : Oper), ops.toList[j]? = some o → listed.getD j true = true → ∀ e ∈ o.after, Region.binds .any e = true → listed.getD e.on true = true
  suf : ∀ i, p ≤ i → i < ops.size → listed.getD i true = false
  m0 : listed.getD is1 true = false → MR w Pr' ρ r e π
  m1 : listed.getD is1 true = true → MR w Pr' ρ r e π'
theorem invL_quiet {Pr' : Nat → Prop} {ops : Array Oper} {p is1 r e : Nat} {π π' : List (Option Nat)} {A : List Nat} {t a0 : Nat} {y : Operand} (hst : StatS ops is1 p A t a0 y) {H : Hp} {sl0 : List (Nat × AV)} {avs1 avs2 : List AV} {w1 : World} {ρ : List Value} (hsub : ∀ k, Pr k → Pr' k)
    {listed : Array Bool} {a : Act} {w : World} (hinv : InvL Pr Pr' w1 ρ nt ops p is1 r e π π' A H sl0 avs1 avs2 listed a w) {i : Nat} {o : Oper} (ho : ops.toList[i]? = some o) (hip : i < p) (his : i ≠ is1) (hun : listed.getD i true = false)
    (hall : ∀ e ∈ o.after, Region.binds .any e = true → listed.getD e.on true = true) (hdst : dstOk nt o.dst = true) {av : AV} (hA : i ∉ is1 :: restOf p is1 A → avs1[i]? = some av) (hB : i ∉ is1 :: A → avs2[i]? = some av)
    {v : Value} {w' : World} (hv1 : ∀ u, o.dst = some u → VFA ρ av v) (hs : Same w w') : InvL Pr Pr' w1 ρ nt ops p is1 r e π π' A H sl0 avs1 avs2 (listed.setIfInBounds i true) (a.put o.dst v) w' := by
  have hil' : i < listed.size := by rw [hinv.lsize]; exact lt_size ho
  have spec := draw_spec (all := ops) (n := 0) hst.draw
  simp only [Nat.zero_add] at spec
  have hgd : ∀ (u : Nat), (a.put o.dst v).tmps.getD u undef = if o.dst = some u then v else a.tmps.getD u undef := by
    intro u
    cases hd : o.dst with
    | none => simp [Act.put]
    | some d' =>
      have hlt' : d' < a.tmps.size := by rw [hinv.size]; rw [hd] at hdst; exact of_decide_eq_true hdst
      simp only [Act.put]
      rw [getD_set _ _ _ _ hlt']
      simp
  have hother : ∀ (j : Nat) (o' : Oper) (u : Nat), j ≠ i → ops.toList[j]? = some o' → o'.dst = some u → o.dst ≠ some u := by
    intro j o' u hne hj' hd
    rcases Nat.lt_or_gt_of_ne hne with h | h
    · exact fun h2 => (pair_spec ((spec j o' hj').2 i o h ho)).2 u hd h2
    · intro h2; exact (pair_spec ((spec i o ho).2 j o' h hj')).2 u h2 hd
  have hl1 : (listed.setIfInBounds i true).getD is1 true = listed.getD is1 true := by
    rw [getD_listed hil', if_neg his]
  refine ⟨?_, ?_, by simp [hinv.lsize], fun k hk => Nat.lt_of_lt_of_le (hinv.bnd k hk) hs.size, hinv.keep.trans (Keep.of_below hs fun k hk => hinv.bnd k (hsub k hk)), hinv.heap.keep hs.block, fun j o' av' u hj ha hl hd => ?_, fun j o' av' u hj ha hl hd => ?_, fun u v' hu hno => ?_, fun j o' hj hl e' he' hb' => ?_, fun j h1 h2 => ?_, fun h => ?_, fun h => ?_⟩
  · cases o.dst <;> simp [Act.put, hinv.size]
  · cases o.dst <;> exact hinv.defers
  · rw [hgd u]
    obtain ⟨_, hj', hnm⟩ := frontM_real hj hd
    by_cases e' : j = i
    · subst e'
      rw [ho] at hj'
      cases hj'
      rw [hA hnm] at ha
      cases ha
      rw [if_pos hd]
      exact hv1 u hd
    · rw [if_neg (hother j o' u e' hj' hd)]
      rw [getD_listed hil', if_neg (Ne.symm e')] at hl
      exact hinv.doneA j o' av' u hj ha hl hd
  · rw [hgd u]
    obtain ⟨_, hj', hnm⟩ := frontM_real hj hd
    by_cases e' : j = i
    · subst e'
      rw [ho] at hj'
      cases hj'
      rw [hB hnm] at ha
      cases ha
      rw [if_pos hd]
      exact hv1 u hd
    · rw [if_neg (hother j o' u e' hj' hd)]
      rw [getD_listed hil', if_neg (Ne.symm e')] at hl
      exact hinv.doneB j o' av' u hj ha hl hd
  · rw [hgd u]
    have hne : o.dst ≠ some u := by
      intro h2
      have := hno i o hip ho h2
      rw [getD_listed hil', if_pos rfl] at this
      cases this
    rw [if_neg hne]
    refine hinv.still u v' hu fun j o' hjp hj hd => ?_
    have := hno j o' hjp hj hd
    rw [getD_listed hil'] at this
    split at this
    · cases this
    · exact this
  · rw [getD_listed hil'] at hl ⊢
    split
    · rfl
    · by_cases e2 : i = j
      · subst e2
        rw [ho] at hj
        cases hj
        exact hall e' he' hb'
      · rw [if_neg e2] at hl
        exact hinv.down j o' hj hl e' he' hb'
  · rw [getD_listed hil', if_neg (by omega)]
    exact hinv.suf j h1 h2
  · rw [hl1] at h
    exact (hinv.m0 h).keep (fun k hk => hs.block k (hinv.bnd k hk)) fun _ _ h => h
  · rw [hl1] at h
    exact (hinv.m1 h).keep (fun k hk => hs.block k (hinv.bnd k hk)) fun _ _ h => h
theorem invL_step (hT : TOK P T) {Pr' : Nat → Prop} {ops : Array Oper} {p is1 r e t a0 y0 i0 j0 e0 g : Nat} {π : List (Option Nat)} {A : List Nat} (hst : StatS ops is1 p A t a0 (.tmp y0)) {H : Hp} {sl0 : List (Nat × AV)} {s1 s2 : St} {avs1 avs2 : List AV} {r1 e1 : Nat} {π1 : List (Option Nat)} {row : Row} {vr : Value}
    (hpath1 : Path P (idleM (is1 :: restOf p is1 A) 0 (ops.toList.take p)) nt (idleM (is1 :: restOf p is1 A) 0 (ops.toList.take p)) ⟨sl0, H⟩ avs1 s1)
    (hpath2 : Path P (idleM (is1 :: A) 0 (ops.toList.take p)) nt (idleM (is1 :: A) 0 (ops.toList.take p)) ⟨clean (keepM r e (hidden π)) [] s1.sl, H⟩ avs2 s2)
    (hm1 : allM r e π s1.sl = true) (hm2 : allM r e (hidden π) s2.sl = true) (hla : lk s1.sl a0 = some (.fv (.pm r1 e1 π1 i0))) (hly : lk s1.sl y0 = some (.fv (.own j0))) (hsl : T.sl t = some e0) (hrow : rowAt H j0 = some row) (hi0 : i0 < π.length)
    {w1 : World} {ρ : List Value} (hsub : ∀ k, Pr k → Pr' k) (hvr : ρ[r]? = some vr) (hg : vr.ownBlock = some g) (hng : ¬ Pr g)
    {listed : Array Bool} {a : Act} {w : World} (hinv : InvL Pr Pr' w1 ρ nt ops p is1 r e π (π.set i0 (some j0)) A H sl0 avs1 avs2 listed a w) {i : Nat} (hr : i ∈ Region.ready .any ops listed) (hip : i < p) {Q : Exit → Act → World → Prop} {K : Act → World → Prop}
    (hK : ∀ a2 w2, InvL Pr Pr' w1 ρ nt ops p is1 r e π (π.set i0 (some j0)) A H sl0 avs1 avs2 (listed.setIfInBounds i true) a2 w2 → K a2 w2) : wpOp P ops Q i K a w := by
  obtain ⟨hun, o, ho, hall⟩ := mem_ready.1 hr
  have ho' : ops.toList[i]? = some o := by rw [← ho]; simp
  have hil' : i < listed.size := by rw [hinv.lsize]; exact lt_size ho'
  have spec := draw_spec (all := ops) (n := 0) hst.draw
  simp only [Nat.zero_add] at spec
  have hall' : ∀ e ∈ o.after, Region.binds .any e = true → listed.getD e.on true = true := fun e he hb => getD_false (hall e he hb)
  have hmem : ∀ u, optIn (some u) (o.looksAt ops) = true → u ∈ o.looksAt ops := fun u h => memN_iff.1 h
  have hhid : MR w Pr' ρ r e (hidden π) := by
    cases hb : listed.getD is1 true with
    | false => exact (hinv.m0 hb).hide
    | true =>
      have := (hinv.m1 hb).hide
      rw [show (π.set i0 (some j0)).map (fun _ => none) = hidden π from hidden_set] at this
      exact this
  have pairS : ∀ (j : Nat) (o' : Oper) (u : Nat), ops.toList[j]? = some o' → o'.dst = some u → u ∈ o.looksAt ops → (j < i ∧ listed.getD j true = true ∧ ∃ e ∈ o.after, Region.binds .any e = true ∧ e.on = j) ∨ j = i ∨ (i < j ∧ listed.getD j true = false ∧ ∃ e ∈ o'.after, Region.binds .any e = true ∧ e.on = i) := by
    intro j o' u hj hd hu
    rcases Nat.lt_trichotomy j i with h | h | h
    · refine .inl ⟨h, ?_⟩
      rcases (pair_spec ((spec j o' hj).2 i o h ho')).1 with ⟨e', he', hb', hon⟩ | ⟨hno, _⟩
      · refine ⟨?_, e', he', hb', hon⟩
        rw [← hon]
        exact hall' e' he' hb'
      · exact absurd hu (hno u hd)
    · exact .inr (.inl h)
    · refine .inr (.inr ⟨h, ?_⟩)
      rcases (pair_spec ((spec i o ho').2 j o' h hj)).1 with ⟨e', he', hb', hon⟩ | ⟨_, hno⟩
      · refine ⟨?_, e', he', hb', hon⟩
        cases hl : listed.getD j true with
        | false => rfl
        | true =>
          have := hinv.down j o' hj hl e' he' hb'
          rw [hon, hun] at this
          cases this
      · exact absurd hu (hno u hd)
  unfold wpOp
  rw [ho]
  dsimp only
  by_cases his : i = is1
  · -- THE WRITE
    subst his
    obtain ⟨o2, ho2, hop, hdst, hgd⟩ := hst.st
    rw [ho'] at ho2
    cases ho2
    have hw : Region.wanted o (yielded ops a.tmps) = true := by unfold Region.wanted; rw [hgd]
    rw [if_pos hw]
    have hlook : ∀ u, u ∈ o.looksAt ops → ∀ v, lk s1.sl u = some v → AVR w Pr' ρ [] v (a.tmps.getD u undef) := by
      intro u hu v hv
      obtain ⟨k1, k2⟩ := okM_spec (allM_lk hm1 (lk_in hv))
      refine VFA.to k1 ?_ (k2 _ _ _ (hinv.m0 hun))
      rcases hpath1.final hv with ⟨j, o', h1, h2, h3⟩ | ⟨h1, h2⟩
      · obtain ⟨hjp, hj, hne⟩ := frontM_real h1 h2
        refine hinv.doneA j o' v u h1 h3 ?_ h2
        rcases pairS j o' u hj h2 hu with h8 | h8 | h8
        · exact h8.2.1
        · exact absurd (List.mem_cons.2 (.inl h8)) hne
        · obtain ⟨_, _, e', he', hb', hon⟩ := h8
          have hjA : j ∈ A := by
            refine Classical.byContradiction fun hna => hne (List.mem_cons_of_mem _ (rest_mem.2 ⟨hjp, hna, fun e => hne (List.mem_cons.2 (.inl e))⟩))
          exact anc_ready hinv.down (hst.anc j hjA) ho' hall'
      · refine hinv.still u v h1 fun j o' hjp hj hd => ?_
        rcases pairS j o' u hj hd hu with h8 | h8 | h8
        · obtain ⟨_, _, e', he', hb', hon⟩ := h8
          have hjA : j ∈ A := by rw [← hon]; exact hst.clos i o (.inl rfl) ho' e' he' hb'
          refine absurd hd (h2 j o' (frontM_of hjp hj fun hm => ?_))
          rcases List.mem_cons.1 hm with h9 | h9
          · subst h9
            rw [ho'] at hj
            cases hj
            rw [hdst] at hd
            cases hd
          · exact (rest_mem.1 h9).2.1 hjA
        · subst h8
          exact hun
        · exact h8.2.1
    have hlooks := looks_store (ops := ops) hop
    have ha : FVR w Pr' ρ [] (.pm r1 e1 π1 i0) (a.eval (.tmp a0)) := hlook a0 hlooks.1 _ hla
    have hy : ρ[j0]? = some (a.eval (.tmp y0)) := hlook y0 hlooks.2 _ hly
    have heq : r1 = r ∧ e1 = e ∧ π1 = π := by
      have := allM_lk hm1 (lk_in hla)
      unfold okM at this
      rw [Bool.and_eq_true, Bool.and_eq_true] at this
      exact ⟨(Nat.eq_of_beq_eq_true this.1).symm, (Nat.eq_of_beq_eq_true this.2.1).symm, (eqPi_spec this.2.2).symm⟩
    obtain ⟨rfl, rfl, rfl⟩ := heq
    refine .inl ((mstore_run (cargs := []) hT hop hsl a hinv.heap ha hy hrow hi0 hvr hg).wp ?_)
    rintro v w' ⟨c1, c2, c3, c4, c5, c6, c7, c8⟩
    rw [hdst]
    refine hK _ _ ⟨hinv.size, hinv.defers, by simp [hinv.lsize], fun k hk => by rw [c8]; exact hinv.bnd k hk, hinv.keep.trans ⟨c5, c6, c7, by rw [c8]; exact Nat.le_refl _, fun k hk => c4 k fun e => hng (e ▸ hk)⟩, c2, fun j o' av' u hj ha hl hd => ?_, fun j o' av' u hj ha hl hd => ?_, fun u v' hu hno => ?_, fun j o' hj hl e' he' hb' => ?_, fun j h1 h2 => ?_, fun h => ?_, fun _ => c3⟩
    · obtain ⟨_, _, hnm⟩ := frontM_real hj hd
      have hji : ¬ i = j := fun e => hnm (List.mem_cons.2 (.inl e.symm))
      rw [getD_listed hil', if_neg hji] at hl
      exact hinv.doneA j o' av' u hj ha hl hd
    · obtain ⟨_, _, hnm⟩ := frontM_real hj hd
      have hji : ¬ i = j := fun e => hnm (List.mem_cons.2 (.inl e.symm))
      rw [getD_listed hil', if_neg hji] at hl
      exact hinv.doneB j o' av' u hj ha hl hd
    · refine hinv.still u v' hu fun j o' hjp hj hd => ?_
      have := hno j o' hjp hj hd
      rw [getD_listed hil'] at this
      split at this
      · cases this
      · exact this
    · rw [getD_listed hil'] at hl ⊢
      split
      · rfl
      · by_cases e2 : i = j
        · subst e2
          rw [ho'] at hj
          cases hj
          exact hall' e' he' hb'
        · rw [if_neg e2] at hl
          exact hinv.down j o' hj hl e' he' hb'
    · rw [getD_listed hil', if_neg (by omega)]
      exact hinv.suf j h1 h2
    · rw [getD_listed hil', if_pos rfl] at h
      cases h
  · by_cases hiA : i ∈ A
    · -- WHAT THE WRITE WAITS FOR
      have hnm : i ∉ is1 :: restOf p is1 A := fun hm => by
        rcases List.mem_cons.1 hm with h | h
        · exact his h
        · exact (rest_mem.1 h).2.1 hiA
      have hoi := frontM_of hip ho' hnm
      obtain ⟨av, hav⟩ : ∃ av, avs1[i]? = some av := ⟨_, List.getElem?_eq_getElem (by rw [hpath1.len, idleM_len, List.length_take]; have := lt_size ho'; simp; omega)⟩
      obtain ⟨hdst, si, sx, hsH, hstep, hslots⟩ := hpath1.at hoi hav
      have hun1 : listed.getD is1 true = false := by
        cases hb : listed.getD is1 true with
        | false => rfl
        | true =>
          have := anc_listed hinv.down (hst.anc i hiA) hb
          rw [hun] at this
          cases this
      have hlook : ∀ u, u ∈ o.looksAt ops → ∀ v, lk si.sl u = some v → AVR w Pr' ρ [] v (a.tmps.getD u undef) := by
        intro u hu v hv
        have key : okM r e π v = true ∧ VFA ρ v (a.tmps.getD u undef) := by
          rcases hslots u v hv with ⟨j, o', h1, h2, h3, h4⟩ | ⟨h1, h2⟩
          · obtain ⟨hjp, h2', _⟩ := frontM_real h2 h3
            refine ⟨allM_lk hm1 (hpath1.mem.2 j o' v u h2 h4 h3), hinv.doneA j o' v u h2 h4 ?_ h3⟩
            rcases pairS j o' u h2' h3 hu with h8 | h8 | h8
            · exact h8.2.1
            · omega
            · omega
          · refine ⟨allM_lk hm1 (hpath1.mem.1 _ (lk_in h1)), hinv.still u v h1 fun j o' hjp hj hd => ?_⟩
            rcases pairS j o' u hj hd hu with h8 | h8 | h8
            · obtain ⟨hji, _, e', he', hb', hon⟩ := h8
              have hjA : j ∈ A := by rw [← hon]; exact hst.clos i o (.inr hiA) ho' e' he' hb'
              refine absurd hd (h2 j o' hji (frontM_of hjp hj fun hm => ?_))
              rcases List.mem_cons.1 hm with h9 | h9
              · subst h9
                obtain ⟨o3, ho3, _, hd3, _⟩ := hst.st
                rw [hj] at ho3
                cases ho3
                rw [hd3] at hd
                cases hd
              · exact (rest_mem.1 h9).2.1 hjA
            · subst h8; exact hun
            · exact h8.2.1
        obtain ⟨k1, k2⟩ := okM_spec key.1
        exact VFA.to k1 key.2 (k2 _ _ _ (hinv.m0 hun1))
      have hnext : ∀ (v : Value) (w' : World), AVR w Pr' ρ [] av v → Same w w' → K (a.put o.dst v) w' := fun v w' hv hs =>
        hK _ _ (invL_quiet hst hsub hinv ho' hip his hun hall' hdst (fun _ => hav) (fun h => absurd (List.mem_cons_of_mem _ hiA) h) (fun u hd => VFA.of (okM_spec (allM_lk hm1 (hpath1.mem.2 i o av u hoi hav hd))).1 hv) hs)
      rcases hstep with ⟨hg', hq⟩ | ⟨hg', rfl⟩
      · rw [if_pos (hg'.frontM.wanted (w := w) (Pr := Pr') (ρ := ρ) (cargs := []) fun u hd v hv => hlook u (hmem u hd) v hv)]
        refine .inl ((hq a w Pr' ρ [] hinv.bnd ?_ (Opd.of_slots fun u hu v hv => ?_)).wp fun v w' ⟨h1, h2⟩ => hnext v w' h1 h2)
        · rw [hg'.same.2, hsH]
          exact hinv.heap
        · refine hlook u ?_ v (by rw [← hg'.same.1 u]; exact hv)
          unfold Oper.looksAt
          refine List.mem_append_left _ (List.mem_filterMap.2 ⟨.tmp u, by simpa using hu, rfl⟩)
      · rw [if_neg (by rw [hg'.frontM.wanted (w := w) (Pr := Pr') (ρ := ρ) (cargs := []) fun u hd v hv => hlook u (hmem u hd) v hv]; exact Bool.false_ne_true)]
        exact hnext undef w rfl (Same.refl w)
    · -- THE OTHERS
      have hnm : i ∉ is1 :: A := fun hm => by
        rcases List.mem_cons.1 hm with h | h
        · exact his h
        · exact hiA h
      have hoi := frontM_of hip ho' hnm
      obtain ⟨av, hav⟩ : ∃ av, avs2[i]? = some av := ⟨_, List.getElem?_eq_getElem (by rw [hpath2.len, idleM_len, List.length_take]; have := lt_size ho'; simp; omega)⟩
      obtain ⟨hdst, si, sx, hsH, hstep, hslots⟩ := hpath2.at hoi hav
      have hlook : ∀ u, u ∈ o.looksAt ops → ∀ v, lk si.sl u = some v → AVR w Pr' ρ [] v (a.tmps.getD u undef) := by
        intro u hu v hv
        rcases hslots u v hv with ⟨j, o', h1, h2, h3, h4⟩ | ⟨h1, h2⟩
        · obtain ⟨hjp, h2', _⟩ := frontM_real h2 h3
          obtain ⟨k1, k2⟩ := okM_spec (allM_lk hm2 (hpath2.mem.2 j o' v u h2 h4 h3))
          refine VFA.to k1 (hinv.doneB j o' v u h2 h4 ?_ h3) (k2 _ _ _ hhid)
          rcases pairS j o' u h2' h3 hu with h8 | h8 | h8
          · exact h8.2.1
          · omega
          · omega
        · obtain ⟨_, v0, d1, d2⟩ := clean_lk h1
          obtain ⟨q1, q2, q3, q4⟩ := keepM_spec d2
          refine VFA.to q2 (q3 _ _ ?_) (q4 _ _ _ hhid)
          have noB : ∀ (j : Nat) (o' : Oper), j < p → ops.toList[j]? = some o' → o'.dst = some u → j ∉ A → j ≠ is1 → listed.getD j true = false := by
            intro j o' hjp hj hd hjA hjs
            rcases pairS j o' u hj hd hu with h8 | h8 | h8
            · exact absurd hd (h2 j o' h8.1 (frontM_of hjp hj fun hm => (List.mem_cons.1 hm).elim hjs hjA))
            · subst h8; exact hun
            · exact h8.2.1
          rcases hpath1.final d1 with ⟨j, o', f1, f2, f3⟩ | ⟨f1, f2⟩
          · obtain ⟨hjp, hj, hne⟩ := frontM_real f1 f2
            have hjA : j ∈ A := Classical.byContradiction fun hna => hne (List.mem_cons_of_mem _ (rest_mem.2 ⟨hjp, hna, fun e => hne (List.mem_cons.2 (.inl e))⟩))
            refine hinv.doneA j o' v0 u f1 f3 ?_ f2
            rcases pairS j o' u hj f2 hu with h8 | h8 | h8
            · exact h8.2.1
            · subst h8; exact absurd hjA hiA
            · obtain ⟨_, _, e', he', hb', hon⟩ := h8
              refine absurd ?_ hiA
              rw [← hon]
              exact hst.clos j o' (.inr hjA) hj e' he' hb'
          · refine hinv.still u v0 f1 fun j o' hjp hj hd => ?_
            by_cases hjs : j = is1
            · subst hjs
              obtain ⟨o3, ho3, _, hd3, _⟩ := hst.st
              rw [hj] at ho3
              cases ho3
              rw [hd3] at hd
              cases hd
            · by_cases hjA : j ∈ A
              · refine absurd hd (f2 j o' (frontM_of hjp hj fun hm => ?_))
                rcases List.mem_cons.1 hm with h9 | h9
                · exact hjs h9
                · exact (rest_mem.1 h9).2.1 hjA
              · exact noB j o' hjp hj hd hjA hjs
      have hnext : ∀ (v : Value) (w' : World), AVR w Pr' ρ [] av v → Same w w' → K (a.put o.dst v) w' := fun v w' hv hs =>
        hK _ _ (invL_quiet hst hsub hinv ho' hip his hun hall' hdst (fun h => absurd (List.mem_cons_of_mem _ (rest_mem.2 ⟨hip, hiA, his⟩)) h) (fun _ => hav) (fun u hd => VFA.of (okM_spec (allM_lk hm2 (hpath2.mem.2 i o av u hoi hav hd))).1 hv) hs)
      rcases hstep with ⟨hg', hq⟩ | ⟨hg', rfl⟩
      · rw [if_pos (hg'.frontM.wanted (w := w) (Pr := Pr') (ρ := ρ) (cargs := []) fun u hd v hv => hlook u (hmem u hd) v hv)]
        refine .inl ((hq a w Pr' ρ [] hinv.bnd ?_ (Opd.of_slots fun u hu v hv => ?_)).wp fun v w' ⟨h1, h2⟩ => hnext v w' h1 h2)
        · rw [hg'.same.2, hsH]
          exact hinv.heap
        · refine hlook u ?_ v (by rw [← hg'.same.1 u]; exact hv)
          unfold Oper.looksAt
          refine List.mem_append_left _ (List.mem_filterMap.2 ⟨.tmp u, by simpa using hu, rfl⟩)
      · rw [if_neg (by rw [hg'.frontM.wanted (w := w) (Pr := Pr') (ρ := ρ) (cargs := []) fun u hd v hv => hlook u (hmem u hd) v hv]; exact Bool.false_ne_true)]
        exact hnext undef w rfl (Same.refl w)
theorem invL_any (hT : TOK P T) {Pr' : Nat → Prop} {ops : Array Oper} {p is1 r e t a0 y0 i0 j0 e0 g : Nat} {π : List (Option Nat)} {A : List Nat} (hst : StatS ops is1 p A t a0 (.tmp y0)) {H : Hp} {sl0 : List (Nat × AV)} {s1 s2 : St} {avs1 avs2 : List AV} {r1 e1 : Nat} {π1 : List (Option Nat)} {row : Row} {vr : Value}
    (hpath1 : Path P (idleM (is1 :: restOf p is1 A) 0 (ops.toList.take p)) nt (idleM (is1 :: restOf p is1 A) 0 (ops.toList.take p)) ⟨sl0, H⟩ avs1 s1)
    (hpath2 : Path P (idleM (is1 :: A) 0 (ops.toList.take p)) nt (idleM (is1 :: A) 0 (ops.toList.take p)) ⟨clean (keepM r e (hidden π)) [] s1.sl, H⟩ avs2 s2)
    (hm1 : allM r e π s1.sl = true) (hm2 : allM r e (hidden π) s2.sl = true) (hla : lk s1.sl a0 = some (.fv (.pm r1 e1 π1 i0))) (hly : lk s1.sl y0 = some (.fv (.own j0))) (hsl : T.sl t = some e0) (hrow : rowAt H j0 = some row) (hi0 : i0 < π.length)
    {w1 : World} {ρ : List Value} (hsub : ∀ k, Pr k → Pr' k) (hvr : ρ[r]? = some vr) (hg : vr.ownBlock = some g) (hng : ¬ Pr g)
    {Q : Exit → Act → World → Prop} (hQ : ∀ (listed : Array Bool) (a : Act) (w : World), InvL Pr Pr' w1 ρ nt ops p is1 r e π (π.set i0 (some j0)) A H sl0 avs1 avs2 listed a w → (∀ j, j < ops.size → (listed.getD j true = true ↔ j < p)) → wpAny P .any ops Q (ops.toList.drop p).length listed a w) :
    ∀ (fuel : Nat) (left : List Nat) (listed : Array Bool) (a : Act) (w : World), left.length = fuel → left.Nodup → (∀ i, i ∈ left ↔ i < p ∧ listed.getD i true = false) → InvL Pr Pr' w1 ρ nt ops p is1 r e π (π.set i0 (some j0)) A H sl0 avs1 avs2 listed a w → wpAny P .any ops Q (fuel + (ops.toList.drop p).length) listed a w := by
  have hpl : p ≤ ops.size := by simpa using hst.pl
  intro fuel
  induction fuel with
  | zero =>
    intro left listed a w hl hn hleft hinv
    have hnil : left = [] := List.eq_nil_of_length_eq_zero hl
    subst hnil
    rw [Nat.zero_add]
    refine hQ listed a w hinv fun j hj => ?_
    constructor
    · intro h
      rcases Nat.lt_or_ge j p with h2 | h2
      · exact h2
      · rw [hinv.suf j h2 hj] at h; cases h
    · intro h
      cases hb : listed.getD j true with
      | true => rfl
      | false => exact absurd ((hleft j).2 ⟨h, hb⟩) (by simp)
  | succ fuel ih =>
    intro left listed a w hl hn hleft hinv
    have hex : ∃ i, i ∈ left := by
      cases left with
      | nil => simp at hl
      | cons i l => exact ⟨i, by simp⟩
    rw [show fuel + 1 + (ops.toList.drop p).length = fuel + (ops.toList.drop p).length + 1 by omega]
    refine ⟨fun hempty => ?_, fun i hi => ?_⟩
    · exfalso
      obtain ⟨i0, hi0⟩ := hex
      have hmin : ∃ i, i ∈ left ∧ ∀ j, j < i → j ∉ left := by
        have key : ∀ n i, i ≤ n → i ∈ left → ∃ i, i ∈ left ∧ ∀ j, j < i → j ∉ left := by
          intro n
          induction n with
          | zero => intro i hi him; exact ⟨i, him, fun j hj => by omega⟩
          | succ n ihn =>
            intro i hi him
            by_cases h : ∃ j, j < i ∧ j ∈ left
            · obtain ⟨j, hj, hjm⟩ := h
              exact ihn j (by omega) hjm
            · exact ⟨i, him, fun j hj hjm => h ⟨j, hj, hjm⟩⟩
        exact key i0 i0 (Nat.le_refl _) hi0
      obtain ⟨i, him, hmini⟩ := hmin
      obtain ⟨hlt, hun⟩ := (hleft i).1 him
      obtain ⟨o, ho⟩ : ∃ o, ops[i]? = some o := ⟨_, Array.getElem?_eq_getElem (by omega)⟩
      have ho' : ops.toList[i]? = some o := by rw [← ho]; simp
      have hready : i ∈ Region.ready .any ops listed := by
        refine mem_ready.2 ⟨hun, o, ho, fun e he hb => ?_⟩
        have hon := (draw_spec (all := ops) (n := 0) hst.draw i o ho').1 e he hb
        simp only [Nat.zero_add] at hon
        have hnl : e.on ∉ left := hmini _ hon
        have htrue : listed.getD e.on true = true := by
          cases hb2 : listed.getD e.on true with
          | true => rfl
          | false => exact absurd ((hleft _).2 ⟨by omega, hb2⟩) hnl
        have hls : e.on < listed.size := by rw [hinv.lsize]; omega
        simp [Array.getD, hls] at htrue ⊢
        exact htrue
      rw [hempty] at hready
      cases hready
    · obtain ⟨h1, o, ho, hall⟩ := mem_ready.1 hi
      have ho' : ops.toList[i]? = some o := by rw [← ho]; simp
      have hlt := lt_size ho'
      have hip : i < p := by
        rcases Nat.lt_or_ge i p with h2 | h2
        · exact h2
        · exfalso
          obtain ⟨j, hj⟩ := hex
          obtain ⟨hjp, hju⟩ := (hleft j).1 hj
          have := anc_ready hinv.down (hst.behind i o ho' h2 j (by omega)) ho' (fun e he hb => getD_false (hall e he hb))
          rw [hju] at this
          cases this
      have him : i ∈ left := (hleft i).2 ⟨hip, h1⟩
      refine invL_step hT hst hpath1 hpath2 hm1 hm2 hla hly hsl hrow hi0 hsub hvr hg hng hinv hi hip fun a2 w2 hinv' => ih (left.erase i) _ a2 w2 ?_ (hn.erase i) (fun j => ?_) hinv'
      · rw [List.length_erase_of_mem him, hl]; rfl
      · rw [hn.mem_erase_iff, hleft j, getD_listed (by rw [hinv.lsize]; exact hlt)]
        constructor
        · rintro ⟨hne, h2, h3⟩; exact ⟨h2, by rw [if_neg (Ne.symm hne)]; exact h3⟩
        · rintro ⟨h2, h3⟩
          split at h3
          · cases h3
          · rename_i e; exact ⟨Ne.symm e, h2, h3⟩
theorem drawnL_ok (hT : TOK P T) (hG : GOKs P G) {ops : Array Oper} (hd : drawOk ops = true) {is1 p : Nat} {Q : Exit → Act → World → Prop} {out : Out} {k : St → Option Nat → R} {id : Nat} {s : St} {M : Option Nat} {a : Act} {w : World} {ρ : List Value}
    (h : drawnL T G nt ops is1 p s M k = some out) (hs : SRu Pr w0 cargs nt M s a w ρ) (hQ : ∀ s' M' a' w' ρ', k s' M' = some out → SRu Pr w0 cargs nt M' s' a' w' ρ' → Q .normal a' w') : (Code.region id ops true).wp P Q a w := by
  unfold drawnL at h
  split at h
  · cases h
  · rename_i tm _
    split at h
    · rename_i r e π o htm ho
      split at h
      · rename_i t a0 y0 hop hdst hgd
        cases hsg : statS ops is1 p (ancsAt ops is1) with
        | false => rw [hsg] at h; cases h
        | true =>
          rw [hsg] at h
          simp only [cond_true] at h
          have hst := statS_ok hd ⟨o, ho, hop, hdst, hgd⟩ hsg
          obtain ⟨avs1, s1, hpath1, h⟩ := opsK_path hT _ _ h
          have hH1 : s1.H = s.H := hpath1.heap
          split at h
          · rename_i r1 e1 π1 i0 j0 r' hla hly _
            split at h
            · rename_i e0 row hsl hrow
              cases hc : (Nat.beq r r' && (decide (i0 < π.length) && allM r e π s1.sl)) with
              | false => rw [hc] at h; cases h
              | true =>
                rw [hc] at h
                rw [Bool.and_eq_true, Bool.and_eq_true] at hc
                obtain ⟨c1, c2, c3⟩ := hc
                have := Nat.eq_of_beq_eq_true c1
                subst this
                simp only [cond_true] at h
                obtain ⟨avs2, s2, hpath2, h⟩ := opsK_path hT _ _ h
                cases hm2 : allM r e (hidden π) s2.sl with
                | false => rw [hm2] at h; cases h
                | true =>
                  rw [hm2] at h
                  simp only [cond_true] at h
                  have hH2 : s2.H = s.H := hpath2.heap.trans hH1
                  rw [hH1] at hpath2 hrow
                  obtain ⟨Pr', w1, h1, h2, h3, h4, h5⟩ := hs
                  obtain ⟨vr, g, b1, b2, b3, b4⟩ := h5 r rfl
                  have hpl : p ≤ ops.size := by simpa using hst.pl
                  have hsame : Same w { w with drawn := w.drawn + 1 } := Same.drew w
                  have hpw : ∀ k, Pr' k → k < ({ w with drawn := w.drawn + 1 } : World).heap.size := h4.lt h2
                  have hH : HR ({ w with drawn := w.drawn + 1 } : World) Pr' ρ s.H := h4.heap.keep hsame.block
                  have hdl : (ops.toList.drop p).length = ops.size - p := by simp
                  have hfalse : ∀ (j : Nat), (Array.replicate ops.size false).getD j true = true → j < ops.size → False := by
                    intro j h1 h2
                    simp [Array.getD, h2] at h1
                  have hi1 : is1 < ops.size := lt_size ho
                  have hMR : MR ({ w with drawn := w.drawn + 1 } : World) Pr' ρ r e π := by
                    have : FVR w Pr' ρ cargs (.mv r e π) (a.tmps.getD tm undef) := h4.slots tm _ htm
                    exact this.2.keep (fun k hk => rfl) fun _ _ h => h
                  refine wp_region_any hT.mo ?_
                  have start : InvL Pr Pr' ({ w with drawn := w.drawn + 1 } : World) ρ nt ops p is1 r e π (π.set i0 (some j0)) (ancsAt ops is1) s.H (clean (keepM r e π) [] s.sl) avs1 avs2 (Array.replicate ops.size false) a { w with drawn := w.drawn + 1 } :=
                    ⟨h4.size, h4.defers, by simp, hpw, Keep.refl _ _, hH, fun j o av u hj ha hl hd => (hfalse j hl (lt_size (frontM_real hj hd).2.1)).elim, fun j o av u hj ha hl hd => (hfalse j hl (lt_size (frontM_real hj hd).2.1)).elim, fun u v hv _ => by
                      obtain ⟨_, v0, d1, d2⟩ := clean_lk hv
                      obtain ⟨q1, q2, q3, q4⟩ := keepM_spec d2
                      exact q3 _ _ (VFA.of q1 (h4.slots u v0 d1)), fun j o hj hl => (hfalse j hl (lt_size hj)).elim, fun i _ h2 => by simp [Array.getD, h2], fun _ => hMR, fun hl => (hfalse _ hl hi1).elim⟩
                  have all0 : ∀ i, i ∈ List.range p ↔ i < p ∧ (Array.replicate ops.size false).getD i true = false := by
                    intro i
                    rw [List.mem_range]
                    constructor
                    · intro hi
                      have : i < ops.size := by omega
                      exact ⟨hi, by simp [Array.getD, this]⟩
                    · exact fun h => h.1
                  have main := invL_any (Q := Q) hT hst hpath1 hpath2 c3 hm2 hla hly hsl hrow (of_decide_eq_true c2) h1 b1 b2 b4 (fun listed a2 w2 hinv hlist => ?_) p (List.range p) _ a _ (by simp) List.nodup_range all0 start
                  · rwa [show p + (ops.toList.drop p).length = ops.size by rw [hdl]; omega] at main
                  · have hl : ∀ j, j < p → listed.getD j true = true := fun j hj => (hlist j (by omega)).2 hj
                    have hM1 := hinv.m1 ((hlist is1 hi1).2 hst.lt)
                    have hs3 : SRu Pr w0 cargs nt (some r) ⟨clean (keepM r e (π.set i0 (some j0))) [] s2.sl, s2.H⟩ a2 w2 ρ := by
                      refine ⟨Pr', w2, h1, hinv.bnd, (h3.trans (h4.keep.mono h1)).trans ((Keep.of_below hsame fun k hk => h4.lt h2 k (h1 k hk)).trans hinv.keep), ⟨hinv.size, hinv.defers, fun u v hv => ?_, by rw [hH2]; exact hinv.heap, Keep.refl _ _⟩, h5⟩
                      obtain ⟨_, v0, d1, d2⟩ := clean_lk hv
                      obtain ⟨q1, q2, q3, q4⟩ := keepM_spec d2
                      refine VFA.to q2 (q3 _ _ ?_) (q4 _ _ _ hM1)
                      rcases hpath2.final d1 with ⟨j, o', f1, f2, f3⟩ | ⟨f1, f2⟩
                      · exact hinv.doneB j o' v0 u f1 f3 (hl j (frontM_real f1 f2).1) f2
                      · obtain ⟨_, v1, d3, d4⟩ := clean_lk f1
                        obtain ⟨p1, p2, p3, p4⟩ := keepM_spec d4
                        refine p3 _ _ ?_
                        rcases hpath1.final d3 with ⟨j, o', g1, g2, g3⟩ | ⟨g1, g2⟩
                        · exact hinv.doneA j o' v1 u g1 g3 (hl j (frontM_real g1 g2).1) g2
                        · refine hinv.still u v1 g1 fun j o' hjp hj hd => ?_
                          exfalso
                          by_cases hjs : j = is1
                          · subst hjs
                            rw [ho] at hj
                            cases hj
                            rw [hdst] at hd
                            cases hd
                          · by_cases hjA : j ∈ ancsAt ops is1
                            · refine g2 j o' (frontM_of hjp hj fun hm => ?_) hd
                              rcases List.mem_cons.1 hm with h9 | h9
                              · exact hjs h9
                              · exact (rest_mem.1 h9).2.1 hjA
                            · refine f2 j o' (frontM_of hjp hj fun hm => ?_) hd
                              rcases List.mem_cons.1 hm with h9 | h9
                              · exact hjs h9
                              · exact hjA h9
                    have hlen : ((ops.toList.take ops.toList.length).drop p).length = ops.size - p := by simp
                    have := turnU_ok (Q := Q) (p := p) (q := ops.toList.length) hT hG hd (fun i o ho hp j hj _ => hst.behind i o ho hp j hj) (by simp) ((ops.toList.take ops.toList.length).drop p) p _ (some r) listed a2 w2 ρ rfl (Nat.le_refl _) (by rw [hlen]; simp; omega) hinv.lsize hlist h hs3 fun s' M' listed' a' w' ρ' hk' hs' hsz' hl' => by
                      rw [show ops.size - ops.toList.length = 0 by simp]
                      refine ⟨?_, hQ s' M' a' w' ρ' hk' hs'⟩
                      apply List.eq_nil_iff_forall_not_mem.2
                      intro z hz
                      obtain ⟨z1, o', zo, _⟩ := mem_ready.1 hz
                      have hz' : z < ops.size := lt_size (o := o') (by rw [← zo]; simp)
                      rw [(hl' z hz').2 (by simpa using hz')] at z1
                      cases z1
                    rw [hlen, show ops.size - ops.toList.length = 0 by simp, Nat.add_zero] at this
                    rwa [hdl]
            · cases h
          · cases h
      · cases h
    · cases h
end
end Go.Sm
namespace Go.Sm
open Go Go.RowKit
section
variable {P : Program} {T : TT} {A : Ann} {L : Loops} {Pr : Nat → Prop} {w0 : World} {cargs : List Value} {nt : Nat}
def LoopsOk (T : TT) (A : Ann) (L : Loops) (nt : Nat) : Code → Prop
  | .seq a b => LoopsOk T A L nt a ∧ LoopsOk T A L nt b
  | .cond _ a b => LoopsOk T A L nt a ∧ LoopsOk T A L nt b
  | .block _ a => LoopsOk T A L nt a
  | .loop a => (∀ ins outs, A.lp (firstRegion a) = some (ins, outs) → ∀ s k out, L (firstRegion a) s k = some out → ∃ n, iterK A ins outs (codeK T A L nt a) n s k = some out) ∧ LoopsOk T A L nt a
  | _ => True
def conc : Ex → Exit
  | .normal => .normal
  | .exit id => .exit id
  | .ret => .ret
def LoopSem (P : Program) (nf nt : Nat) (x : Code) (s : St) (k : Ex → St → R) (out : Out) : Prop :=
  ∀ (Pr : Nat → Prop) (w0 : World) (cargs : List Value) (Q : Exit → Act → World → Prop) (a : Act) (w : World) (ρ : List Value), (∀ k, Pr k → k < w0.heap.size) → SR Pr w0 cargs nt s a w ρ →
    (∀ e s' a' w' ρ', k e s' = some out → SRx Pr w0 cargs nt s' a' w' ρ' → Ext nf ρ ρ' → Q (conc e) a' w') → (Code.loop x).wp P Q a w
def LoopsOk2 (P : Program) (T : TT) (A : Ann) (L : Loops) (nt : Nat) : Code → Prop
  | .seq a b => LoopsOk2 P T A L nt a ∧ LoopsOk2 P T A L nt b
  | .cond _ a b => LoopsOk2 P T A L nt a ∧ LoopsOk2 P T A L nt b
  | .block _ a => LoopsOk2 P T A L nt a
  | .loop a => (∀ ins outs, A.lp (firstRegion a) = some (ins, outs) → ∀ s k out, L (firstRegion a) s k = some out → (∃ n, iterK A ins outs (codeK T A L nt a) n s k = some out) ∨ LoopSem P A.nf nt a s k out) ∧ LoopsOk2 P T A L nt a
  | _ => True
theorem loops2_of : ∀ {c : Code}, LoopsOk T A L nt c → LoopsOk2 P T A L nt c
  | .seq _ _, h => ⟨loops2_of h.1, loops2_of h.2⟩
  | .cond _ _ _, h => ⟨loops2_of h.1, loops2_of h.2⟩
  | .block _ a, h => loops2_of (c := a) h
  | .loop _, h => ⟨fun ins outs hA s k out hk => .inl (h.1 ins outs hA s k out hk), loops2_of h.2⟩
  | .skip, _ => trivial
  | .region _ _ _, _ => trivial
  | .ret, _ => trivial
  | .exit _, _ => trivial
  | .rangeFunc .., _ => trivial
  | .scope _, _ => trivial
  | .label _, _ => trivial
  | .goto _, _ => trivial
  | .refuse _, _ => trivial
theorem eval_of {s : St} {a : Act} {w : World} {ρ : List Value} (hs : SR Pr w0 cargs nt s a w ρ) {x : Operand} {v : FV} (h : evO s x = some v) : FVR w Pr ρ cargs v (a.eval x) := by
  cases x with
  | tmp t =>
    unfold evO at h
    dsimp only at h
    split at h
    · rename_i u hu
      cases h
      exact hs.slots t _ hu
    · cases h
  | const c => exact constO_ok h w Pr ρ cargs
  | global g => cases h
  | func f => cases h; exact ⟨[], rfl, trivial⟩
theorem statB_ok {ops : Array Oper} {ib p b x t : Nat} (hd : drawOk ops = true) (h : statB ops ib p b x nt = true) (hb : ib < p → ∃ o parts, ops.toList[ib]? = some o ∧ o.op = .buildSlice t 1 parts ∧ parts.toList = [(0, .tmp x)] ∧ o.dst = some b ∧ o.guard = none) :
    StatB ops ib p b x t nt := by
  unfold statB at h
  rw [Bool.and_eq_true, Bool.and_eq_true, Bool.or_eq_true] at h
  obtain ⟨⟨h1, h2⟩, h3⟩ := h
  have h3' : ib < p → (!Nat.beq b x && Nat.blt b nt && clearOf b x ib ib ops 0 (ops.toList.take p)) = true := by
    intro hlt
    rcases h3 with h3 | h3
    · have : Nat.blt ib p = true := Nat.ble_eq_true_of_le hlt
      rw [this] at h3
      cases h3
    · exact h3
  refine ⟨hd, Nat.le_of_ble_eq_true h1, fun i o ho hp j hj => ?_, fun hlt => ⟨hb hlt, ?_⟩, fun i o hip ho hlt => ?_⟩
  · have := behind_spec (all := ops.toList) h2 rfl (fun i o h => by rw [Nat.zero_add]; exact h) (fun k j hj => by simp at hj) i o ho (by omega) j (by omega)
    rwa [Nat.zero_add] at this
  · have h4 := h3' hlt
    rw [Bool.and_eq_true, Bool.and_eq_true] at h4
    refine ⟨fun e => ?_, Nat.le_of_ble_eq_true h4.1.2⟩
    subst e
    rw [Nat.beq_refl] at h4
    cases h4.1.1
  · have h4 := h3' hlt
    rw [Bool.and_eq_true] at h4
    have := clearOf_spec h4.2 i o (by rw [List.getElem?_take, if_pos hip]; exact ho)
    rw [Nat.zero_add] at this
    exact ⟨fun hne => ⟨(this.1 hne).1, (this.1 hne).2 hne⟩, this.2⟩
theorem drawnK_ok (hT : TOK P T) (hp : ∀ k, Pr k → k < w0.heap.size) {ops : Array Oper} {Q : Exit → Act → World → Prop} {out : Out} {k : St → R} {id : Nat} {s : St} {a : Act} {w : World} {ρ : List Value}
    (hd : drawOk ops = true) (h : drawnK T nt ops s k = some out) (hs : SR Pr w0 cargs nt s a w ρ) (nf : Nat) (hQ : ∀ s' a' w' ρ', k s' = some out → SR Pr w0 cargs nt s' a' w' ρ' → Ext nf ρ ρ' → Q .normal a' w') : (Code.region id ops true).wp P Q a w := by
  have key : ∀ ib p t x b, (ib < p → ∃ o parts, ops.toList[ib]? = some o ∧ o.op = .buildSlice t 1 parts ∧ parts.toList = [(0, .tmp x)] ∧ o.dst = some b ∧ o.guard = none) → drawnP T nt ops ib p t x b s k = some out → (Code.region id ops true).wp P Q a w := by
    intro ib p t x b hb h
    unfold drawnP at h
    cases hst : statB ops ib p b x nt with
    | false => rw [hst] at h; cases h
    | true =>
      rw [hst] at h
      exact drawnB_ok hT hp (statB_ok hd hst hb) h hs nf hQ
  unfold drawnK at h
  split at h
  · rename_i ib t x b hB
    obtain ⟨i, o, parts, e1, h1⟩ := findB_spec hB
    rw [Nat.zero_add] at e1
    subst e1
    exact key _ _ _ _ _ (fun _ => ⟨o, parts, h1⟩) h
  · cases hb : Nat.beq (sufAt ops ops.size 0 0 ops.toList) ops.size with
    | true => rw [hb] at h; exact drawn_ok hT hp hd h hs nf hQ
    | false =>
      rw [hb] at h
      simp only [cond_false] at h
      cases hbf : behindFrom (sufAt ops ops.size 0 0 ops.toList) 0 [] ops.toList with
      | false => rw [hbf] at h; exact drawnS_ok hT hp hd h hs nf hQ
      | true =>
      rw [hbf] at h
      simp only [cond_true] at h
      refine key _ _ _ _ _ (fun hlt => ?_) h
      exfalso
      unfold drawnP at h
      cases hst : statB ops ops.size (sufAt ops ops.size 0 0 ops.toList) 0 0 nt with
      | false => rw [hst] at h; cases h
      | true =>
        unfold statB at hst
        rw [Bool.and_eq_true, Bool.and_eq_true] at hst
        have := Nat.le_of_ble_eq_true hst.1.1
        simp at this
        omega
theorem normX_ok {nf : Nat} {ts : List Nat} {s s' : St} (h : normS nf ts s = some s') {a : Act} {w : World} {ρ : List Value} (hs : SRx Pr w0 cargs nt s a w ρ) : ∃ ρ', SRx Pr w0 cargs nt s' a w ρ' ∧ Ext nf ρ ρ' := by
  obtain ⟨Pr', w1, h1, h2, h3, h4⟩ := hs
  obtain ⟨ρ', h5, h6⟩ := normS_ok h h4
  exact ⟨ρ', ⟨Pr', w1, h1, h2, h3, h5⟩, h6⟩
theorem codeK_ok2 (hT : TOK P T) : ∀ (c : Code), LoopsOk2 P T A L nt c → ∀ (s : St) (k : Ex → St → R) (out : Out), codeK T A L nt c s k = some out →
    ∀ (Q : Exit → Act → World → Prop) (a : Act) (w : World) (ρ : List Value), SRx Pr w0 cargs nt s a w ρ →
    (∀ e s' a' w' ρ', k e s' = some out → SRx Pr w0 cargs nt s' a' w' ρ' → Ext A.nf ρ ρ' → Q (conc e) a' w') → c.wp P Q a w
  | .skip, _, s, k, out, h, Q, a, w, ρ, hs, hQ => wp_skip (hQ .normal s a w ρ h hs (Ext.refl _ _))
  | .region id ops d, _, s, k, out, h, Q, a, w, ρ, hs0, hQ => by
    obtain ⟨Pr', w1, hsub, hp, hkp, hs⟩ := hs0
    unfold codeK at h
    cases d with
    | true =>
      simp only [cond_true] at h
      cases hd : drawOk ops with
      | false => rw [hd] at h; cases h
      | true =>
        rw [hd] at h
        simp only [cond_true] at h
        cases hgg : Nat.ble 2 (newsN (specials T 0 [] ops.toList)) with
        | true =>
          rw [hgg] at h
          simp only [cond_true] at h
          refine drawnG_ok hT hp hd rfl h hs A.nf fun s' a' w' ρ' h' hs' => ?_
          obtain ⟨Pr2, w2, k1, k2, k3, k4⟩ := hs'
          exact hQ .normal s' a' w' ρ' h' ⟨Pr2, w2, fun k hk => k1 k (hsub k hk), k2, hkp.trans (k3.mono hsub), k4⟩
        | false =>
        rw [hgg] at h
        simp only [cond_false] at h
        split at h
        · exact drawnK_ok hT hp hd h hs A.nf fun s' a' w' ρ' h' hs' => hQ .normal s' a' w' ρ' h' ⟨Pr', w1, hsub, hp, hkp, hs'⟩
        · rename_i ia d t hA
          split at h
          · cases h
          · rename_i is x t' hS
            cases hc : (Nat.beq t t' && !Nat.beq d x && Nat.blt d nt && Nat.blt ia is && clearOf d x ia is ops 0 ops.toList) with
            | false => rw [hc] at h; cases h
            | true =>
              rw [hc] at h
              simp only [cond_true] at h
              simp only [Bool.and_eq_true] at hc
              obtain ⟨⟨⟨⟨c1, c2⟩, c3⟩, c4⟩, c5⟩ := hc
              have ht := Nat.eq_of_beq_eq_true c1
              subst ht
              obtain ⟨i1, o1, e1, a1⟩ := findA_spec hA
              obtain ⟨i2, o2, e2, a2⟩ := findS_spec hS
              rw [Nat.zero_add] at e1 e2
              subst e1 e2
              have hdx : d ≠ x := by
                intro e
                subst e
                rw [Nat.beq_refl] at c2
                cases c2
              have hcl : ∀ (i : Nat) (o : Oper), ops.toList[i]? = some o → (i ≠ ia → o.dst ≠ some d ∧ (i ≠ is → d ∉ o.looksAt ops)) ∧ (is < i → o.dst ≠ some x) := by
                intro i o hi
                have := clearOf_spec c5 i o hi
                rwa [Nat.zero_add] at this
              have hst : StatA ops ia is d x t nt := ⟨hd, ⟨o1, a1⟩, ⟨o2, a2⟩, Nat.le_of_ble_eq_true c4, hdx, Nat.le_of_ble_eq_true c3, hcl⟩
              exact drawnA_ok hT hp hst h hs A.nf fun s' a' w' ρ' h' hs' => hQ .normal s' a' w' ρ' h' ⟨Pr', w1, hsub, hp, hkp, hs'⟩
    | false =>
      simp only [cond_false] at h
      split at h
      · rename_i j rest hj
        refine wp_region_list (joinK_ok hT hp hj h hs A.nf fun s' a' w' ρ' h' hs' => ?_)
        obtain ⟨Pr2, w2, k1, k2, k3, k4⟩ := hs'
        exact hQ .normal s' a' w' ρ' h' ⟨Pr2, w2, fun k hk => k1 k (hsub k hk), k2, hkp.trans (k3.mono hsub), k4⟩
      · exact wp_region_list (opsK_ok hT A.nf hp _ s a w ρ h hs fun s' a' w' ρ' h' hs' => hQ .normal s' a' w' ρ' h' ⟨Pr', w1, hsub, hp, hkp, hs'⟩)
  | .seq x y, hL, s, k, out, h, Q, a, w, ρ, hs, hQ => by
    unfold codeK at h
    refine wp_seq (codeK_ok2 hT x hL.1 s _ out h _ a w ρ hs fun e s' a' w' ρ' h' hs' he => ?_)
    cases e with
    | normal => exact codeK_ok2 hT y hL.2 s' k out h' Q a' w' ρ' hs' fun e2 s2 a2 w2 ρ2 h2 hs2 he2 => hQ e2 s2 a2 w2 ρ2 h2 hs2 (he.trans he2)
    | exit id => exact hQ _ s' a' w' ρ' h' hs' he
    | ret => exact hQ _ s' a' w' ρ' h' hs' he
  | .cond c x y, hL, s, k, out, h, Q, a, w, ρ, hs, hQ => by
    unfold codeK at h
    split at h
    · rename_i t ht
      obtain ⟨_, _, _, _, _, hs1⟩ := hs
      have hc : a.eval c = .bool t := eval_of hs1 ht
      replace hs : SRx Pr w0 cargs nt s a w ρ := ⟨_, _, ‹_›, ‹_›, ‹_›, hs1⟩
      refine wp_cond hc ?_
      cases t with
      | true => exact codeK_ok2 hT x hL.1 s k out h Q a w ρ hs hQ
      | false => exact codeK_ok2 hT y hL.2 s k out h Q a w ρ hs hQ
    · cases h
  | .block id x, hL, s, k, out, h, Q, a, w, ρ, hs, hQ => by
    unfold codeK at h
    refine wp_block (codeK_ok2 hT x hL s _ out h _ a w ρ hs fun e s' a' w' ρ' h' hs' he => ?_)
    cases e with
    | normal => exact hQ .normal s' a' w' ρ' h' hs' he
    | exit i =>
      dsimp only at h'
      cases hb : Nat.beq i id with
      | true =>
        rw [hb] at h'
        have := Nat.eq_of_beq_eq_true hb
        subst this
        simp only [conc, Exit.inBlock, if_true]
        exact hQ .normal s' a' w' ρ' h' hs' he
      | false =>
        rw [hb] at h'
        have hne : i ≠ id := fun e => by subst e; rw [Nat.beq_refl] at hb; cases hb
        simp only [conc, Exit.inBlock, if_neg hne]
        exact hQ (.exit i) s' a' w' ρ' h' hs' he
    | ret => exact hQ .ret s' a' w' ρ' h' hs' he
  | .loop x, hL, s, k, out, h, Q, a, w, ρ, hs, hQ => by
    unfold codeK at h
    split at h
    · rename_i ins outs hA
      split at h
      · rename_i s1 hn
        obtain ⟨ρ1, hs1, he1⟩ := normX_ok hn hs
        rcases hL.1 ins outs hA s1 k out h with ⟨n, hi⟩ | hsem
        case inr =>
          obtain ⟨Pr', w1, c1, c2, c3, c4⟩ := hs1
          exact hsem Pr' w1 cargs Q a w ρ1 c2 c4 fun e s' a' w' ρ' hk ⟨Pr2, w2, k1, k2, k3, k4⟩ he => hQ e s' a' w' ρ' hk ⟨Pr2, w2, fun k hk => k1 k (c1 k hk), k2, c3.trans (k3.mono c1), k4⟩ (he1.trans he)
        refine wp_loop_rounds n ?_
        have key : ∀ (n : Nat) (s : St) (a : Act) (w : World) (ρ : List Value), iterK A ins outs (codeK T A L nt x) n s k = some out → SRx Pr w0 cargs nt s a w ρ → Ext A.nf ρ1 ρ → Code.rounds P x Q n a w := by
          intro n
          induction n with
          | zero => intro s a w ρ h _ _; cases h
          | succ n ih =>
            intro s a w ρ h hs hx
            unfold iterK at h
            rw [rounds_succ]
            refine codeK_ok2 hT x hL.2 s _ out h _ a w ρ hs fun e s' a' w' ρ' h' hs' he => ?_
            cases e with
            | normal =>
              dsimp only at h'
              split at h'
              · rename_i s2 hn2
                obtain ⟨ρ2, hs2, he2⟩ := normX_ok hn2 hs'
                exact ih s2 a' w' ρ2 h' hs2 (hx.trans (he.trans he2))
              · cases h'
            | exit i =>
              dsimp only [exK] at h'
              split at h'
              · rename_i s2 hn2
                obtain ⟨ρ2, hs2, he2⟩ := normX_ok hn2 hs'
                exact hQ (.exit i) s2 a' w' ρ2 h' hs2 (he1.trans (hx.trans (he.trans he2)))
              · cases h'
            | ret =>
              dsimp only [exK] at h'
              split at h'
              · rename_i s2 hn2
                obtain ⟨ρ2, hs2, he2⟩ := normX_ok hn2 hs'
                exact hQ .ret s2 a' w' ρ2 h' hs2 (he1.trans (hx.trans (he.trans he2)))
              · cases h'
        exact key n s1 a w ρ1 hi hs1 (Ext.refl _ _)
      · cases h
    · cases h
  | .ret, _, s, k, out, h, Q, a, w, ρ, hs, hQ => wp_ret (hQ .ret s a w ρ h hs (Ext.refl _ _))
  | .exit id, _, s, k, out, h, Q, a, w, ρ, hs, hQ => wp_exit (hQ (.exit id) s a w ρ h hs (Ext.refl _ _))
  | .rangeFunc .., _, s, k, out, h, Q, a, w, ρ, hs, hQ => by cases h
  | .scope _, _, s, k, out, h, Q, a, w, ρ, hs, hQ => by cases h
  | .label _, _, s, k, out, h, Q, a, w, ρ, hs, hQ => by cases h
  | .goto _, _, s, k, out, h, Q, a, w, ρ, hs, hQ => by cases h
  | .refuse _, _, s, k, out, h, Q, a, w, ρ, hs, hQ => by cases h
theorem codeK_ok (hT : TOK P T) (c : Code) (hL : LoopsOk T A L nt c) (s : St) (k : Ex → St → R) (out : Out) (h : codeK T A L nt c s k = some out) (Q : Exit → Act → World → Prop) (a : Act) (w : World) (ρ : List Value) (hs : SRx Pr w0 cargs nt s a w ρ)
    (hQ : ∀ e s' a' w' ρ', k e s' = some out → SRx Pr w0 cargs nt s' a' w' ρ' → Ext A.nf ρ ρ' → Q (conc e) a' w') : c.wp P Q a w := codeK_ok2 hT c (loops2_of hL) s k out h Q a w ρ hs hQ
end
end Go.Sm
namespace Go.Sm
open Go Go.RowKit
def resK (T : TT) (s : St) : List ResultVar → (List FV → R) → R
  | [], k => k []
  | .tmp t :: l, k => match lk s.sl t with
    | some (.fv v) => resK T s l fun vs => k (v :: vs)
    | _ => none
  | .cell a t :: l, k => match lk s.sl a with
    | some (.fv (.pt p)) => loadK T s.H t p fun v => resK T s l fun vs => k (v :: vs)
    | _ => none
def rvO (H : Hp) : FV → Option RV
  | .el e => some (.el e)
  | .nil => some .nil
  | .vw (some i) _ => some (.arg i)
  | .own r => match rowAt H r with
    | some row => some (.fresh row.e row.v)
    | none => none
  | _ => none
def rvAll (H : Hp) : List FV → Option (List RV)
  | [] => some []
  | x :: xs => match rvO H x, rvAll H xs with
    | some r, some rs => some (r :: rs)
    | _, _ => none
def notOwn (r : Nat) : List FV → Bool
  | [] => true
  | .own r' :: xs => !Nat.beq r r' && notOwn r xs
  | _ :: xs => notOwn r xs
def apartB : List FV → Bool
  | [] => true
  | .own r :: xs => notOwn r xs && apartB xs
  | _ :: xs => apartB xs
def argIn (i : Nat) : FV → FV
  | .vw none vec => .vw (some i) vec
  | x => x
def initSl : Nat → List FV → List (Nat × AV)
  | _, [] => []
  | i, x :: xs => (i, .fv (argIn i x)) :: initSl (i + 1) xs
def end2 (s : St) : List FV → R
  | [.own r] => match llAt s.H r with
    | some row => some ⟨[.new2 row.e row.v], none⟩
    | none => none
  | _ => none
def row0 (H : Hp) : Option Row := match rowAt H 0 with
  | some row => some row
  | none => llAt H 0
def endK (m : Bool) (s : St) (vs : List FV) : R :=
  bif apartB vs then (match rvAll s.H vs with
    | some rs => some ⟨rs, bif m then row0 s.H else none⟩
    | none => bif m then none else end2 s vs) else none
def finK (T : TT) (m : Bool) (rl : List ResultVar) : Ex → St → R
  | .exit _, _ => none
  | _, s => resK T s rl (endK m s)
def runF (T : TT) (A : Ann) (L : Loops) (nt : Nat) (c : Code) (rl : List ResultVar) (args : List FV) : R :=
  codeK T A L nt c ⟨initSl 0 args, []⟩ (finK T false rl)
theorem endK_ok {m : Bool} {s : St} {vs : List FV} {out : Out} (h : endK m s vs = some out) : (apartB vs = true ∧ rvAll s.H vs = some out.rs ∧ (m = true → row0 s.H = out.row)) ∨ (m = false ∧ end2 s vs = some out) := by
  unfold endK at h
  cases ha : apartB vs with
  | false => rw [ha] at h; cases h
  | true =>
    rw [ha] at h
    simp only [cond_true] at h
    split at h
    · rename_i rs hrs
      cases h
      exact .inl ⟨rfl, hrs, fun hm => by rw [hm]; rfl⟩
    · cases m with
      | true => cases h
      | false => exact .inr ⟨rfl, h⟩
section
variable {P : Program} {T : TT} {A : Ann} {L : Loops} {Pr : Nat → Prop} {w0 : World} {cargs : List Value} {nt : Nat}
def resOne (tmps : Array Value) : ResultVar → Sem Value
  | .tmp t => pure (tmps.getD t undef)
  | .cell a t => do loadVar t (← asAddr (tmps.getD a undef))
theorem results_eq (fn : Func) (tmps : Array Value) : results fn tmps = (do
    let vs ← fn.results.mapM (resOne tmps)
    pure (if h : vs.size = 1 then vs[0] else .tuple vs)) := by
  have : (fun x => match x with
    | .tmp t => pure (tmps.getD t undef)
    | .cell a t => do loadVar t (← asAddr (tmps.getD a undef)) : ResultVar → Sem Value) = resOne tmps := by
    funext x
    cases x <;> rfl
  unfold results
  rw [← this]
  rfl
theorem resK_ok (hT : TOK P T) {s : St} {out : Out} : ∀ (l : List ResultVar) (k : List FV → R), resK T s l k = some out →
    ∃ vs, k vs = some out ∧ ∀ (w0 w : World) (Pr : Nat → Prop) (cargs : List Value) (nt : Nat) (a : Act) (ρ : List Value), (∀ k, Pr k → k < w0.heap.size) → SR Pr w0 cargs nt s a w ρ →
      ∃ us, (l.mapM (resOne a.tmps)).run P w = .ok us w ∧ AllR (FVR w Pr ρ cargs) vs us
  | [], k, h => ⟨[], h, fun w0 w Pr cargs nt a ρ hp hs => ⟨[], by simp, trivial⟩⟩
  | .tmp t :: l, k, h => by
    unfold resK at h
    split at h
    · rename_i v hv
      obtain ⟨vs, h1, h2⟩ := resK_ok hT l _ h
      refine ⟨v :: vs, h1, fun w0 w Pr cargs nt a ρ hp hs => ?_⟩
      obtain ⟨us, h3, h4⟩ := h2 w0 w Pr cargs nt a ρ hp hs
      refine ⟨a.tmps.getD t undef :: us, ?_, hs.slots t _ hv, h4⟩
      rw [List.mapM_cons]
      simp only [resOne, Sem.run_bind, Sem.run_pure, Result.andThen_ok, h3]
    · cases h
  | .cell x t :: l, k, h => by
    unfold resK at h
    split at h
    · rename_i p hv
      obtain ⟨v, h1, h2⟩ := loadK_ok hT h
      obtain ⟨vs, h3, h4⟩ := resK_ok hT l _ h1
      refine ⟨v :: vs, h3, fun w0 w Pr cargs nt a ρ hp hs => ?_⟩
      obtain ⟨us, h5, h6⟩ := h4 w0 w Pr cargs nt a ρ hp hs
      have hpt : PtR w Pr ρ p (a.tmps.getD x undef) := hs.slots x _ hv
      obtain ⟨u, h7, h8⟩ := h2 w Pr ρ cargs _ (hs.lt hp) hs.heap hpt
      obtain ⟨b, hb, _⟩ := PtR.add (o := 0) hpt
      refine ⟨u :: us, ?_, h8, h6⟩
      rw [List.mapM_cons]
      rw [hb] at h7
      have h7' : (loadVar t b).run P w = .ok u w := by simpa [Instr.loadAt, Instr.sureAddr] using h7
      simp only [resOne, hb, asAddr, Sem.run_bind, Sem.run_pure, Result.andThen_ok, h7', h5]
    · cases h
theorem results_run {fn : Func} {tmps : Array Value} {w : World} {us : List Value} (h : (fn.results.toList.mapM (resOne tmps)).run P w = .ok us w) : (results fn tmps).run P w = .ok (packV us) w := by
  rw [results_eq, Array.mapM_eq_mapM_toList]
  match us with
  | [] => simp [h, packV]
  | [v] => simp [h, packV]
  | v :: v' :: us => simp [h, packV]
theorem initSl_lk : ∀ (args : List FV) (i t : Nat) (v : AV), lk (initSl i args) t = some v → ∃ j x, t = i + j ∧ args[j]? = some x ∧ v = .fv (argIn t x)
  | [], i, t, v, h => by cases h
  | x :: xs, i, t, v, h => by
    unfold initSl at h
    rw [lk_cons] at h
    split at h
    · rename_i e
      cases h
      exact ⟨0, x, by omega, rfl, by rw [e]⟩
    · obtain ⟨j, y, h1, h2, h3⟩ := initSl_lk xs (i + 1) t v h
      exact ⟨j + 1, y, by omega, by simpa using h2, h3⟩
theorem argIn_ok {w : World} {ρ : List Value} {x : FV} {v : Value} {i : Nat} (h : FVR w Pr [] [] x v) (hi : cargs[i]? = some v) : FVR w Pr ρ cargs (argIn i x) v := by
  have hpt : ∀ p u, PtR w Pr [] p u → PtR w Pr ρ p u := by
    intro p u hp
    obtain ⟨b, sz, i, j⟩ := p
    cases b with
    | v vec => exact hp
    | r r =>
      obtain ⟨vr, g, h1, _⟩ := hp
      simp at h1
    | w j =>
      obtain ⟨a, u, _, h1, _⟩ := hp
      simp at h1
    | s kd xss => exact hp
  cases x with
  | el e => exact h
  | nil => exact h
  | vw o vec =>
    obtain ⟨h1, h2⟩ := h
    cases o with
    | none => exact ⟨h1, fun j hj => by cases hj; exact hi⟩
    | some j => have := h2 j rfl; simp at this
  | own r => have : ([] : List Value)[r]? = some v := h; simp at this
  | pt p => exact hpt p v h
  | fn f caps =>
    obtain ⟨cs, h1, h2⟩ := h
    exact ⟨cs, h1, h2.mono hpt⟩
  | vv o kd xss => exact ⟨h.1, fun j hj => by have := h.2 j hj; simp at this⟩
  | pv kd xss i => exact h
  | ne k => exact h
  | pl r i => obtain ⟨vr, g, h1, _⟩ := h; simp at h1
  | mv r e π => have h1 := h.1; simp at h1
  | pm r e π i => obtain ⟨⟨vr, g, h1, _⟩, _⟩ := h; simp at h1
theorem notOwn_spec {r : Nat} : ∀ {xs : List FV}, notOwn r xs = true → ∀ (j r' : Nat), xs[j]? = some (.own r') → r ≠ r'
  | [], _, j, r', h => by simp at h
  | x :: xs, h, j, r', hj => by
    cases j with
    | zero =>
      simp at hj
      subst hj
      unfold notOwn at h
      rw [Bool.and_eq_true] at h
      intro e
      subst e
      rw [Nat.beq_refl] at h
      simp at h
    | succ j =>
      have : notOwn r xs = true := by
        unfold notOwn at h
        split at h
        · rename_i heq; cases heq
        · rename_i heq; cases heq; rw [Bool.and_eq_true] at h; exact h.2
        · rename_i heq; cases heq; exact h
      exact notOwn_spec this j r' (by simpa using hj)
theorem apartB_spec : ∀ {xs : List FV}, apartB xs = true → ∀ (i j r r' : Nat), i < j → xs[i]? = some (.own r) → xs[j]? = some (.own r') → r ≠ r'
  | [], _, i, j, r, r', _, h, _ => by simp at h
  | x :: xs, h, i, j, r, r', hij, hi, hj => by
    cases i with
    | zero =>
      simp at hi
      subst hi
      unfold apartB at h
      rw [Bool.and_eq_true] at h
      obtain ⟨q, rfl⟩ : ∃ q, j = q + 1 := ⟨j - 1, by omega⟩
      exact notOwn_spec h.1 q r' (by simpa using hj)
    | succ i =>
      obtain ⟨q, rfl⟩ : ∃ q, j = q + 1 := ⟨j - 1, by omega⟩
      have : apartB xs = true := by
        unfold apartB at h
        split at h
        · rename_i heq; cases heq
        · rename_i heq; cases heq; rw [Bool.and_eq_true] at h; exact h.2
        · rename_i heq; cases heq; exact h
      exact apartB_spec this i q r r' (by omega) (by simpa using hi) (by simpa using hj)
theorem rvAll_ok {w0 w : World} {ρ : List Value} {H : Hp} (hH : HR w Pr ρ H) (hpr : ∀ (r : Nat) (u : Value) (g : Nat), ρ[r]? = some u → u.ownBlock = some g → ¬ Pr g → w0.heap.size ≤ g) : ∀ {xs : List FV} {rs : List RV} {vs : List Value},
    rvAll H xs = some rs → AllR (FVR w Pr ρ cargs) xs vs → AllR (RVR w0 w cargs) rs vs ∧ ∀ (i : Nat) (r : RV) (v : Value), rs[i]? = some r → vs[i]? = some v → r.isFresh = true → ∃ j row, xs[i]? = some (.own j) ∧ ρ[j]? = some v ∧ rowAt H j = some row
  | [], rs, [], h, _ => by simp [rvAll] at h; subst h; exact ⟨trivial, fun i r v h => by simp at h⟩
  | x :: xs, rs, v :: vs, h, hv => by
    unfold rvAll at h
    split at h
    · rename_i r rs' hr hrs
      cases h
      obtain ⟨h1, h2⟩ := rvAll_ok hH hpr hrs hv.2
      have hx := hv.1
      refine ⟨⟨?_, h1⟩, fun i r' v' hi hvi hf => ?_⟩
      · unfold rvO at hr
        split at hr
        · cases hr; exact hx
        · cases hr; exact hx
        · cases hr; exact hx.2 _ rfl
        · rename_i r'
          split at hr
          · rename_i row hrow
            cases hr
            obtain ⟨v2, h3, vs2, h4, h5, h6⟩ := hH.row r' row hrow
            have : v2 = v := by
              have h7 : ρ[r']? = some v := hx
              rw [h3] at h7
              cases h7
              rfl
            subst this
            exact ⟨vs2, h4, h5, fun g hg => hpr r' _ g h3 hg (h6 g hg)⟩
          · cases hr
        · cases hr
      · cases i with
        | zero =>
          simp at hi hvi
          subst hi hvi
          unfold rvO at hr
          split at hr
          · cases hr; cases hf
          · cases hr; cases hf
          · cases hr; cases hf
          · rename_i r'
            split at hr
            · rename_i row hrow
              exact ⟨r', row, rfl, hx, hrow⟩
            · cases hr
          · cases hr
        | succ i =>
          obtain ⟨j, row, h3, h4, h5⟩ := h2 i r' v' (by simpa using hi) (by simpa using hvi) hf
          exact ⟨j, row, by simpa using h3, h4, h5⟩
    · cases h
  | [], _, _ :: _, _, hv => hv.elim
  | _ :: _, _, [], _, hv => hv.elim
theorem getD_args {cargs : List Value} {j n : Nat} {u : Value} (h : cargs[j]? = some u) : (cargs.toArray ++ Array.replicate n undef).getD j undef = u := by
  have hj : j < cargs.length := by
    rcases Nat.lt_or_ge j cargs.length with h' | h'
    · exact h'
    · rw [List.getElem?_eq_none h'] at h; cases h
  have : (cargs.toArray ++ Array.replicate n undef)[j]? = some u := by
    rw [Array.getElem?_append_left (by simpa using hj)]
    simpa using h
  simp [Array.getD_eq_getD_getElem?, this]
theorem rvs_apart {w0 w : World} {ρ : List Value} {H : Hp} (hH : HR w Pr ρ H) {xs : List FV} {rs : List RV} {vs : List Value} (ha : apartB xs = true)
    (h : ∀ (i : Nat) (r : RV) (v : Value), rs[i]? = some r → vs[i]? = some v → r.isFresh = true → ∃ j row, xs[i]? = some (.own j) ∧ ρ[j]? = some v ∧ rowAt H j = some row) (hall : AllR (RVR w0 w cargs) rs vs) : RVs w0 w cargs rs vs := by
  refine ⟨hall, fun i j r r' v v' g hne hi hj hf hf' hv hv' hg => ?_⟩
  obtain ⟨a, row, h1, h2, h3⟩ := h i r v hi hv hf
  obtain ⟨b, row', h4, h5, h6⟩ := h j r' v' hj hv' hf'
  have hab : a ≠ b := by
    rcases Nat.lt_or_gt_of_ne hne with h | h
    · exact apartB_spec ha i j a b h h1 h4
    · exact (apartB_spec ha j i b a h h4 h1).symm
  exact hH.apart a b row row' v v' g hab h3 h6 h2 h5 hg
theorem rvAllN_ok {w : World} {N : Nat → Prop} {ρ : List Value} {H : Hp} (hH : HR w Pr ρ H) (hpr : ∀ (r : Nat) (u : Value) (g : Nat), ρ[r]? = some u → u.ownBlock = some g → ¬ Pr g → N g) : ∀ {xs : List FV} {rs : List RV} {vs : List Value},
    rvAll H xs = some rs → AllR (FVR w Pr ρ cargs) xs vs → AllR (RVN N w cargs) rs vs ∧ ∀ (i : Nat) (r : RV) (v : Value), rs[i]? = some r → vs[i]? = some v → r.isFresh = true → ∃ j row, xs[i]? = some (.own j) ∧ ρ[j]? = some v ∧ rowAt H j = some row
  | [], rs, [], h, _ => by simp [rvAll] at h; subst h; exact ⟨trivial, fun i r v h => by simp at h⟩
  | x :: xs, rs, v :: vs, h, hv => by
    unfold rvAll at h
    split at h
    · rename_i r rs' hr hrs
      cases h
      obtain ⟨h1, h2⟩ := rvAllN_ok hH hpr hrs hv.2
      have hx := hv.1
      refine ⟨⟨?_, h1⟩, fun i r' v' hi hvi hf => ?_⟩
      · unfold rvO at hr
        split at hr
        · cases hr; exact hx
        · cases hr; exact hx
        · cases hr; exact hx.2 _ rfl
        · rename_i r'
          split at hr
          · rename_i row hrow
            cases hr
            obtain ⟨v2, h3, vs2, h4, h5, h6⟩ := hH.row r' row hrow
            have : v2 = v := by
              have h7 : ρ[r']? = some v := hx
              rw [h3] at h7
              cases h7
              rfl
            subst this
            exact ⟨vs2, h4, h5, fun g hg => hpr r' _ g h3 hg (h6 g hg)⟩
          · cases hr
        · cases hr
      · cases i with
        | zero =>
          simp at hi hvi
          subst hi hvi
          unfold rvO at hr
          split at hr
          · cases hr; cases hf
          · cases hr; cases hf
          · cases hr; cases hf
          · rename_i r'
            split at hr
            · rename_i row hrow
              exact ⟨r', row, rfl, hx, hrow⟩
            · cases hr
          · cases hr
        | succ i =>
          obtain ⟨j, row, h3, h4, h5⟩ := h2 i r' v' (by simpa using hi) (by simpa using hvi) hf
          exact ⟨j, row, by simpa using h3, h4, h5⟩
    · cases h
  | [], _, _ :: _, _, hv => hv.elim
  | _ :: _, _, [], _, hv => hv.elim
theorem rvsN_apart {w : World} {ρ : List Value} {H : Hp} (hH : HR w Pr ρ H) {xs : List FV} {rs : List RV} {vs : List Value} (ha : apartB xs = true)
    (h : ∀ (i : Nat) (r : RV) (v : Value), rs[i]? = some r → vs[i]? = some v → r.isFresh = true → ∃ j row, xs[i]? = some (.own j) ∧ ρ[j]? = some v ∧ rowAt H j = some row) : ∀ (i j : Nat) (r r' : RV) (v v' : Value) (g : Nat), i ≠ j → rs[i]? = some r → rs[j]? = some r' → r.isFresh = true → r'.isFresh = true → vs[i]? = some v → vs[j]? = some v' → v.ownBlock = some g → v'.ownBlock ≠ some g := by
  intro i j r r' v v' g hne hi hj hf hf' hv hv' hg
  obtain ⟨a, row, h1, h2, h3⟩ := h i r v hi hv hf
  obtain ⟨b, row', h4, h5, h6⟩ := h j r' v' hj hv' hf'
  have hab : a ≠ b := by
    rcases Nat.lt_or_gt_of_ne hne with h | h
    · exact apartB_spec ha i j a b h h1 h4
    · exact (apartB_spec ha j i b a h h4 h1).symm
  exact hH.apart a b row row' v v' g hab h3 h6 h2 h5 hg
theorem runF_ok2 (hT : TOK P T) {f : Nat} {fn : Func} {c : Code} {rl : List ResultVar} {args : List FV} {out : Out} (hf : P.funcs[f]? = some fn) (hb : fn.body = some c) (hrl : fn.results.toList = rl) (hnt : args.length ≤ fn.ntmps)
    (hL : LoopsOk2 P T A L fn.ntmps c) (h : runF T A L fn.ntmps c rl args = some out) : COK P f args out.rs := by
  subst hrl
  unfold runF at h
  intro w cargs hargs
  have hlen := hargs.length
  refine calls_of_wp hf hb ?_
  have hp : ∀ k, (fun k => k < w.heap.size) k → k < w.heap.size := fun _ h => h
  have hs : SR (fun k => k < w.heap.size) w cargs fn.ntmps ⟨initSl 0 args, []⟩ { tmps := cargs.toArray ++ Array.replicate (fn.ntmps - cargs.toArray.size) undef, defers := [] } w [] := by
    refine ⟨by simp; omega, rfl, fun t v hv => ?_, ⟨rfl, fun r row hr => by simp [rowAt] at hr, fun r r' row row' v v' g _ hr => by simp [rowAt] at hr, LLR.noRow fun r => rfl⟩, Keep.refl _ _⟩
    obtain ⟨j, x, rfl, hx, rfl⟩ := initSl_lk args 0 t v hv
    obtain ⟨u, hu, hr⟩ := hargs.get j x hx
    rw [Nat.zero_add, getD_args hu]
    exact argIn_ok hr hu
  refine codeK_ok2 hT c hL _ _ out h _ _ w [] ⟨_, w, fun _ h => h, hp, Keep.refl _ _, hs⟩ fun e s' a' w' ρ' hk hs0' _ => ?_
  obtain ⟨Pr', w1, hsub, hp', hkp, hs'⟩ := hs0'
  have hkeep : Keep (fun k => k < w.heap.size) w w' := hkp.trans (hs'.keep.mono hsub)
  have main : resK T s' fn.results.toList (endK false s') = some out → a'.defers = [] ∧ ∃ v, (results fn a'.tmps).run P w' = .ok v w' ∧
      (∃ vs, Ending.returned v = .returned (packV vs) ∧ Same w w' ∧ RVs w w' cargs out.rs vs) := by
    intro hk
    obtain ⟨vs, h1, h2⟩ := resK_ok hT _ _ hk
    obtain ⟨us, h3, h4⟩ := h2 w1 w' _ cargs _ a' ρ' hp' hs'
    rcases endK_ok h1 with ⟨hap, hrv, _⟩ | ⟨_, he2⟩
    case inr =>
      unfold end2 at he2
      split at he2
      · rename_i r
        split at he2
        · rename_i row hrow
          cases he2
          obtain ⟨z, hz⟩ := two_some (llAt_is2 hrow).1
          obtain ⟨I, hI⟩ := hs'.heap.ll
          obtain ⟨v, us2, a1, a2, a3, ad, _, a4, a5⟩ := hI r row z hrow hz
          match us, h4 with
          | [u], h4 =>
            have hu : ρ'[r]? = some u := h4.1
            rw [hu] at a1
            simp only [Option.some.injEq] at a1
            subst a1
            exact ⟨hs'.defers, packV [u], results_run h3, [u], rfl, ⟨hkeep.os, hkeep.tape, hkeep.output, hkeep.size, hkeep.block⟩,
              ⟨⟨z, us2, I r, hz, a2, a3, ad, a4, fun g hg => ⟨Nat.not_lt.1 fun hlt => (a5 g hg).2.1 (hsub g hlt), (a5 g hg).1⟩⟩, trivial⟩, fun i j r1 r2 v1 v2 g hne h1 h2 h3 => by
                cases i with
                | zero => simp at h1; subst h1; cases h3
                | succ i => simp at h1⟩
        · cases he2
      · cases he2
    obtain ⟨h5, h6⟩ := rvAll_ok (w0 := w) hs'.heap (fun r u g _ _ h => Nat.not_lt.1 fun hlt => h (hsub g hlt)) hrv h4
    exact ⟨hs'.defers, packV us, results_run h3, us, rfl, ⟨hkeep.os, hkeep.tape, hkeep.output, hkeep.size, hkeep.block⟩, rvs_apart hs'.heap hap h6 h5⟩
  cases e with
  | normal => exact main hk
  | ret => exact main hk
  | exit i => cases hk
theorem runF_ok (hT : TOK P T) {f : Nat} {fn : Func} {c : Code} {rl : List ResultVar} {args : List FV} {out : Out} (hf : P.funcs[f]? = some fn) (hb : fn.body = some c) (hrl : fn.results.toList = rl) (hnt : args.length ≤ fn.ntmps)
    (hL : LoopsOk T A L fn.ntmps c) (h : runF T A L fn.ntmps c rl args = some out) : COK P f args out.rs := runF_ok2 hT hf hb hrl hnt (loops2_of hL) h
end
end Go.Sm
