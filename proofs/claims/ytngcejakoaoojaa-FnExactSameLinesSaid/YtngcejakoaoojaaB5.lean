/- The code of a body: what the machine says, the model does. -/
import Derived.Test.YtngcejakoaoojaaB4b
import Derived.LoopN
namespace Go.Sm
open Go Go.RowKit

section
variable {P : Program} {T : TT} {A : Ann} {L : Loops} {Pr : Nat → Prop} {w0 : World} {cargs : List Value} {nt : Nat}

/-- What is known of the loops holds of their rounds. -/
def LoopsOk (T : TT) (A : Ann) (L : Loops) (nt : Nat) : Code → Prop
  | .seq a b => LoopsOk T A L nt a ∧ LoopsOk T A L nt b
  | .cond _ a b => LoopsOk T A L nt a ∧ LoopsOk T A L nt b
  | .block _ a => LoopsOk T A L nt a
  | .loop a => (∀ ins outs, A.lp (firstRegion a) = some (ins, outs) → ∀ s k out, L (firstRegion a) s k = some out → ∃ n, iterK A ins outs (codeK T A L nt a) n s k = some out) ∧ LoopsOk T A L nt a
  | _ => True

def conc : Ex → Exit
  | .normal => .normal
  | .exit id => .exit id
  | .ret => .ret

theorem eval_of {s : St} {a : Act} {w : World} {ρ : List Value} (hs : SR Pr w0 cargs nt s a w ρ) {x : Operand} {v : FV} (h : evO s x = some v) : FVR w Pr ρ cargs v (a.eval x) := by
  cases x with
  | tmp t =>
    unfold evO at h
    dsimp only at h
    split at h
    · rename_i u hu
      cases h
      exact hs.slots t _ hu
    · cases h
  | const c => exact constO_ok h w Pr ρ cargs
  | global g => cases h
  | func f => cases h; exact ⟨[], rfl, trivial⟩

theorem statB_ok {ops : Array Oper} {ib p b x t : Nat} (hd : drawOk ops = true) (h : statB ops ib p b x nt = true) (hb : ib < p → ∃ o parts, ops.toList[ib]? = some o ∧ o.op = .buildSlice t 1 parts ∧ parts.toList = [(0, .tmp x)] ∧ o.dst = some b ∧ o.guard = none) :
    StatB ops ib p b x t nt := by
  unfold statB at h
  rw [Bool.and_eq_true, Bool.and_eq_true, Bool.or_eq_true] at h
  obtain ⟨⟨h1, h2⟩, h3⟩ := h
  have h3' : ib < p → (!Nat.beq b x && Nat.blt b nt && clearOf b x ib ib ops 0 (ops.toList.take p)) = true := by
    intro hlt
    rcases h3 with h3 | h3
    · have : Nat.blt ib p = true := Nat.ble_eq_true_of_le hlt
      rw [this] at h3
      cases h3
    · exact h3
  refine ⟨hd, Nat.le_of_ble_eq_true h1, fun i o ho hp j hj => ?_, fun hlt => ⟨hb hlt, ?_⟩, fun i o hip ho hlt => ?_⟩
  · have := behind_spec (all := ops.toList) h2 rfl (fun i o h => by rw [Nat.zero_add]; exact h) (fun k j hj => by simp at hj) i o ho (by omega) j (by omega)
    rwa [Nat.zero_add] at this
  · have h4 := h3' hlt
    rw [Bool.and_eq_true, Bool.and_eq_true] at h4
    refine ⟨fun e => ?_, Nat.le_of_ble_eq_true h4.1.2⟩
    subst e
    rw [Nat.beq_refl] at h4
    cases h4.1.1
  · have h4 := h3' hlt
    rw [Bool.and_eq_true] at h4
    have := clearOf_spec h4.2 i o (by rw [List.getElem?_take, if_pos hip]; exact ho)
    rw [Nat.zero_add] at this
    exact ⟨fun hne => ⟨(this.1 hne).1, (this.1 hne).2 hne⟩, this.2⟩

theorem drawnK_ok (hT : TOK P T) (hp : ∀ k, Pr k → k < w0.heap.size) {ops : Array Oper} {Q : Exit → Act → World → Prop} {out : Out} {k : St → R} {id : Nat} {s : St} {a : Act} {w : World} {ρ : List Value}
    (hd : drawOk ops = true) (h : drawnK T nt ops s k = some out) (hs : SR Pr w0 cargs nt s a w ρ) (nf : Nat) (hQ : ∀ s' a' w' ρ', k s' = some out → SR Pr w0 cargs nt s' a' w' ρ' → Ext nf ρ ρ' → Q .normal a' w') : (Code.region id ops true).wp P Q a w := by
  have key : ∀ ib p t x b, (ib < p → ∃ o parts, ops.toList[ib]? = some o ∧ o.op = .buildSlice t 1 parts ∧ parts.toList = [(0, .tmp x)] ∧ o.dst = some b ∧ o.guard = none) → drawnP T nt ops ib p t x b s k = some out → (Code.region id ops true).wp P Q a w := by
    intro ib p t x b hb h
    unfold drawnP at h
    cases hst : statB ops ib p b x nt with
    | false => rw [hst] at h; cases h
    | true =>
      rw [hst] at h
      exact drawnB_ok hT hp (statB_ok hd hst hb) h hs nf hQ
  unfold drawnK at h
  split at h
  · rename_i ib t x b hB
    obtain ⟨i, o, parts, e1, h1⟩ := findB_spec hB
    rw [Nat.zero_add] at e1
    subst e1
    exact key _ _ _ _ _ (fun _ => ⟨o, parts, h1⟩) h
  · cases hb : Nat.beq (sufAt ops ops.size 0 0 ops.toList) ops.size with
    | true => rw [hb] at h; exact drawn_ok hT hp hd h hs nf hQ
    | false =>
      rw [hb] at h
      refine key _ _ _ _ _ (fun hlt => ?_) h
      exfalso
      simp only [cond_false] at h
      unfold drawnP at h
      cases hst : statB ops ops.size (sufAt ops ops.size 0 0 ops.toList) 0 0 nt with
      | false => rw [hst] at h; cases h
      | true =>
        unfold statB at hst
        rw [Bool.and_eq_true, Bool.and_eq_true] at hst
        have := Nat.le_of_ble_eq_true hst.1.1
        simp at this
        omega

/-- **THE CODE OF A BODY.** -/
theorem codeK_ok (hT : TOK P T) (hp : ∀ k, Pr k → k < w0.heap.size) : ∀ (c : Code), LoopsOk T A L nt c → ∀ (s : St) (k : Ex → St → R) (out : Out), codeK T A L nt c s k = some out →
    ∀ (Q : Exit → Act → World → Prop) (a : Act) (w : World) (ρ : List Value), SR Pr w0 cargs nt s a w ρ →
    (∀ e s' a' w' ρ', k e s' = some out → SR Pr w0 cargs nt s' a' w' ρ' → Ext A.nf ρ ρ' → Q (conc e) a' w') → c.wp P Q a w
  | .skip, _, s, k, out, h, Q, a, w, ρ, hs, hQ => wp_skip (hQ .normal s a w ρ h hs (Ext.refl _ _))
  | .region id ops d, _, s, k, out, h, Q, a, w, ρ, hs, hQ => by
    unfold codeK at h
    cases d with
    | true =>
      simp only [cond_true] at h
      cases hd : drawOk ops with
      | false => rw [hd] at h; cases h
      | true =>
        rw [hd] at h
        simp only [cond_true] at h
        split at h
        · exact drawnK_ok hT hp hd h hs A.nf fun s' a' w' ρ' h' hs' => hQ .normal s' a' w' ρ' h' hs'
        · rename_i ia d t hA
          split at h
          · cases h
          · rename_i is x t' hS
            cases hc : (Nat.beq t t' && !Nat.beq d x && Nat.blt d nt && Nat.blt ia is && clearOf d x ia is ops 0 ops.toList) with
            | false => rw [hc] at h; cases h
            | true =>
              rw [hc] at h
              simp only [cond_true] at h
              simp only [Bool.and_eq_true] at hc
              obtain ⟨⟨⟨⟨c1, c2⟩, c3⟩, c4⟩, c5⟩ := hc
              have ht := Nat.eq_of_beq_eq_true c1
              subst ht
              obtain ⟨i1, o1, e1, a1⟩ := findA_spec hA
              obtain ⟨i2, o2, e2, a2⟩ := findS_spec hS
              rw [Nat.zero_add] at e1 e2
              subst e1 e2
              have hdx : d ≠ x := by
                intro e
                subst e
                rw [Nat.beq_refl] at c2
                cases c2
              have hcl : ∀ (i : Nat) (o : Oper), ops.toList[i]? = some o → (i ≠ ia → o.dst ≠ some d ∧ (i ≠ is → d ∉ o.looksAt ops)) ∧ (is < i → o.dst ≠ some x) := by
                intro i o hi
                have := clearOf_spec c5 i o hi
                rwa [Nat.zero_add] at this
              have hst : StatA ops ia is d x t nt := ⟨hd, ⟨o1, a1⟩, ⟨o2, a2⟩, Nat.le_of_ble_eq_true c4, hdx, Nat.le_of_ble_eq_true c3, hcl⟩
              exact drawnA_ok hT hp hst h hs A.nf fun s' a' w' ρ' h' hs' => hQ .normal s' a' w' ρ' h' hs'
    | false => exact wp_region_list (opsK_ok hT A.nf hp _ s a w ρ h hs fun s' a' w' ρ' h' hs' => hQ .normal s' a' w' ρ' h' hs')
  | .seq x y, hL, s, k, out, h, Q, a, w, ρ, hs, hQ => by
    unfold codeK at h
    refine wp_seq (codeK_ok hT hp x hL.1 s _ out h _ a w ρ hs fun e s' a' w' ρ' h' hs' he => ?_)
    cases e with
    | normal => exact codeK_ok hT hp y hL.2 s' k out h' Q a' w' ρ' hs' fun e2 s2 a2 w2 ρ2 h2 hs2 he2 => hQ e2 s2 a2 w2 ρ2 h2 hs2 (he.trans he2)
    | exit id => exact hQ _ s' a' w' ρ' h' hs' he
    | ret => exact hQ _ s' a' w' ρ' h' hs' he
  | .cond c x y, hL, s, k, out, h, Q, a, w, ρ, hs, hQ => by
    unfold codeK at h
    split at h
    · rename_i t ht
      have hc : a.eval c = .bool t := eval_of hs ht
      refine wp_cond hc ?_
      cases t with
      | true => exact codeK_ok hT hp x hL.1 s k out h Q a w ρ hs hQ
      | false => exact codeK_ok hT hp y hL.2 s k out h Q a w ρ hs hQ
    · cases h
  | .block id x, hL, s, k, out, h, Q, a, w, ρ, hs, hQ => by
    unfold codeK at h
    refine wp_block (codeK_ok hT hp x hL s _ out h _ a w ρ hs fun e s' a' w' ρ' h' hs' he => ?_)
    cases e with
    | normal => exact hQ .normal s' a' w' ρ' h' hs' he
    | exit i =>
      dsimp only at h'
      cases hb : Nat.beq i id with
      | true =>
        rw [hb] at h'
        have := Nat.eq_of_beq_eq_true hb
        subst this
        simp only [conc, Exit.inBlock, if_true]
        exact hQ .normal s' a' w' ρ' h' hs' he
      | false =>
        rw [hb] at h'
        have hne : i ≠ id := fun e => by subst e; rw [Nat.beq_refl] at hb; cases hb
        simp only [conc, Exit.inBlock, if_neg hne]
        exact hQ (.exit i) s' a' w' ρ' h' hs' he
    | ret => exact hQ .ret s' a' w' ρ' h' hs' he
  | .loop x, hL, s, k, out, h, Q, a, w, ρ, hs, hQ => by
    unfold codeK at h
    split at h
    · rename_i ins outs hA
      split at h
      · rename_i s1 hn
        obtain ⟨ρ1, hs1, he1⟩ := normS_ok hn hs
        obtain ⟨n, hi⟩ := hL.1 ins outs hA s1 k out h
        refine wp_loop_rounds n ?_
        have key : ∀ (n : Nat) (s : St) (a : Act) (w : World) (ρ : List Value), iterK A ins outs (codeK T A L nt x) n s k = some out → SR Pr w0 cargs nt s a w ρ → Ext A.nf ρ1 ρ → Code.rounds P x Q n a w := by
          intro n
          induction n with
          | zero => intro s a w ρ h _ _; cases h
          | succ n ih =>
            intro s a w ρ h hs hx
            unfold iterK at h
            rw [rounds_succ]
            refine codeK_ok hT hp x hL.2 s _ out h _ a w ρ hs fun e s' a' w' ρ' h' hs' he => ?_
            cases e with
            | normal =>
              dsimp only at h'
              split at h'
              · rename_i s2 hn2
                obtain ⟨ρ2, hs2, he2⟩ := normS_ok hn2 hs'
                exact ih s2 a' w' ρ2 h' hs2 (hx.trans (he.trans he2))
              · cases h'
            | exit i =>
              dsimp only [exK] at h'
              split at h'
              · rename_i s2 hn2
                obtain ⟨ρ2, hs2, he2⟩ := normS_ok hn2 hs'
                exact hQ (.exit i) s2 a' w' ρ2 h' hs2 (he1.trans (hx.trans (he.trans he2)))
              · cases h'
            | ret =>
              dsimp only [exK] at h'
              split at h'
              · rename_i s2 hn2
                obtain ⟨ρ2, hs2, he2⟩ := normS_ok hn2 hs'
                exact hQ .ret s2 a' w' ρ2 h' hs2 (he1.trans (hx.trans (he.trans he2)))
              · cases h'
        exact key n s1 a w ρ1 hi hs1 (Ext.refl _ _)
      · cases h
    · cases h
  | .ret, _, s, k, out, h, Q, a, w, ρ, hs, hQ => wp_ret (hQ .ret s a w ρ h hs (Ext.refl _ _))
  | .exit id, _, s, k, out, h, Q, a, w, ρ, hs, hQ => wp_exit (hQ (.exit id) s a w ρ h hs (Ext.refl _ _))
  | .rangeFunc .., _, s, k, out, h, Q, a, w, ρ, hs, hQ => by cases h
  | .scope _, _, s, k, out, h, Q, a, w, ρ, hs, hQ => by cases h
  | .label _, _, s, k, out, h, Q, a, w, ρ, hs, hQ => by cases h
  | .goto _, _, s, k, out, h, Q, a, w, ρ, hs, hQ => by cases h
  | .refuse _, _, s, k, out, h, Q, a, w, ρ, hs, hQ => by cases h

end
end Go.Sm
