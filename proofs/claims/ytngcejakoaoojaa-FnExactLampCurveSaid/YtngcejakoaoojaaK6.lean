/- A machine on plain data, its laws: part 6. -/
import Derived.Test.YtngcejakoaoojaaK5
import Derived.LoopN
import Derived.Carry
import Derived.SizedLaws
import Derived.ProofKit
import Derived.Laws.Cover2
import Derived.Deep.Slices
/- The code of a body: what the machine says, the model does. -/
namespace Go.Sm
open Go Go.RowKit

section
variable {P : Program} {T : TT} {A : Ann} {L : Loops} {Pr : Nat → Prop} {w0 : World} {cargs : List Value} {nt : Nat}

/-- What is known of the loops holds of their rounds. -/
def LoopsOk (T : TT) (A : Ann) (L : Loops) (nt : Nat) : Code → Prop
  | .seq a b => LoopsOk T A L nt a ∧ LoopsOk T A L nt b
  | .cond _ a b => LoopsOk T A L nt a ∧ LoopsOk T A L nt b
  | .block _ a => LoopsOk T A L nt a
  | .loop a => (∀ ins outs, A.lp (firstRegion a) = some (ins, outs) → ∀ s k out, L (firstRegion a) s k = some out → ∃ n, iterK A ins outs (codeK T A L nt a) n s k = some out) ∧ LoopsOk T A L nt a
  | _ => True

def conc : Ex → Exit
  | .normal => .normal
  | .exit id => .exit id
  | .ret => .ret

theorem eval_of {s : St} {a : Act} {w : World} {ρ : List Value} (hs : SR Pr w0 cargs nt s a w ρ) {x : Operand} {v : FV} (h : evO s x = some v) : FVR w Pr ρ cargs v (a.eval x) := by
  cases x with
  | tmp t =>
    unfold evO at h
    dsimp only at h
    split at h
    · rename_i u hu
      cases h
      exact hs.slots t _ hu
    · cases h
  | const c => exact constO_ok h w Pr ρ cargs
  | global g => cases h
  | func f => cases h; exact ⟨[], rfl, trivial⟩

theorem statB_ok {ops : Array Oper} {ib p b x t : Nat} (hd : drawOk ops = true) (h : statB ops ib p b x nt = true) (hb : ib < p → ∃ o parts, ops.toList[ib]? = some o ∧ o.op = .buildSlice t 1 parts ∧ parts.toList = [(0, .tmp x)] ∧ o.dst = some b ∧ o.guard = none) :
    StatB ops ib p b x t nt := by
  unfold statB at h
  rw [Bool.and_eq_true, Bool.and_eq_true, Bool.or_eq_true] at h
  obtain ⟨⟨h1, h2⟩, h3⟩ := h
  have h3' : ib < p → (!Nat.beq b x && Nat.blt b nt && clearOf b x ib ib ops 0 (ops.toList.take p)) = true := by
    intro hlt
    rcases h3 with h3 | h3
    · have : Nat.blt ib p = true := Nat.ble_eq_true_of_le hlt
      rw [this] at h3
      cases h3
    · exact h3
  refine ⟨hd, Nat.le_of_ble_eq_true h1, fun i o ho hp j hj => ?_, fun hlt => ⟨hb hlt, ?_⟩, fun i o hip ho hlt => ?_⟩
  · have := behind_spec (all := ops.toList) h2 rfl (fun i o h => by rw [Nat.zero_add]; exact h) (fun k j hj => by simp at hj) i o ho (by omega) j (by omega)
    rwa [Nat.zero_add] at this
  · have h4 := h3' hlt
    rw [Bool.and_eq_true, Bool.and_eq_true] at h4
    refine ⟨fun e => ?_, Nat.le_of_ble_eq_true h4.1.2⟩
    subst e
    rw [Nat.beq_refl] at h4
    cases h4.1.1
  · have h4 := h3' hlt
    rw [Bool.and_eq_true] at h4
    have := clearOf_spec h4.2 i o (by rw [List.getElem?_take, if_pos hip]; exact ho)
    rw [Nat.zero_add] at this
    exact ⟨fun hne => ⟨(this.1 hne).1, (this.1 hne).2 hne⟩, this.2⟩

theorem drawnK_ok (hT : TOK P T) (hp : ∀ k, Pr k → k < w0.heap.size) {ops : Array Oper} {Q : Exit → Act → World → Prop} {out : Out} {k : St → R} {id : Nat} {s : St} {a : Act} {w : World} {ρ : List Value}
    (hd : drawOk ops = true) (h : drawnK T nt ops s k = some out) (hs : SR Pr w0 cargs nt s a w ρ) (nf : Nat) (hQ : ∀ s' a' w' ρ', k s' = some out → SR Pr w0 cargs nt s' a' w' ρ' → Ext nf ρ ρ' → Q .normal a' w') : (Code.region id ops true).wp P Q a w := by
  have key : ∀ ib p t x b, (ib < p → ∃ o parts, ops.toList[ib]? = some o ∧ o.op = .buildSlice t 1 parts ∧ parts.toList = [(0, .tmp x)] ∧ o.dst = some b ∧ o.guard = none) → drawnP T nt ops ib p t x b s k = some out → (Code.region id ops true).wp P Q a w := by
    intro ib p t x b hb h
    unfold drawnP at h
    cases hst : statB ops ib p b x nt with
    | false => rw [hst] at h; cases h
    | true =>
      rw [hst] at h
      exact drawnB_ok hT hp (statB_ok hd hst hb) h hs nf hQ
  unfold drawnK at h
  split at h
  · rename_i ib t x b hB
    obtain ⟨i, o, parts, e1, h1⟩ := findB_spec hB
    rw [Nat.zero_add] at e1
    subst e1
    exact key _ _ _ _ _ (fun _ => ⟨o, parts, h1⟩) h
  · cases hb : Nat.beq (sufAt ops ops.size 0 0 ops.toList) ops.size with
    | true => rw [hb] at h; exact drawn_ok hT hp hd h hs nf hQ
    | false =>
      rw [hb] at h
      simp only [cond_false] at h
      cases hbf : behindFrom (sufAt ops ops.size 0 0 ops.toList) 0 [] ops.toList with
      | false => rw [hbf] at h; exact drawnS_ok hT hp hd h hs nf hQ
      | true =>
      rw [hbf] at h
      simp only [cond_true] at h
      refine key _ _ _ _ _ (fun hlt => ?_) h
      exfalso
      unfold drawnP at h
      cases hst : statB ops ops.size (sufAt ops ops.size 0 0 ops.toList) 0 0 nt with
      | false => rw [hst] at h; cases h
      | true =>
        unfold statB at hst
        rw [Bool.and_eq_true, Bool.and_eq_true] at hst
        have := Nat.le_of_ble_eq_true hst.1.1
        simp at this
        omega

theorem normX_ok {nf : Nat} {ts : List Nat} {s s' : St} (h : normS nf ts s = some s') {a : Act} {w : World} {ρ : List Value} (hs : SRx Pr w0 cargs nt s a w ρ) : ∃ ρ', SRx Pr w0 cargs nt s' a w ρ' ∧ Ext nf ρ ρ' := by
  obtain ⟨Pr', w1, h1, h2, h3, h4⟩ := hs
  obtain ⟨ρ', h5, h6⟩ := normS_ok h h4
  exact ⟨ρ', ⟨Pr', w1, h1, h2, h3, h5⟩, h6⟩

/-- **THE CODE OF A BODY.** -/
theorem codeK_ok (hT : TOK P T) : ∀ (c : Code), LoopsOk T A L nt c → ∀ (s : St) (k : Ex → St → R) (out : Out), codeK T A L nt c s k = some out →
    ∀ (Q : Exit → Act → World → Prop) (a : Act) (w : World) (ρ : List Value), SRx Pr w0 cargs nt s a w ρ →
    (∀ e s' a' w' ρ', k e s' = some out → SRx Pr w0 cargs nt s' a' w' ρ' → Ext A.nf ρ ρ' → Q (conc e) a' w') → c.wp P Q a w
  | .skip, _, s, k, out, h, Q, a, w, ρ, hs, hQ => wp_skip (hQ .normal s a w ρ h hs (Ext.refl _ _))
  | .region id ops d, _, s, k, out, h, Q, a, w, ρ, hs0, hQ => by
    obtain ⟨Pr', w1, hsub, hp, hkp, hs⟩ := hs0
    unfold codeK at h
    cases d with
    | true =>
      simp only [cond_true] at h
      cases hd : drawOk ops with
      | false => rw [hd] at h; cases h
      | true =>
        rw [hd] at h
        simp only [cond_true] at h
        cases hgg : Nat.ble 2 (newsN (specials T 0 [] ops.toList)) with
        | true =>
          rw [hgg] at h
          simp only [cond_true] at h
          refine drawnG_ok hT hp hd rfl h hs A.nf fun s' a' w' ρ' h' hs' => ?_
          obtain ⟨Pr2, w2, k1, k2, k3, k4⟩ := hs'
          exact hQ .normal s' a' w' ρ' h' ⟨Pr2, w2, fun k hk => k1 k (hsub k hk), k2, hkp.trans (k3.mono hsub), k4⟩
        | false =>
        rw [hgg] at h
        simp only [cond_false] at h
        split at h
        · exact drawnK_ok hT hp hd h hs A.nf fun s' a' w' ρ' h' hs' => hQ .normal s' a' w' ρ' h' ⟨Pr', w1, hsub, hp, hkp, hs'⟩
        · rename_i ia d t hA
          split at h
          · cases h
          · rename_i is x t' hS
            cases hc : (Nat.beq t t' && !Nat.beq d x && Nat.blt d nt && Nat.blt ia is && clearOf d x ia is ops 0 ops.toList) with
            | false => rw [hc] at h; cases h
            | true =>
              rw [hc] at h
              simp only [cond_true] at h
              simp only [Bool.and_eq_true] at hc
              obtain ⟨⟨⟨⟨c1, c2⟩, c3⟩, c4⟩, c5⟩ := hc
              have ht := Nat.eq_of_beq_eq_true c1
              subst ht
              obtain ⟨i1, o1, e1, a1⟩ := findA_spec hA
              obtain ⟨i2, o2, e2, a2⟩ := findS_spec hS
              rw [Nat.zero_add] at e1 e2
              subst e1 e2
              have hdx : d ≠ x := by
                intro e
                subst e
                rw [Nat.beq_refl] at c2
                cases c2
              have hcl : ∀ (i : Nat) (o : Oper), ops.toList[i]? = some o → (i ≠ ia → o.dst ≠ some d ∧ (i ≠ is → d ∉ o.looksAt ops)) ∧ (is < i → o.dst ≠ some x) := by
                intro i o hi
                have := clearOf_spec c5 i o hi
                rwa [Nat.zero_add] at this
              have hst : StatA ops ia is d x t nt := ⟨hd, ⟨o1, a1⟩, ⟨o2, a2⟩, Nat.le_of_ble_eq_true c4, hdx, Nat.le_of_ble_eq_true c3, hcl⟩
              exact drawnA_ok hT hp hst h hs A.nf fun s' a' w' ρ' h' hs' => hQ .normal s' a' w' ρ' h' ⟨Pr', w1, hsub, hp, hkp, hs'⟩
    | false => exact wp_region_list (opsK_ok hT A.nf hp _ s a w ρ h hs fun s' a' w' ρ' h' hs' => hQ .normal s' a' w' ρ' h' ⟨Pr', w1, hsub, hp, hkp, hs'⟩)
  | .seq x y, hL, s, k, out, h, Q, a, w, ρ, hs, hQ => by
    unfold codeK at h
    refine wp_seq (codeK_ok hT x hL.1 s _ out h _ a w ρ hs fun e s' a' w' ρ' h' hs' he => ?_)
    cases e with
    | normal => exact codeK_ok hT y hL.2 s' k out h' Q a' w' ρ' hs' fun e2 s2 a2 w2 ρ2 h2 hs2 he2 => hQ e2 s2 a2 w2 ρ2 h2 hs2 (he.trans he2)
    | exit id => exact hQ _ s' a' w' ρ' h' hs' he
    | ret => exact hQ _ s' a' w' ρ' h' hs' he
  | .cond c x y, hL, s, k, out, h, Q, a, w, ρ, hs, hQ => by
    unfold codeK at h
    split at h
    · rename_i t ht
      obtain ⟨_, _, _, _, _, hs1⟩ := hs
      have hc : a.eval c = .bool t := eval_of hs1 ht
      replace hs : SRx Pr w0 cargs nt s a w ρ := ⟨_, _, ‹_›, ‹_›, ‹_›, hs1⟩
      refine wp_cond hc ?_
      cases t with
      | true => exact codeK_ok hT x hL.1 s k out h Q a w ρ hs hQ
      | false => exact codeK_ok hT y hL.2 s k out h Q a w ρ hs hQ
    · cases h
  | .block id x, hL, s, k, out, h, Q, a, w, ρ, hs, hQ => by
    unfold codeK at h
    refine wp_block (codeK_ok hT x hL s _ out h _ a w ρ hs fun e s' a' w' ρ' h' hs' he => ?_)
    cases e with
    | normal => exact hQ .normal s' a' w' ρ' h' hs' he
    | exit i =>
      dsimp only at h'
      cases hb : Nat.beq i id with
      | true =>
        rw [hb] at h'
        have := Nat.eq_of_beq_eq_true hb
        subst this
        simp only [conc, Exit.inBlock, if_true]
        exact hQ .normal s' a' w' ρ' h' hs' he
      | false =>
        rw [hb] at h'
        have hne : i ≠ id := fun e => by subst e; rw [Nat.beq_refl] at hb; cases hb
        simp only [conc, Exit.inBlock, if_neg hne]
        exact hQ (.exit i) s' a' w' ρ' h' hs' he
    | ret => exact hQ .ret s' a' w' ρ' h' hs' he
  | .loop x, hL, s, k, out, h, Q, a, w, ρ, hs, hQ => by
    unfold codeK at h
    split at h
    · rename_i ins outs hA
      split at h
      · rename_i s1 hn
        obtain ⟨ρ1, hs1, he1⟩ := normX_ok hn hs
        obtain ⟨n, hi⟩ := hL.1 ins outs hA s1 k out h
        refine wp_loop_rounds n ?_
        have key : ∀ (n : Nat) (s : St) (a : Act) (w : World) (ρ : List Value), iterK A ins outs (codeK T A L nt x) n s k = some out → SRx Pr w0 cargs nt s a w ρ → Ext A.nf ρ1 ρ → Code.rounds P x Q n a w := by
          intro n
          induction n with
          | zero => intro s a w ρ h _ _; cases h
          | succ n ih =>
            intro s a w ρ h hs hx
            unfold iterK at h
            rw [rounds_succ]
            refine codeK_ok hT x hL.2 s _ out h _ a w ρ hs fun e s' a' w' ρ' h' hs' he => ?_
            cases e with
            | normal =>
              dsimp only at h'
              split at h'
              · rename_i s2 hn2
                obtain ⟨ρ2, hs2, he2⟩ := normX_ok hn2 hs'
                exact ih s2 a' w' ρ2 h' hs2 (hx.trans (he.trans he2))
              · cases h'
            | exit i =>
              dsimp only [exK] at h'
              split at h'
              · rename_i s2 hn2
                obtain ⟨ρ2, hs2, he2⟩ := normX_ok hn2 hs'
                exact hQ (.exit i) s2 a' w' ρ2 h' hs2 (he1.trans (hx.trans (he.trans he2)))
              · cases h'
            | ret =>
              dsimp only [exK] at h'
              split at h'
              · rename_i s2 hn2
                obtain ⟨ρ2, hs2, he2⟩ := normX_ok hn2 hs'
                exact hQ .ret s2 a' w' ρ2 h' hs2 (he1.trans (hx.trans (he.trans he2)))
              · cases h'
        exact key n s1 a w ρ1 hi hs1 (Ext.refl _ _)
      · cases h
    · cases h
  | .ret, _, s, k, out, h, Q, a, w, ρ, hs, hQ => wp_ret (hQ .ret s a w ρ h hs (Ext.refl _ _))
  | .exit id, _, s, k, out, h, Q, a, w, ρ, hs, hQ => wp_exit (hQ (.exit id) s a w ρ h hs (Ext.refl _ _))
  | .rangeFunc .., _, s, k, out, h, Q, a, w, ρ, hs, hQ => by cases h
  | .scope _, _, s, k, out, h, Q, a, w, ρ, hs, hQ => by cases h
  | .label _, _, s, k, out, h, Q, a, w, ρ, hs, hQ => by cases h
  | .goto _, _, s, k, out, h, Q, a, w, ρ, hs, hQ => by cases h
  | .refuse _, _, s, k, out, h, Q, a, w, ρ, hs, hQ => by cases h

end
end Go.Sm

/- A function: what the machine says of its body, a call of it does. -/
namespace Go.Sm
open Go Go.RowKit

/-- What the results' variables hold. -/
def resK (T : TT) (s : St) : List ResultVar → (List FV → R) → R
  | [], k => k []
  | .tmp t :: l, k => match lk s.sl t with
    | some (.fv v) => resK T s l fun vs => k (v :: vs)
    | _ => none
  | .cell a t :: l, k => match lk s.sl a with
    | some (.fv (.pt p)) => loadK T s.H t p fun v => resK T s l fun vs => k (v :: vs)
    | _ => none

def rvO (H : Hp) : FV → Option RV
  | .el e => some (.el e)
  | .nil => some .nil
  | .vw (some i) _ => some (.arg i)
  | .own r => match rowAt H r with
    | some row => some (.fresh row.e row.v)
    | none => none
  | _ => none

def rvAll (H : Hp) : List FV → Option (List RV)
  | [] => some []
  | x :: xs => match rvO H x, rvAll H xs with
    | some r, some rs => some (r :: rs)
    | _, _ => none

def notOwn (r : Nat) : List FV → Bool
  | [] => true
  | .own r' :: xs => !Nat.beq r r' && notOwn r xs
  | _ :: xs => notOwn r xs

def apartB : List FV → Bool
  | [] => true
  | .own r :: xs => notOwn r xs && apartB xs
  | _ :: xs => apartB xs

def argIn (i : Nat) : FV → FV
  | .vw none vec => .vw (some i) vec
  | x => x

def initSl : Nat → List FV → List (Nat × AV)
  | _, [] => []
  | i, x :: xs => (i, .fv (argIn i x)) :: initSl (i + 1) xs

/-- The end of a body that hands back a slice of slices. -/
def end2 (s : St) : List FV → R
  | [.own r] => match llAt s.H r with
    | some row => some ⟨[.new2 row.e row.v], none⟩
    | none => none
  | _ => none

/-- The first row, whatever it is. -/
def row0 (H : Hp) : Option Row := match rowAt H 0 with
  | some row => some row
  | none => llAt H 0

/-- The end of a body. -/
def endK (m : Bool) (s : St) (vs : List FV) : R :=
  bif apartB vs then (match rvAll s.H vs with
    | some rs => some ⟨rs, bif m then row0 s.H else none⟩
    | none => bif m then none else end2 s vs) else none

def finK (T : TT) (m : Bool) (rl : List ResultVar) : Ex → St → R
  | .exit _, _ => none
  | _, s => resK T s rl (endK m s)

/-- A function that only reads what it is handed. -/
def runF (T : TT) (A : Ann) (L : Loops) (nt : Nat) (c : Code) (rl : List ResultVar) (args : List FV) : R :=
  codeK T A L nt c ⟨initSl 0 args, []⟩ (finK T false rl)

/-- A function that writes its first argument's row. -/
def runM (T : TT) (A : Ann) (L : Loops) (nt : Nat) (c : Code) (rl : List ResultVar) (e : Nat) (vec : Vec) (args : List FV) : R :=
  codeK T A L nt c ⟨(0, .fv (.own 0)) :: initSl 1 args, [some ⟨e, vec⟩]⟩ (finK T true rl)

theorem endK_ok {m : Bool} {s : St} {vs : List FV} {out : Out} (h : endK m s vs = some out) : (apartB vs = true ∧ rvAll s.H vs = some out.rs ∧ (m = true → row0 s.H = out.row)) ∨ (m = false ∧ end2 s vs = some out) := by
  unfold endK at h
  cases ha : apartB vs with
  | false => rw [ha] at h; cases h
  | true =>
    rw [ha] at h
    simp only [cond_true] at h
    split at h
    · rename_i rs hrs
      cases h
      exact .inl ⟨rfl, hrs, fun hm => by rw [hm]; rfl⟩
    · cases m with
      | true => cases h
      | false => exact .inr ⟨rfl, h⟩

section
variable {P : Program} {T : TT} {A : Ann} {L : Loops} {Pr : Nat → Prop} {w0 : World} {cargs : List Value} {nt : Nat}

def resOne (tmps : Array Value) : ResultVar → Sem Value
  | .tmp t => pure (tmps.getD t undef)
  | .cell a t => do loadVar t (← asAddr (tmps.getD a undef))

theorem results_eq (fn : Func) (tmps : Array Value) : results fn tmps = (do
    let vs ← fn.results.mapM (resOne tmps)
    pure (if h : vs.size = 1 then vs[0] else .tuple vs)) := by
  have : (fun x => match x with
    | .tmp t => pure (tmps.getD t undef)
    | .cell a t => do loadVar t (← asAddr (tmps.getD a undef)) : ResultVar → Sem Value) = resOne tmps := by
    funext x
    cases x <;> rfl
  unfold results
  rw [← this]
  rfl

theorem resK_ok (hT : TOK P T) {s : St} {out : Out} : ∀ (l : List ResultVar) (k : List FV → R), resK T s l k = some out →
    ∃ vs, k vs = some out ∧ ∀ (w0 w : World) (Pr : Nat → Prop) (cargs : List Value) (nt : Nat) (a : Act) (ρ : List Value), (∀ k, Pr k → k < w0.heap.size) → SR Pr w0 cargs nt s a w ρ →
      ∃ us, (l.mapM (resOne a.tmps)).run P w = .ok us w ∧ AllR (FVR w Pr ρ cargs) vs us
  | [], k, h => ⟨[], h, fun w0 w Pr cargs nt a ρ hp hs => ⟨[], by simp, trivial⟩⟩
  | .tmp t :: l, k, h => by
    unfold resK at h
    split at h
    · rename_i v hv
      obtain ⟨vs, h1, h2⟩ := resK_ok hT l _ h
      refine ⟨v :: vs, h1, fun w0 w Pr cargs nt a ρ hp hs => ?_⟩
      obtain ⟨us, h3, h4⟩ := h2 w0 w Pr cargs nt a ρ hp hs
      refine ⟨a.tmps.getD t undef :: us, ?_, hs.slots t _ hv, h4⟩
      rw [List.mapM_cons]
      simp only [resOne, Sem.run_bind, Sem.run_pure, Result.andThen_ok, h3]
    · cases h
  | .cell x t :: l, k, h => by
    unfold resK at h
    split at h
    · rename_i p hv
      obtain ⟨v, h1, h2⟩ := loadK_ok hT h
      obtain ⟨vs, h3, h4⟩ := resK_ok hT l _ h1
      refine ⟨v :: vs, h3, fun w0 w Pr cargs nt a ρ hp hs => ?_⟩
      obtain ⟨us, h5, h6⟩ := h4 w0 w Pr cargs nt a ρ hp hs
      have hpt : PtR w Pr ρ p (a.tmps.getD x undef) := hs.slots x _ hv
      obtain ⟨u, h7, h8⟩ := h2 w Pr ρ cargs _ (hs.lt hp) hs.heap hpt
      obtain ⟨b, hb, _⟩ := PtR.add (o := 0) hpt
      refine ⟨u :: us, ?_, h8, h6⟩
      rw [List.mapM_cons]
      rw [hb] at h7
      have h7' : (loadVar t b).run P w = .ok u w := by simpa [Instr.loadAt, Instr.sureAddr] using h7
      simp only [resOne, hb, asAddr, Sem.run_bind, Sem.run_pure, Result.andThen_ok, h7', h5]
    · cases h

theorem results_run {fn : Func} {tmps : Array Value} {w : World} {us : List Value} (h : (fn.results.toList.mapM (resOne tmps)).run P w = .ok us w) : (results fn tmps).run P w = .ok (packV us) w := by
  rw [results_eq, Array.mapM_eq_mapM_toList]
  match us with
  | [] => simp [h, packV]
  | [v] => simp [h, packV]
  | v :: v' :: us => simp [h, packV]

theorem initSl_lk : ∀ (args : List FV) (i t : Nat) (v : AV), lk (initSl i args) t = some v → ∃ j x, t = i + j ∧ args[j]? = some x ∧ v = .fv (argIn t x)
  | [], i, t, v, h => by cases h
  | x :: xs, i, t, v, h => by
    unfold initSl at h
    rw [lk_cons] at h
    split at h
    · rename_i e
      cases h
      exact ⟨0, x, by omega, rfl, by rw [e]⟩
    · obtain ⟨j, y, h1, h2, h3⟩ := initSl_lk xs (i + 1) t v h
      exact ⟨j + 1, y, by omega, by simpa using h2, h3⟩

theorem argIn_ok {w : World} {ρ : List Value} {x : FV} {v : Value} {i : Nat} (h : FVR w Pr [] [] x v) (hi : cargs[i]? = some v) : FVR w Pr ρ cargs (argIn i x) v := by
  have hpt : ∀ p u, PtR w Pr [] p u → PtR w Pr ρ p u := by
    intro p u hp
    obtain ⟨b, sz, i, j⟩ := p
    cases b with
    | v vec => exact hp
    | r r =>
      obtain ⟨vr, g, h1, _⟩ := hp
      simp at h1
    | w j =>
      obtain ⟨a, u, _, h1, _⟩ := hp
      simp at h1
    | s kd xss => exact hp
  cases x with
  | el e => exact h
  | nil => exact h
  | vw o vec =>
    obtain ⟨h1, h2⟩ := h
    cases o with
    | none => exact ⟨h1, fun j hj => by cases hj; exact hi⟩
    | some j => have := h2 j rfl; simp at this
  | own r => have : ([] : List Value)[r]? = some v := h; simp at this
  | pt p => exact hpt p v h
  | fn f caps =>
    obtain ⟨cs, h1, h2⟩ := h
    exact ⟨cs, h1, h2.mono hpt⟩
  | vv o kd xss => exact ⟨h.1, fun j hj => by have := h.2 j hj; simp at this⟩
  | pv kd xss i => exact h
  | ne k => exact h
  | pl r i => obtain ⟨vr, g, h1, _⟩ := h; simp at h1
  | mv r e π => have h1 := h.1; simp at h1
  | pm r e π i => obtain ⟨⟨vr, g, h1, _⟩, _⟩ := h; simp at h1

theorem notOwn_spec {r : Nat} : ∀ {xs : List FV}, notOwn r xs = true → ∀ (j r' : Nat), xs[j]? = some (.own r') → r ≠ r'
  | [], _, j, r', h => by simp at h
  | x :: xs, h, j, r', hj => by
    cases j with
    | zero =>
      simp at hj
      subst hj
      unfold notOwn at h
      rw [Bool.and_eq_true] at h
      intro e
      subst e
      rw [Nat.beq_refl] at h
      simp at h
    | succ j =>
      have : notOwn r xs = true := by
        unfold notOwn at h
        split at h
        · rename_i heq; cases heq
        · rename_i heq; cases heq; rw [Bool.and_eq_true] at h; exact h.2
        · rename_i heq; cases heq; exact h
      exact notOwn_spec this j r' (by simpa using hj)

theorem apartB_spec : ∀ {xs : List FV}, apartB xs = true → ∀ (i j r r' : Nat), i < j → xs[i]? = some (.own r) → xs[j]? = some (.own r') → r ≠ r'
  | [], _, i, j, r, r', _, h, _ => by simp at h
  | x :: xs, h, i, j, r, r', hij, hi, hj => by
    cases i with
    | zero =>
      simp at hi
      subst hi
      unfold apartB at h
      rw [Bool.and_eq_true] at h
      obtain ⟨q, rfl⟩ : ∃ q, j = q + 1 := ⟨j - 1, by omega⟩
      exact notOwn_spec h.1 q r' (by simpa using hj)
    | succ i =>
      obtain ⟨q, rfl⟩ : ∃ q, j = q + 1 := ⟨j - 1, by omega⟩
      have : apartB xs = true := by
        unfold apartB at h
        split at h
        · rename_i heq; cases heq
        · rename_i heq; cases heq; rw [Bool.and_eq_true] at h; exact h.2
        · rename_i heq; cases heq; exact h
      exact apartB_spec this i q r r' (by omega) (by simpa using hi) (by simpa using hj)

theorem rvAll_ok {w0 w : World} {ρ : List Value} {H : Hp} (hH : HR w Pr ρ H) (hpr : ∀ (r : Nat) (u : Value) (g : Nat), ρ[r]? = some u → u.ownBlock = some g → ¬ Pr g → w0.heap.size ≤ g) : ∀ {xs : List FV} {rs : List RV} {vs : List Value},
    rvAll H xs = some rs → AllR (FVR w Pr ρ cargs) xs vs → AllR (RVR w0 w cargs) rs vs ∧ ∀ (i : Nat) (r : RV) (v : Value), rs[i]? = some r → vs[i]? = some v → r.isFresh = true → ∃ j row, xs[i]? = some (.own j) ∧ ρ[j]? = some v ∧ rowAt H j = some row
  | [], rs, [], h, _ => by simp [rvAll] at h; subst h; exact ⟨trivial, fun i r v h => by simp at h⟩
  | x :: xs, rs, v :: vs, h, hv => by
    unfold rvAll at h
    split at h
    · rename_i r rs' hr hrs
      cases h
      obtain ⟨h1, h2⟩ := rvAll_ok hH hpr hrs hv.2
      have hx := hv.1
      refine ⟨⟨?_, h1⟩, fun i r' v' hi hvi hf => ?_⟩
      · unfold rvO at hr
        split at hr
        · cases hr; exact hx
        · cases hr; exact hx
        · cases hr; exact hx.2 _ rfl
        · rename_i r'
          split at hr
          · rename_i row hrow
            cases hr
            obtain ⟨v2, h3, vs2, h4, h5, h6⟩ := hH.row r' row hrow
            have : v2 = v := by
              have h7 : ρ[r']? = some v := hx
              rw [h3] at h7
              cases h7
              rfl
            subst this
            exact ⟨vs2, h4, h5, fun g hg => hpr r' _ g h3 hg (h6 g hg)⟩
          · cases hr
        · cases hr
      · cases i with
        | zero =>
          simp at hi hvi
          subst hi hvi
          unfold rvO at hr
          split at hr
          · cases hr; cases hf
          · cases hr; cases hf
          · cases hr; cases hf
          · rename_i r'
            split at hr
            · rename_i row hrow
              exact ⟨r', row, rfl, hx, hrow⟩
            · cases hr
          · cases hr
        | succ i =>
          obtain ⟨j, row, h3, h4, h5⟩ := h2 i r' v' (by simpa using hi) (by simpa using hvi) hf
          exact ⟨j, row, by simpa using h3, h4, h5⟩
    · cases h
  | [], _, _ :: _, _, hv => hv.elim
  | _ :: _, _, [], _, hv => hv.elim

theorem getD_args {cargs : List Value} {j n : Nat} {u : Value} (h : cargs[j]? = some u) : (cargs.toArray ++ Array.replicate n undef).getD j undef = u := by
  have hj : j < cargs.length := by
    rcases Nat.lt_or_ge j cargs.length with h' | h'
    · exact h'
    · rw [List.getElem?_eq_none h'] at h; cases h
  have : (cargs.toArray ++ Array.replicate n undef)[j]? = some u := by
    rw [Array.getElem?_append_left (by simpa using hj)]
    simpa using h
  simp [Array.getD_eq_getD_getElem?, this]

theorem rvs_apart {w0 w : World} {ρ : List Value} {H : Hp} (hH : HR w Pr ρ H) {xs : List FV} {rs : List RV} {vs : List Value} (ha : apartB xs = true)
    (h : ∀ (i : Nat) (r : RV) (v : Value), rs[i]? = some r → vs[i]? = some v → r.isFresh = true → ∃ j row, xs[i]? = some (.own j) ∧ ρ[j]? = some v ∧ rowAt H j = some row) (hall : AllR (RVR w0 w cargs) rs vs) : RVs w0 w cargs rs vs := by
  refine ⟨hall, fun i j r r' v v' g hne hi hj hf hf' hv hv' hg => ?_⟩
  obtain ⟨a, row, h1, h2, h3⟩ := h i r v hi hv hf
  obtain ⟨b, row', h4, h5, h6⟩ := h j r' v' hj hv' hf'
  have hab : a ≠ b := by
    rcases Nat.lt_or_gt_of_ne hne with h | h
    · exact apartB_spec ha i j a b h h1 h4
    · exact (apartB_spec ha j i b a h h4 h1).symm
  exact hH.apart a b row row' v v' g hab h3 h6 h2 h5 hg

/-- **A FUNCTION THAT ONLY READS WHAT IT IS HANDED.** -/
theorem runF_ok (hT : TOK P T) {f : Nat} {fn : Func} {c : Code} {rl : List ResultVar} {args : List FV} {out : Out} (hf : P.funcs[f]? = some fn) (hb : fn.body = some c) (hrl : fn.results.toList = rl) (hnt : args.length ≤ fn.ntmps)
    (hL : LoopsOk T A L fn.ntmps c) (h : runF T A L fn.ntmps c rl args = some out) : COK P f args out.rs := by
  subst hrl
  unfold runF at h
  intro w cargs hargs
  have hlen := hargs.length
  refine calls_of_wp hf hb ?_
  have hp : ∀ k, (fun k => k < w.heap.size) k → k < w.heap.size := fun _ h => h
  have hs : SR (fun k => k < w.heap.size) w cargs fn.ntmps ⟨initSl 0 args, []⟩ { tmps := cargs.toArray ++ Array.replicate (fn.ntmps - cargs.toArray.size) undef, defers := [] } w [] := by
    refine ⟨by simp; omega, rfl, fun t v hv => ?_, ⟨rfl, fun r row hr => by simp [rowAt] at hr, fun r r' row row' v v' g _ hr => by simp [rowAt] at hr, LLR.noRow fun r => rfl⟩, Keep.refl _ _⟩
    obtain ⟨j, x, rfl, hx, rfl⟩ := initSl_lk args 0 t v hv
    obtain ⟨u, hu, hr⟩ := hargs.get j x hx
    rw [Nat.zero_add, getD_args hu]
    exact argIn_ok hr hu
  refine codeK_ok hT c hL _ _ out h _ _ w [] ⟨_, w, fun _ h => h, hp, Keep.refl _ _, hs⟩ fun e s' a' w' ρ' hk hs0' _ => ?_
  obtain ⟨Pr', w1, hsub, hp', hkp, hs'⟩ := hs0'
  have hkeep : Keep (fun k => k < w.heap.size) w w' := hkp.trans (hs'.keep.mono hsub)
  have main : resK T s' fn.results.toList (endK false s') = some out → a'.defers = [] ∧ ∃ v, (results fn a'.tmps).run P w' = .ok v w' ∧
      (∃ vs, Ending.returned v = .returned (packV vs) ∧ Same w w' ∧ RVs w w' cargs out.rs vs) := by
    intro hk
    obtain ⟨vs, h1, h2⟩ := resK_ok hT _ _ hk
    obtain ⟨us, h3, h4⟩ := h2 w1 w' _ cargs _ a' ρ' hp' hs'
    rcases endK_ok h1 with ⟨hap, hrv, _⟩ | ⟨_, he2⟩
    case inr =>
      unfold end2 at he2
      split at he2
      · rename_i r
        split at he2
        · rename_i row hrow
          cases he2
          obtain ⟨z, hz⟩ := two_some (llAt_is2 hrow).1
          obtain ⟨I, hI⟩ := hs'.heap.ll
          obtain ⟨v, us2, a1, a2, a3, ad, _, a4, a5⟩ := hI r row z hrow hz
          match us, h4 with
          | [u], h4 =>
            have hu : ρ'[r]? = some u := h4.1
            rw [hu] at a1
            simp only [Option.some.injEq] at a1
            subst a1
            exact ⟨hs'.defers, packV [u], results_run h3, [u], rfl, ⟨hkeep.os, hkeep.tape, hkeep.output, hkeep.size, hkeep.block⟩,
              ⟨⟨z, us2, I r, hz, a2, a3, ad, a4, fun g hg => ⟨Nat.not_lt.1 fun hlt => (a5 g hg).2.1 (hsub g hlt), (a5 g hg).1⟩⟩, trivial⟩, fun i j r1 r2 v1 v2 g hne h1 h2 h3 => by
                cases i with
                | zero => simp at h1; subst h1; cases h3
                | succ i => simp at h1⟩
        · cases he2
      · cases he2
    obtain ⟨h5, h6⟩ := rvAll_ok (w0 := w) hs'.heap (fun r u g _ _ h => Nat.not_lt.1 fun hlt => h (hsub g hlt)) hrv h4
    exact ⟨hs'.defers, packV us, results_run h3, us, rfl, ⟨hkeep.os, hkeep.tape, hkeep.output, hkeep.size, hkeep.block⟩, rvs_apart hs'.heap hap h6 h5⟩
  cases e with
  | normal => exact main hk
  | ret => exact main hk
  | exit i => cases hk

theorem quietRV_spec : ∀ {rs : List RV}, quietRV rs = true → ∀ (i : Nat) (r : RV), rs[i]? = some r → r.isFresh = false
  | [], _, i, r, h => by simp at h
  | x :: rs, hq, i, r, h => by
    cases x with
    | el e =>
      cases i with
      | zero => simp at h; subst h; rfl
      | succ i => exact quietRV_spec (rs := rs) hq i r (by simpa using h)
    | nil => cases hq
    | fresh _ _ => cases hq
    | arg _ => cases hq
    | new2 _ _ => cases hq

theorem row0_one {H : Hp} {row : Row} (h : row0 H = some row) (hk : row.v.k.is2 = false) : rowAt H 0 = some row := by
  unfold row0 at h
  split at h
  · rename_i row' hr
    cases h
    exact hr
  · rw [(llAt_is2 h).1] at hk
    cases hk
theorem row0_two {H : Hp} {row : Row} (h : row0 H = some row) (hk : row.v.k.is2 = true) : llAt H 0 = some row := by
  unfold row0 at h
  split at h
  · rename_i row' hr
    cases h
    rw [(rowAt_is2 hr).1] at hk
    cases hk
  · exact h

theorem quiet_all {w w' : World} {Pr : Nat → Prop} {ρ cargs cs : List Value} {H : Hp} : ∀ {xs : List FV} {rs : List RV} {us : List Value}, rvAll H xs = some rs → quietRV rs = true → AllR (FVR w' Pr ρ cargs) xs us → AllR (RVR w w' cs) rs us := by
  intro xs
  induction xs with
  | nil =>
    intro rs us hr _ hx
    cases us with
    | nil => simp [rvAll] at hr; subst hr; trivial
    | cons u us => exact hx.elim
  | cons x xs ih =>
    intro rs us hr hq hx
    cases us with
    | nil => exact hx.elim
    | cons u us =>
      unfold rvAll at hr
      split at hr
      · rename_i r rs' hr1 hr2
        cases hr
        cases r with
        | el el =>
          refine ⟨?_, ih hr2 hq hx.2⟩
          have h10 := hx.1
          unfold rvO at hr1
          split at hr1
          · cases hr1; exact h10
          · cases hr1
          · cases hr1
          · split at hr1 <;> cases hr1
          · cases hr1
        | nil => cases hq
        | fresh _ _ => cases hq
        | new2 _ _ => cases hq
        | arg _ => cases hq
      · cases hr

/-- **A FUNCTION THAT WRITES THE SLICE OF SLICES IT IS HANDED FIRST.** -/
theorem runM2_ok (hT : TOK P T) {f : Nat} {fn : Func} {c : Code} {rl : List ResultVar} {vec vec' : Vec} {args : List FV} {rs : List RV} (hf : P.funcs[f]? = some fn) (hb : fn.body = some c) (hrl : fn.results.toList = rl) (hnt : args.length + 1 ≤ fn.ntmps)
    (hL : LoopsOk T A L fn.ntmps c) (hA : 0 < A.nf) (hk2 : (vec.k.is2 && vec'.k.is2) = true) (hq : quietRV rs = true) (h : ∀ e, runM T A L fn.ntmps c rl e vec args = some ⟨rs, some ⟨e, vec'⟩⟩) : CMOK P f vec args rs vec' := by
  subst hrl
  rw [Bool.and_eq_true] at hk2
  refine ⟨fun h1 => absurd (hk2.1.symm.trans h1) (by decide), fun z hz => ?_⟩
  obtain ⟨z', hz'⟩ := two_some hk2.2
  refine ⟨z', hz', ?_⟩
  intro w e v I cargs hll hargs
  have h := h e
  unfold runM at h
  have hlen := hargs.length
  refine calls_of_wp hf hb ?_
  have hp : ∀ k, (fun k => k < w.heap.size ∧ v.ownBlock ≠ some k ∧ ¬ I k) k → k < w.heap.size := fun _ h => h.1
  have hal : (vec.k.is2 || vec.k.isAl) = true := by rw [hk2.1]; rfl
  have hs : SR (fun k => k < w.heap.size ∧ v.ownBlock ≠ some k ∧ ¬ I k) w (v :: cargs) fn.ntmps ⟨(0, .fv (.own 0)) :: initSl 1 args, [some ⟨e, vec⟩]⟩
      { tmps := (v :: cargs).toArray ++ Array.replicate (fn.ntmps - (v :: cargs).toArray.size) undef, defers := [] } w [v] := by
    refine ⟨by simp; omega, rfl, fun t u hu => ?_, ⟨rfl, fun r row hr => ?_, fun r r' row row' u u' g hne hr hr' => ?_, fun _ g => I g, fun r row z2 hr hz2 => ?_⟩, Keep.refl _ _⟩
    · rw [lk_cons] at hu
      split at hu
      · rename_i e
        subst e
        cases hu
        rw [getD_args (u := v) rfl]
        exact rfl
      · obtain ⟨j, x, rfl, hx, rfl⟩ := initSl_lk args 1 t u hu
        obtain ⟨y, hy, hr⟩ := hargs.get j x hx
        have hy' : (v :: cargs)[1 + j]? = some y := by rw [Nat.add_comm]; simpa using hy
        rw [getD_args hy']
        exact argIn_ok hr hy'
    · cases r with
      | zero => simp [rowAt, hk2.1] at hr
      | succ r => simp [rowAt] at hr
    · cases r with
      | zero => simp [rowAt, hk2.1] at hr
      | succ r => simp [rowAt] at hr
    · cases r with
      | succ r => simp [llAt] at hr
      | zero =>
        simp [llAt, hk2.1] at hr
        subst hr
        rw [hz] at hz2
        cases hz2
        obtain ⟨us, b1, b2, b3, b4, b5⟩ := hll
        refine ⟨v, us, rfl, b1, b2, b3, fun j i hj hlt => ?_, b4, fun g hg => ⟨b5 g hg, fun h => ?_, fun r' row' v' h1 => ?_, fun r' row' v' h0 h1 => ?_⟩⟩
        · have := alAt_lt hj
          simp at this
          omega
        · rcases hg with h' | h'
          · exact h.2.2 h'
          · exact h.2.1 h'
        · cases r' with
          | zero => simp [rowAt, hk2.1] at h1
          | succ r' => simp [rowAt] at h1
        · cases r' with
          | zero => exact absurd rfl h0
          | succ r' => simp [llAt] at h1
  refine codeK_ok hT c hL _ _ _ h _ _ w [v] ⟨_, w, fun _ h => h, hp, Keep.refl _ _, hs⟩ fun en s' a' w' ρ' hk hs0' hext => ?_
  obtain ⟨Pr', w1, hsub, hp', hkp, hs'⟩ := hs0'
  have hv0 : ρ'[0]? = some v := hext 0 v hA rfl
  have main : resK T s' fn.results.toList (endK true s') = some ⟨rs, some ⟨e, vec'⟩⟩ → a'.defers = [] ∧ ∃ u, (results fn a'.tmps).run P w' = .ok u w' ∧
      (∃ vs, Ending.returned u = .returned (packV vs) ∧ Keep (fun k => k < w.heap.size ∧ v.ownBlock ≠ some k ∧ ¬ I k) w w' ∧
        (∃ I', LL2 I' w' v e z' ∧ ∀ g, I' g → I g ∨ w.heap.size ≤ g) ∧ RVs w w' (v :: cargs) rs vs) := by
    intro hk
    obtain ⟨vs, h1, h2⟩ := resK_ok hT _ _ hk
    obtain ⟨us, h3, h4⟩ := h2 w1 w' _ (v :: cargs) _ a' ρ' hp' hs'
    rcases endK_ok h1 with ⟨_, hrs, hro⟩ | ⟨hm, _⟩
    case inr => cases hm
    obtain ⟨I2, hI2⟩ := hs'.heap.ll
    obtain ⟨v2, us2, h7, b1, b2, b3, _, b4, b5⟩ := hI2 0 ⟨e, vec'⟩ z' (row0_two (hro rfl) hk2.2) hz'
    rw [hv0] at h7
    cases h7
    refine ⟨hs'.defers, packV us, results_run h3, us, rfl, hkp.trans (hs'.keep.mono hsub), ⟨I2 0, ⟨us2, b1, b2, b3, b4, fun g hg => (b5 g hg).1⟩, fun g hg => ?_⟩, quiet_all hrs hq h4, fun i j r r' x x' g _ hi _ hf => ?_⟩
    · rcases Nat.lt_or_ge g w.heap.size with hlt | hge
      · refine .inl (Classical.byContradiction fun hn => (b5 g (.inl hg)).2.1 (hsub g ⟨hlt, fun h => b4 g h hg, hn⟩))
      · exact .inr hge
    · rw [quietRV_spec hq i r hi] at hf
      cases hf
  cases en with
  | normal => exact main hk
  | ret => exact main hk
  | exit i => cases hk

/-- **A FUNCTION THAT WRITES ITS FIRST ARGUMENT'S ROW.** -/
theorem runM_ok (hT : TOK P T) {f : Nat} {fn : Func} {c : Code} {rl : List ResultVar} {vec vec' : Vec} {args : List FV} {rs : List RV} (hf : P.funcs[f]? = some fn) (hb : fn.body = some c) (hrl : fn.results.toList = rl) (hnt : args.length + 1 ≤ fn.ntmps)
    (hL : LoopsOk T A L fn.ntmps c) (hA : 0 < A.nf) (hkk : (vec.k.is2 || (vec.k.isAl || vec'.k.is2)) = false) (hq : quietRV rs = true) (h : ∀ e, runM T A L fn.ntmps c rl e vec args = some ⟨rs, some ⟨e, vec'⟩⟩) : CMOK P f vec args rs vec' := by
  subst hrl
  obtain ⟨hk2, hk3⟩ := Bool.or_eq_false_iff.1 hkk
  obtain ⟨hk4, hk3⟩ := Bool.or_eq_false_iff.1 hk3
  refine ⟨fun _ => ?_, fun z hz => by rw [two_is2 hz] at hk2; cases hk2⟩
  intro w e v cargs hrow hargs
  have h := h e
  unfold runM at h
  have hlen := hargs.length
  refine calls_of_wp hf hb ?_
  have hp : ∀ k, (fun k => k < w.heap.size ∧ v.ownBlock ≠ some k) k → k < w.heap.size := fun _ h => h.1
  have hs : SR (fun k => k < w.heap.size ∧ v.ownBlock ≠ some k) w (v :: cargs) fn.ntmps ⟨(0, .fv (.own 0)) :: initSl 1 args, [some ⟨e, vec⟩]⟩
      { tmps := (v :: cargs).toArray ++ Array.replicate (fn.ntmps - (v :: cargs).toArray.size) undef, defers := [] } w [v] := by
    refine ⟨by simp; omega, rfl, fun t u hu => ?_, ⟨rfl, fun r row hr => ?_, fun r r' row row' u u' g hne hr hr' => ?_, LLR.noRow fun r => by cases r <;> simp [llAt, hk2]⟩, Keep.refl _ _⟩
    · rw [lk_cons] at hu
      split at hu
      · rename_i e
        subst e
        cases hu
        rw [getD_args (u := v) rfl]
        exact rfl
      · obtain ⟨j, x, rfl, hx, rfl⟩ := initSl_lk args 1 t u hu
        obtain ⟨y, hy, hr⟩ := hargs.get j x hx
        have hy' : (v :: cargs)[1 + j]? = some y := by rw [Nat.add_comm]; simpa using hy
        rw [getD_args hy']
        exact argIn_ok hr hy'
    · cases r with
      | zero =>
        have : row = ⟨e, vec⟩ := by simp [rowAt, hk2, hk4] at hr; exact hr.symm
        subst this
        obtain ⟨vs, h1, h2⟩ := hrow
        exact ⟨v, rfl, vs, h1, h2, fun g hg hpr => hpr.2 hg⟩
      | succ r => simp [rowAt] at hr
    · cases r with
      | zero =>
        cases r' with
        | zero => exact absurd rfl hne
        | succ r' => simp [rowAt] at hr'
      | succ r => simp [rowAt] at hr
  refine codeK_ok hT c hL _ _ _ h _ _ w [v] ⟨_, w, fun _ h => h, hp, Keep.refl _ _, hs⟩ fun en s' a' w' ρ' hk hs0' hext => ?_
  obtain ⟨Pr', w1, hsub, hp', hkp, hs'⟩ := hs0'
  have hv0 : ρ'[0]? = some v := hext 0 v hA rfl
  have main : resK T s' fn.results.toList (endK true s') = some ⟨rs, some ⟨e, vec'⟩⟩ → a'.defers = [] ∧ ∃ u, (results fn a'.tmps).run P w' = .ok u w' ∧
      (∃ vs, Ending.returned u = .returned (packV vs) ∧ Keep (fun k => k < w.heap.size ∧ v.ownBlock ≠ some k) w w' ∧
        (∃ vs', w'.ownsRow 0 e vec'.k.sz v vec'.xs.length vs' ∧ AllR SCR vec'.cells vs') ∧ RVs w w' (v :: cargs) rs vs) := by
    intro hk
    obtain ⟨vs, h1, h2⟩ := resK_ok hT _ _ hk
    obtain ⟨us, h3, h4⟩ := h2 w1 w' _ (v :: cargs) _ a' ρ' hp' hs'
    rcases endK_ok h1 with ⟨_, hrs, hro⟩ | ⟨hm, _⟩
    case inr => cases hm
    obtain ⟨v2, h7, vs2, h8, h9, _⟩ := hs'.heap.row 0 ⟨e, vec'⟩ (row0_one (hro rfl) hk3)
    rw [hv0] at h7
    cases h7
    refine ⟨hs'.defers, packV us, results_run h3, us, rfl, hkp.trans (hs'.keep.mono hsub), ⟨vs2, h8, h9⟩, quiet_all hrs hq h4, fun i j r r' x x' g _ hi _ hf => ?_⟩
    rw [quietRV_spec hq i r hi] at hf
    cases hf
  cases en with
  | normal => exact main hk
  | ret => exact main hk
  | exit i => cases hk

end
end Go.Sm

/- The code of a body where there may be a slice of rows; a function that is handed one. -/
namespace Go.Sm
open Go Go.RowKit

def outAt (T : TT) : Nat → List Oper → Option Nat
  | _, [] => none
  | i, o :: os => match o.op with
    | .buildSlice t _ _ => (match T.sl t with
      | some e => (match T.ek e with
        | none => some i
        | some _ => outAt T (i + 1) os)
      | none => outAt T (i + 1) os)
    | _ => outAt T (i + 1) os

def lateAt (T : TT) : Nat → List Oper → Option Nat
  | _, [] => none
  | i, o :: os => match o.op with
    | .store t _ _ => (match T.ek t with
      | none => some i
      | some _ => lateAt T (i + 1) os)
    | _ => lateAt T (i + 1) os

def qOf (ops : Array Oper) (p : Nat) : Nat := match ops.toList[p + 1]? with
  | some o => (match o.op with
    | .call _ => p + 2
    | _ => p + 1)
  | none => p + 1

def regionU (T : TT) (A : Ann) (L : Loops) (G : Nat → Option GF) (nt : Nat) (id : Nat) (ops : Array Oper) (d : Bool) (s : St) (M : Option Nat) (k : St → Option Nat → R) : R :=
  bif d then (bif drawOk ops then (match outAt T 0 ops.toList with
    | some p => drawnM T G nt ops (specials T 0 [] ops.toList) p (qOf ops p) s M k
    | none => (match lateAt T 0 ops.toList with
      | some is1 => drawnL T G nt ops is1 (effAt is1 0 ops.toList) s M k
      | none => codeK T A L nt (.region id ops true) s fun e s' => match e with
        | .normal => k s' M
        | _ => none)) else none)
  else opsU T G nt ops.toList ops.toList s M k

def iterU (body : St → Option Nat → (Ex → St → Option Nat → R) → R) : Nat → St → Option Nat → (Ex → St → Option Nat → R) → R
  | 0, _, _, _ => none
  | n + 1, s, M, k => body s M fun e s' M' => match e with
    | .normal => iterU body n s' M' k
    | e => k e s' M'

def codeU (T : TT) (A : Ann) (L : Loops) (G : Nat → Option GF) (nt fuel : Nat) : Code → St → Option Nat → (Ex → St → Option Nat → R) → R
  | .skip, s, M, k => k .normal s M
  | .region id ops d, s, M, k => regionU T A L G nt id ops d s M (k .normal)
  | .seq a b, s, M, k => codeU T A L G nt fuel a s M fun e s' M' => match e with
    | .normal => codeU T A L G nt fuel b s' M' k
    | e => k e s' M'
  | .cond c a b, s, M, k => match evO s c with
    | some (.el (.sc (.bo t))) => bif t then codeU T A L G nt fuel a s M k else codeU T A L G nt fuel b s M k
    | _ => none
  | .block id a, s, M, k => codeU T A L G nt fuel a s M fun e s' M' => match e with
    | .exit i => bif Nat.beq i id then k .normal s' M' else k (.exit i) s' M'
    | e => k e s' M'
  | .loop a, s, M, k => match A.lp (firstRegion a) with
    | some _ => (match M with
      | none => codeK T A L nt (.loop a) s fun e s' => k e s' none
      | some _ => none)
    | none => iterU (codeU T A L G nt fuel a) fuel s M k
  | .ret, s, M, k => k .ret s M
  | .exit id, s, M, k => k (.exit id) s M
  | _, _, _, _ => none

def LoopsU (T : TT) (A : Ann) (L : Loops) (nt : Nat) : Code → Prop
  | .seq a b => LoopsU T A L nt a ∧ LoopsU T A L nt b
  | .cond _ a b => LoopsU T A L nt a ∧ LoopsU T A L nt b
  | .block _ a => LoopsU T A L nt a
  | .loop a => (A.lp (firstRegion a) ≠ none → LoopsOk T A L nt (.loop a)) ∧ LoopsU T A L nt a
  | _ => True

/-- What is handed over, as it is known. -/
def initG : Nat → List FV → List (Nat × AV)
  | _, [] => []
  | i, x :: xs => (i, .fv x) :: initG (i + 1) xs

def resG (s : St) : List ResultVar → (List FV → R) → R
  | [], k => k []
  | .tmp t :: l, k => match lk s.sl t with
    | some (.fv v) => bif plF v then resG s l fun vs => k (v :: vs) else none
    | _ => none
  | _ :: _, _ => none

def runGF (T : TT) (A : Ann) (L : Loops) (G : Nat → Option GF) (nt fuel : Nat) (c : Code) (rl : List ResultVar) : GF := fun xs H k => match xs with
  | .mv r e π :: ys => bif Nat.ble (ys.length + 1) nt then codeU T A L G nt fuel c ⟨initG 0 (.mv r e π :: ys), H⟩ (some r) fun e s' _ => match e with
      | .exit _ => none
      | _ => resG s' rl fun vs => k vs s'.H
    else none
  | _ => none

section
variable {P : Program} {T : TT} {A : Ann} {L : Loops} {G : Nat → Option GF} {Pr : Nat → Prop} {w0 : World} {cargs : List Value} {nt : Nat}

theorem regK_ok (hT : TOK P T) {id : Nat} {ops : Array Oper} {s : St} {M : Option Nat} {k : St → Option Nat → R} {out : Out} (h : (codeK T A L nt (.region id ops true) s fun e s' => match e with
        | .normal => k s' M
        | _ => none) = some out) {Q : Exit → Act → World → Prop} {a : Act} {w : World} {ρ : List Value} (hs : SRu Pr w0 cargs nt M s a w ρ)
    (hQ : ∀ s' M' a' w' ρ', k s' M' = some out → SRu Pr w0 cargs nt M' s' a' w' ρ' → Q .normal a' w') : (Code.region id ops true).wp P Q a w := by
  obtain ⟨Pr', w1, h1, h2, h3, h4, h5⟩ := hs
  have h' : (codeK T { A with nf := ρ.length } L nt (.region id ops true) s fun e s' => match e with
        | .normal => k s' M
        | _ => none) = some out := by
    unfold codeK at h ⊢
    exact h
  refine codeK_ok (Pr := Pr') (w0 := w1) (cargs := cargs) hT (.region id ops true) trivial s _ out h' Q a w ρ ⟨Pr', w1, fun _ h => h, h2, Keep.refl _ _, h4⟩ fun e s' a' w' ρ' hk hs' he => ?_
  cases e with
  | normal =>
    obtain ⟨Pr2, w2, k1, k2, k3, k4⟩ := hs'
    refine hQ s' M a' w' ρ' hk ⟨Pr2, w2, fun k hk => k1 k (h1 k hk), k2, h3.trans (k3.mono h1), k4, fun r hr => ?_⟩
    obtain ⟨v, g, b1, b2, b3, b4⟩ := h5 r hr
    exact ⟨v, g, he r v (List.getElem?_eq_some_iff.1 b1).1 b1, b2, k1 g b3, b4⟩
  | ret => cases hk
  | exit i => cases hk

theorem regionU_ok (hT : TOK P T) (hG : GOKs P G) {id : Nat} {ops : Array Oper} {d : Bool} {s : St} {M : Option Nat} {k : St → Option Nat → R} {out : Out} (h : regionU T A L G nt id ops d s M k = some out) {Q : Exit → Act → World → Prop} {a : Act} {w : World} {ρ : List Value} (hs : SRu Pr w0 cargs nt M s a w ρ)
    (hQ : ∀ s' M' a' w' ρ', k s' M' = some out → SRu Pr w0 cargs nt M' s' a' w' ρ' → Q .normal a' w') : (Code.region id ops d).wp P Q a w := by
  unfold regionU at h
  cases d with
  | false => exact wp_region_list (opsU_ok hT hG _ s M a w ρ h hs hQ)
  | true =>
    simp only [cond_true] at h
    cases hd : drawOk ops with
    | false => rw [hd] at h; cases h
    | true =>
      rw [hd] at h
      simp only [cond_true] at h
      split at h
      · exact drawnM_ok hT hG hd rfl h hs hQ
      · split at h
        · exact drawnL_ok hT hG hd h hs hQ
        · exact regK_ok hT h hs hQ

/-- **THE CODE OF A BODY.** -/
theorem codeU_ok (hT : TOK P T) (hG : GOKs P G) {fuel : Nat} : ∀ (c : Code), LoopsU T A L nt c → ∀ (s : St) (M : Option Nat) (k : Ex → St → Option Nat → R) (out : Out), codeU T A L G nt fuel c s M k = some out →
    ∀ (Q : Exit → Act → World → Prop) (a : Act) (w : World) (ρ : List Value), SRu Pr w0 cargs nt M s a w ρ →
    (∀ e s' M' a' w' ρ', k e s' M' = some out → SRu Pr w0 cargs nt M' s' a' w' ρ' → Q (conc e) a' w') → c.wp P Q a w
  | .skip, _, s, M, k, out, h, Q, a, w, ρ, hs, hQ => wp_skip (hQ .normal s M a w ρ h hs)
  | .region id ops d, _, s, M, k, out, h, Q, a, w, ρ, hs, hQ => regionU_ok hT hG h hs fun s' M' a' w' ρ' h' hs' => hQ .normal s' M' a' w' ρ' h' hs'
  | .seq x y, hL, s, M, k, out, h, Q, a, w, ρ, hs, hQ => by
    unfold codeU at h
    refine wp_seq (codeU_ok hT hG x hL.1 s M _ out h _ a w ρ hs fun e s' M' a' w' ρ' h' hs' => ?_)
    cases e with
    | normal => exact codeU_ok hT hG y hL.2 s' M' k out h' Q a' w' ρ' hs' hQ
    | exit id => exact hQ _ s' M' a' w' ρ' h' hs'
    | ret => exact hQ _ s' M' a' w' ρ' h' hs'
  | .cond c x y, hL, s, M, k, out, h, Q, a, w, ρ, hs, hQ => by
    unfold codeU at h
    split at h
    · rename_i t ht
      have hc : a.eval c = .bool t := by
        obtain ⟨_, _, _, _, _, hs1, _⟩ := hs
        exact evO_ok hs1 ht
      refine wp_cond hc ?_
      cases t with
      | true => exact codeU_ok hT hG x hL.1 s M k out h Q a w ρ hs hQ
      | false => exact codeU_ok hT hG y hL.2 s M k out h Q a w ρ hs hQ
    · cases h
  | .block id x, hL, s, M, k, out, h, Q, a, w, ρ, hs, hQ => by
    unfold codeU at h
    refine wp_block (codeU_ok hT hG x hL s M _ out h _ a w ρ hs fun e s' M' a' w' ρ' h' hs' => ?_)
    cases e with
    | normal => exact hQ .normal s' M' a' w' ρ' h' hs'
    | exit i =>
      dsimp only at h'
      cases hb : Nat.beq i id with
      | true =>
        rw [hb] at h'
        have := Nat.eq_of_beq_eq_true hb
        subst this
        simp only [conc, Exit.inBlock, if_true]
        exact hQ .normal s' M' a' w' ρ' h' hs'
      | false =>
        rw [hb] at h'
        have hne : i ≠ id := fun e => by subst e; rw [Nat.beq_refl] at hb; cases hb
        simp only [conc, Exit.inBlock, if_neg hne]
        exact hQ (.exit i) s' M' a' w' ρ' h' hs'
    | ret => exact hQ .ret s' M' a' w' ρ' h' hs'
  | .loop x, hL, s, M, k, out, h, Q, a, w, ρ, hs, hQ => by
    unfold codeU at h
    split at h
    · rename_i io hA
      split at h
      · obtain ⟨Pr', w1, h1, h2, h3, h4, h5⟩ := hs
        refine codeK_ok (Pr := Pr') (w0 := w1) (cargs := cargs) hT (.loop x) (hL.1 (by rw [hA]; exact fun e => by cases e)) s _ out h Q a w ρ ⟨Pr', w1, fun _ h => h, h2, Keep.refl _ _, h4⟩ fun e s' a' w' ρ' hk hs' he => ?_
        obtain ⟨Pr2, w2, k1, k2, k3, k4⟩ := hs'
        exact hQ e s' none a' w' ρ' hk ⟨Pr2, w2, fun k hk => k1 k (h1 k hk), k2, h3.trans (k3.mono h1), k4, fun r hr => by cases hr⟩
      · cases h
    · refine wp_loop_rounds fuel ?_
      have key : ∀ (n : Nat) (s : St) (M : Option Nat) (a : Act) (w : World) (ρ : List Value), iterU (codeU T A L G nt fuel x) n s M k = some out → SRu Pr w0 cargs nt M s a w ρ → Code.rounds P x Q n a w := by
        intro n
        induction n with
        | zero => intro s M a w ρ h _; cases h
        | succ n ih =>
          intro s M a w ρ h hs
          unfold iterU at h
          rw [rounds_succ]
          refine codeU_ok hT hG x hL.2 s M _ out h _ a w ρ hs fun e s' M' a' w' ρ' h' hs' => ?_
          cases e with
          | normal => exact ih s' M' a' w' ρ' h' hs'
          | exit i => exact hQ (.exit i) s' M' a' w' ρ' h' hs'
          | ret => exact hQ .ret s' M' a' w' ρ' h' hs'
      exact key fuel s M a w ρ h hs
  | .ret, _, s, M, k, out, h, Q, a, w, ρ, hs, hQ => wp_ret (hQ .ret s M a w ρ h hs)
  | .exit id, _, s, M, k, out, h, Q, a, w, ρ, hs, hQ => wp_exit (hQ (.exit id) s M a w ρ h hs)
  | .rangeFunc .., _, s, M, k, out, h, Q, a, w, ρ, hs, hQ => by cases h
  | .scope _, _, s, M, k, out, h, Q, a, w, ρ, hs, hQ => by cases h
  | .label _, _, s, M, k, out, h, Q, a, w, ρ, hs, hQ => by cases h
  | .goto _, _, s, M, k, out, h, Q, a, w, ρ, hs, hQ => by cases h
  | .refuse _, _, s, M, k, out, h, Q, a, w, ρ, hs, hQ => by cases h

theorem initG_lk : ∀ (xs : List FV) (i t : Nat) (v : AV), lk (initG i xs) t = some v → ∃ j x, t = i + j ∧ xs[j]? = some x ∧ v = .fv x
  | [], i, t, v, h => by cases h
  | x :: xs, i, t, v, h => by
    unfold initG at h
    rw [lk_cons] at h
    split at h
    · rename_i e
      cases h
      exact ⟨0, x, by omega, rfl, rfl⟩
    · obtain ⟨j, y, h1, h2, h3⟩ := initG_lk xs (i + 1) t v h
      exact ⟨j + 1, y, by omega, by simpa using h2, h3⟩

theorem resG_ok {s : St} {out : Out} {a : Act} {w w1 : World} {ρ : List Value} (hs : SR Pr w1 cargs nt s a w ρ) : ∀ (l : List ResultVar) (k : List FV → R), resG s l k = some out →
    ∃ vs us, k vs = some out ∧ (l.mapM (resOne a.tmps)).run P w = .ok us w ∧ AllR (VFF ρ) vs us
  | [], k, h => ⟨[], [], h, by simp, trivial⟩
  | .tmp t :: l, k, h => by
    unfold resG at h
    split at h
    · rename_i v hv
      cases hp : plF v with
      | false => rw [hp] at h; cases h
      | true =>
        rw [hp] at h
        obtain ⟨vs, us, h1, h2, h3⟩ := resG_ok hs l _ h
        refine ⟨v :: vs, a.tmps.getD t undef :: us, h1, ?_, VFF.of (plF_vf hp) (hs.slots t _ hv), h3⟩
        rw [List.mapM_cons]
        simp [resOne, h2]
    · cases h
  | .cell a' t :: l, k, h => by cases h

/-- **A FUNCTION THAT IS HANDED A SLICE OF ROWS.** -/
theorem runGF_ok (hT : TOK P T) (hG : GOKs P G) {f fuel : Nat} {fn : Func} {c : Code} {rl : List ResultVar} (hf : P.funcs[f]? = some fn) (hb : fn.body = some c) (hrl : fn.results.toList = rl) (hL : LoopsU T A L fn.ntmps c) : GOK P f (runGF T A L G fn.ntmps fuel c rl) := by
  subst hrl
  intro xs H k out h w Pr ρ vs r e π ys' v g hxs hpl hp hH hargs hv hg hPg
  subst hxs
  unfold runGF at h
  dsimp only at h
  cases hnt : Nat.ble (ys'.length + 1) fn.ntmps with
  | false => rw [hnt] at h; cases h
  | true =>
    rw [hnt] at h
    simp only [cond_true] at h
    have hlen := hargs.length
    have hnt' := Nat.le_of_ble_eq_true hnt
    simp only [List.length_cons] at hlen
    refine calls_of_wp hf hb ?_
    have hs : SRu (fun k => Pr k ∧ k ≠ g) w [] fn.ntmps (some r) ⟨initG 0 (.mv r e π :: ys'), H⟩ { tmps := vs.toArray ++ Array.replicate (fn.ntmps - vs.toArray.size) undef, defers := [] } w ρ := by
      refine ⟨Pr, w, fun k hk => hk.1, hp, Keep.refl _ _, ⟨by simp; omega, rfl, fun t u hu => ?_, hH, Keep.refl _ _⟩, fun r' hr' => by cases hr'; exact ⟨v, g, hv, hg, hPg, fun h => h.2 rfl⟩⟩
      obtain ⟨j, x, rfl, hx, rfl⟩ := initG_lk _ 0 t u hu
      obtain ⟨u', hu', hr⟩ := hargs.get j x hx
      rw [Nat.zero_add, getD_args hu']
      exact hr
    refine codeU_ok hT hG c hL _ _ _ out h _ _ w ρ hs fun e' s' M' a' w' ρ' hk hs' => ?_
    obtain ⟨Pr2, w2, h1, h2, h3, h4, h5⟩ := hs'
    have main : resG s' fn.results.toList (fun vs => k vs s'.H) = some out → a'.defers = [] ∧ ∃ v, (results fn a'.tmps).run P w' = .ok v w' ∧ ∃ ys H' us ρ', k ys H' = some out ∧ Ending.returned v = .returned (packV us) ∧ AllR (VFF ρ') ys us ∧ HR w' (fun k => Pr k ∧ k ≠ g) ρ' H' ∧ Keep (fun k => Pr k ∧ k ≠ g) w w' := by
      intro hk
      obtain ⟨ys, us, r1, r2, r3⟩ := resG_ok (P := P) h4 _ _ hk
      exact ⟨h4.defers, packV us, results_run r2, ys, s'.H, us, ρ', r1, rfl, r3, h4.heap.anti h1, h3.trans (h4.keep.mono h1)⟩
    cases e' with
    | normal => exact main hk
    | ret => exact main hk
    | exit i => cases hk

end
end Go.Sm

/- A law's arguments as plain data; a law that always says true keeps its row. -/
namespace Go.Sm
open Go Go.RowKit Go.ChangeShapes Go.WideShapes Go.Deep

def NK.fits : NK → SC → Prop
  | .bool, .bo _ => True
  | .int k, .int k' n => k' = k ∧ k.min ≤ n ∧ n ≤ k.max
  | .float .f32, .fl k' c => k' = .f32 ∧ cn .f32 c = c ∧ c < 2 ^ 32
  | .float .f64, .fl k' c => k' = .f64 ∧ cn .f64 c = c ∧ c < 2 ^ 64
  | _, _ => False

def K.nks : K → List NK
  | .f32 => [.float .f32]
  | .f64 => [.float .f64]
  | .i64 => [.int .i64]
  | .bo => [.bool]
  | .u8 => [.int .u8]
  | .c64 => []
  | .line => [.float .f32, .float .f32, .float .f32, .int .i64]
  | .edge => [.int .i64, .int .i64, .float .f32]
  | .pulse => [.float .f32, .float .f32, .float .f32, .float .f32]
  | .ll => []
  | .lf => []
  | .al => []

def K.wf (k : K) (a : k.ty) : Prop := AllR NK.fits k.nks (k.f a).cells

/-- The type's row in the program's table. -/
def KRow (P : Program) (t : Nat) (k : K) : Prop :=
  P.cellsOf t = k.sz ∧ bif k.agg then (∃ fs : Array Field, P.underlying t = some (.struct fs) ∧ fs.size = k.sz ∧ k.nks.length = k.sz ∧
    ∀ (i : Nat) (n : NK), k.nks[i]? = some n → ∃ f : Field, fs[i]? = some f ∧ f.offset = i ∧ P.cellsOf f.type = 1 ∧ P.underlying f.type = some n.desc)
  else (∃ n, k.nks = [n] ∧ P.underlying t = some n.desc)

section
variable {H : Type} {enc : TypeId × Value → H} {P : Program} {w : World} {base : Nat} {spare : Nat → Bool} {held : Bool}

theorem cn_lt32 {b : Nat} (h : b < 2 ^ 32) : cn .f32 b < 2 ^ 32 := by
  unfold cn
  cases isN .f32 b with
  | true => show (2143289344 : Nat) < 2 ^ 32; decide
  | false => exact h
theorem cn_lt64 {b : Nat} (h : b < 2 ^ 64) : cn .f64 b < 2 ^ 64 := by
  unfold cn
  cases isN .f64 b with
  | true => show (9221120237041090560 : Nat) < 2 ^ 64; decide
  | false => exact h

theorem trod_float' {t fuel : Nat} {k : FloatKind} {cs : List Value} {x : DataW H × List MemPlace} (ht : P.underlying t = some (.float k)) (h : DataW.trod enc P w base spare held fuel t cs = some x) : ∃ b, cs = [.float k b] ∧ (Lit.float k b).wf = true := by
  cases fuel with
  | zero => simp [DataW.trod] at h
  | succ n =>
    unfold DataW.trod at h
    rw [ht] at h
    split at h <;> simp_all

theorem open_cell {t fuel : Nat} {n : NK} {cs : List Value} {x : DataW H × List MemPlace} (ht : P.underlying t = some n.desc) (hc : ∀ k, n ≠ .complex k) (h : DataW.trod enc P w base spare held fuel t cs = some x) : ∃ v s, cs = [v] ∧ n.fits s ∧ SCR s v := by
  cases n with
  | bool =>
    obtain ⟨b, rfl, _⟩ := DataW.trod_bool ht h
    exact ⟨_, .bo b, rfl, trivial, rfl⟩
  | int k =>
    obtain ⟨m, rfl, _, hw⟩ := DataW.trod_int ht h
    simp only [Lit.wf, Bool.and_eq_true, decide_eq_true_eq] at hw
    exact ⟨_, .int k m, rfl, ⟨rfl, hw.1, hw.2⟩, rfl⟩
  | float k =>
    obtain ⟨b, rfl, hw⟩ := trod_float' ht h
    cases k with
    | f32 =>
      simp only [Lit.wf, decide_eq_true_eq] at hw
      exact ⟨_, .fl .f32 (cn .f32 b), rfl, ⟨rfl, cn_cn _ _, cn_lt32 hw⟩, b, rfl, rfl⟩
    | f64 =>
      simp only [Lit.wf, decide_eq_true_eq] at hw
      exact ⟨_, .fl .f64 (cn .f64 b), rfl, ⟨rfl, cn_cn _ _, cn_lt64 hw⟩, b, rfl, rfl⟩
  | complex k => exact absurd rfl (hc k)

theorem assemble (k : K) (hk : k ≠ .c64) (h2 : (k.is2 || k.isAl) = false) {ss : List SC} (h : AllR NK.fits k.nks ss) : ∃ a : k.ty, (k.f a).cells = ss := by
  have hf32 : ∀ s, NK.fits (.float .f32) s → ∃ c, s = .fl .f32 c := by
    intro s hs
    cases s with
    | fl q c => exact ⟨c, by rw [hs.1]⟩
    | int _ _ => exact hs.elim
    | bo _ => exact hs.elim
    | cx _ _ _ => exact hs.elim
    | no => exact hs.elim
  have hi : ∀ q s, NK.fits (.int q) s → ∃ n, s = .int q n := by
    intro q s hs
    cases s with
    | int q' n => exact ⟨n, by rw [hs.1]⟩
    | fl q c => exact hs.elim
    | bo _ => exact hs.elim
    | cx _ _ _ => exact hs.elim
    | no => exact hs.elim
  cases k with
  | f32 =>
    match ss, h with
    | [s], h => obtain ⟨c, rfl⟩ := hf32 s h.1; exact ⟨c, rfl⟩
  | f64 =>
    match ss, h with
    | [s], h =>
      cases s with
      | fl q c => have := h.1.1; subst this; exact ⟨c, rfl⟩
      | int _ _ => exact h.1.elim
      | bo _ => exact h.1.elim
      | cx _ _ _ => exact h.1.elim
      | no => exact h.1.elim
  | i64 =>
    match ss, h with
    | [s], h => obtain ⟨c, rfl⟩ := hi _ s h.1; exact ⟨c, rfl⟩
  | u8 =>
    match ss, h with
    | [s], h => obtain ⟨c, rfl⟩ := hi _ s h.1; exact ⟨c, rfl⟩
  | bo =>
    match ss, h with
    | [s], h =>
      cases s with
      | bo b => exact ⟨b, rfl⟩
      | int _ _ => exact h.1.elim
      | fl _ _ => exact h.1.elim
      | cx _ _ _ => exact h.1.elim
      | no => exact h.1.elim
  | c64 => exact absurd rfl hk
  | ll => cases h2
  | lf => cases h2
  | al => cases h2
  | line =>
    match ss, h with
    | [a, b, c, d], h =>
      obtain ⟨a, rfl⟩ := hf32 a h.1
      obtain ⟨b, rfl⟩ := hf32 b h.2.1
      obtain ⟨c, rfl⟩ := hf32 c h.2.2.1
      obtain ⟨d, rfl⟩ := hi _ d h.2.2.2.1
      exact ⟨⟨a, b, c, d⟩, rfl⟩
  | edge =>
    match ss, h with
    | [a, b, c], h =>
      obtain ⟨a, rfl⟩ := hi _ a h.1
      obtain ⟨b, rfl⟩ := hi _ b h.2.1
      obtain ⟨c, rfl⟩ := hf32 c h.2.2.1
      exact ⟨⟨a, b, c⟩, rfl⟩
  | pulse =>
    match ss, h with
    | [a, b, c, d], h =>
      obtain ⟨a, rfl⟩ := hf32 a h.1
      obtain ⟨b, rfl⟩ := hf32 b h.2.1
      obtain ⟨c, rfl⟩ := hf32 c h.2.2.1
      obtain ⟨d, rfl⟩ := hf32 d h.2.2.2.1
      exact ⟨⟨a, b, c, d⟩, rfl⟩

theorem nks_plain (k : K) : ∀ (i : Nat) (n : NK), k.nks[i]? = some n → ∀ q : FloatKind, n ≠ NK.complex q := by
  intro i n h q e
  subst e
  cases k <;> simp [K.nks] at h <;> match i, h with
    | 0, h => simp at h
    | 1, h => simp at h
    | 2, h => simp at h
    | 3, h => simp at h
    | i + 4, h => simp at h

/-- An element's cells. -/
theorem open_elt {t fuel : Nat} {k : K} {cs : List Value} {x : DataW H × List MemPlace} (hk : k ≠ .c64) (hr : KRow P t k) (h : DataW.trod enc P w base spare held fuel t cs = some x) :
    ∃ a : k.ty, k.wf a ∧ AllR SCR (k.f a).cells cs := by
  obtain ⟨hcell, hrow⟩ := hr
  have main : ∃ ss, AllR NK.fits k.nks ss ∧ AllR SCR ss cs := by
    cases hagg : k.agg with
    | false =>
      rw [hagg] at hrow
      obtain ⟨n, hn, hu⟩ := hrow
      obtain ⟨v, s, rfl, h1, h2⟩ := open_cell hu (nks_plain k 0 n (by rw [hn]; rfl)) h
      exact ⟨[s], by rw [hn]; exact ⟨h1, trivial⟩, h2, trivial⟩
    | true =>
      rw [hagg] at hrow
      obtain ⟨fs, hu, hfs, hnl, hall⟩ := hrow
      obtain ⟨xs, n, _, _, hl, hxl, hf⟩ := DataW.trod_struct hu h
      have hlen : cs.length = k.nks.length := by rw [hl, hcell, hnl]
      have each : ∀ i, i < k.nks.length → ∃ s, ∃ q v, k.nks[i]? = some q ∧ cs[i]? = some v ∧ q.fits s ∧ SCR s v := by
        intro i hi
        obtain ⟨q, hq⟩ : ∃ q, k.nks[i]? = some q := ⟨_, List.getElem?_eq_getElem hi⟩
        obtain ⟨f, hfi, hoff, hone, huf⟩ := hall i q hq
        have h3 := hf i f hfi
        have hxi : ∃ y, xs[i]? = some y := ⟨_, List.getElem?_eq_getElem (by rw [hxl, hfs, ← hnl]; exact hi)⟩
        obtain ⟨y, hy⟩ := hxi
        rw [hy] at h3
        obtain ⟨v, s, hv, h4, h5⟩ := open_cell huf (nks_plain k i q hq) h3
        refine ⟨s, q, v, hq, ?_, h4, h5⟩
        have h6 : ((cs.drop f.offset).take (P.cellsOf f.type))[0]? = some v := by rw [hv]; rfl
        rw [hone, hoff, List.getElem?_take] at h6
        simpa using h6
      haveI : Inhabited SC := ⟨.bo false⟩
      obtain ⟨F, hF⟩ := choose_lt each
      refine ⟨(List.range k.nks.length).map F, AllR.of_get (by simp) fun i a b ha hb => ?_, AllR.of_get (by simp [hlen]) fun i a b ha hb => ?_⟩
      · have hi : i < k.nks.length := by
          rcases Nat.lt_or_ge i k.nks.length with h' | h'
          · exact h'
          · rw [List.getElem?_eq_none h'] at ha; cases ha
        obtain ⟨q, v, h1, h2, h3, h4⟩ := hF i hi
        rw [h1] at ha
        cases ha
        simp [hi] at hb
        subst hb
        exact h3
      · have hi : i < k.nks.length := by
          rcases Nat.lt_or_ge i k.nks.length with h' | h'
          · exact h'
          · simp [h'] at ha
        obtain ⟨q, v, h1, h2, h3, h4⟩ := hF i hi
        rw [h2] at hb
        cases hb
        simp [hi] at ha
        subst ha
        exact h4
  obtain ⟨ss, h1, h2⟩ := main
  have hk2 : (k.is2 || k.isAl) = false := by
    cases k <;> first
      | rfl
      | (obtain ⟨n, hn, _⟩ := hrow
         cases hn)
  obtain ⟨a, rfl⟩ := assemble k hk hk2 h1
  exact ⟨a, h1, h2⟩

@[reducible] def K.inh (k : K) : Inhabited k.ty := ⟨k.z⟩

theorem cells?_get {w : World} {base : Nat} {a : Addr} {n : Nat} {cs : List Value} (h : w.cells? base a n = some cs) : cs.length = n ∧ ∀ j, j < n → w.cell? (a.add j) = cs[j]? := by
  unfold World.cells? at h
  split at h
  · have key : ∀ (l : List Nat) (cs : List Value), (l.mapM fun i => w.cell? (a.add i)) = some cs → cs.length = l.length ∧ ∀ (j i : Nat), l[j]? = some i → w.cell? (a.add i) = cs[j]? := by
      intro l
      induction l with
      | nil => intro cs h; simp at h; subst h; exact ⟨rfl, fun j i h => by simp at h⟩
      | cons i l ih =>
        intro cs h
        rw [List.mapM_cons] at h
        simp only [Option.bind_eq_bind, Option.bind_eq_some_iff, Option.pure_def, Option.some.injEq] at h
        obtain ⟨v, hv, vs, hvs, rfl⟩ := h
        obtain ⟨h1, h2⟩ := ih vs hvs
        refine ⟨by simp [h1], fun j q hj => ?_⟩
        cases j with
        | zero => simp at hj; subst hj; simpa using hv
        | succ j => simpa using h2 j q (by simpa using hj)
    obtain ⟨h1, h2⟩ := key _ _ h
    refine ⟨by simpa using h1, fun j hj => h2 j j (by simp [hj])⟩
  · cases h

theorem cell?_lt {w : World} {a : Addr} {v : Value} (h : w.cell? a = some v) : a.block < w.heap.size := by
  unfold World.cell? at h
  cases hh : w.heap[a.block]? with
  | none => rw [hh] at h; simp at h
  | some o => exact (Array.getElem?_eq_some_iff.1 hh).1

/-- A slice that came in. -/
theorem open_sl {t e : Nat} {k : K} {v : Value} {d : DataW H} {ps : List MemPlace} (hk : k ≠ .c64) (ht : P.underlying t = some (.slice e)) (hr : KRow P e k) (hv : ∃ a l c, v = .slice a l c) (h : DataW.Trod enc P w base spare held t v d ps) :
    ∃ xs : List k.ty, (∀ a ∈ xs, k.wf a) ∧ VwR w (fun b => b < w.heap.size) v ⟨k, xs⟩ ∧ ((DataW.weights P t d).all (· ≤ reachBytes) = true → xs.length * P.bytesOf e ≤ reachBytes) := by
  obtain ⟨fuel, h⟩ := h
  obtain ⟨a0, l0, c0, rfl⟩ := hv
  have hcells : (Value.slice a0 l0 c0).cells.toList = [.slice a0 l0 c0] := rfl
  rw [hcells] at h
  rcases open_slice ht h with ⟨h1, hd⟩ | ⟨a, len, cap, m, n, D, Pl, h1, _, hl, _, hm, hd, hx⟩
  · simp only [List.cons.injEq, Value.slice.injEq, and_true] at h1
    obtain ⟨rfl, rfl, rfl⟩ := h1
    exact ⟨[], by simp, .inl ⟨rfl, rfl⟩, by simp⟩
  · simp only [List.cons.injEq, Value.slice.injEq, and_true] at h1
    obtain ⟨rfl, rfl, rfl⟩ := h1
    have hlm : l0 ≤ m := by rw [hm]; split <;> omega
    haveI := K.inh k
    obtain ⟨F, hF⟩ := choose_lt (n := l0) (p := fun i (b : k.ty) => k.wf b ∧ ∀ j s, (k.f b).cells[j]? = some s → ∃ u, w.cell? (a.add (i * k.sz + j)) = some u ∧ SCR s u) (fun i hi => by
      obtain ⟨cs', h2, h3⟩ := hx i (by omega)
      obtain ⟨b, h4, h5⟩ := open_elt hk hr h3
      obtain ⟨h6, h7⟩ := cells?_get h2
      refine ⟨b, h4, fun j s hj => ?_⟩
      obtain ⟨u, hu, hs⟩ := h5.get j s hj
      have hjl : j < P.cellsOf e := by
        rw [← h6]
        rcases Nat.lt_or_ge j cs'.length with h' | h'
        · exact h'
        · rw [List.getElem?_eq_none h'] at hu; cases hu
      refine ⟨u, ?_, hs⟩
      rw [← hr.1, ← Sm.add_add, h7 j hjl]
      exact hu)
    refine ⟨(List.range l0).map F, ?_, .inr ⟨a, c0, by simp, by simpa using hl, ?_, ?_⟩, ?_⟩
    · intro b hb
      obtain ⟨i, hi, rfl⟩ := List.mem_map.1 hb
      exact (hF i (List.mem_range.1 hi)).1
    · cases l0 with
      | zero => exact .inl (by simp)
      | succ l =>
        refine .inr ?_
        obtain ⟨s, hs⟩ : ∃ s, (k.f (F 0)).cells[0]? = some s := ⟨_, List.getElem?_eq_getElem (by rw [K.len_f]; exact k.sz_pos)⟩
        obtain ⟨u, hu, _⟩ := (hF 0 (by omega)).2 0 s hs
        have := cell?_lt hu
        rwa [add_block] at this
    · intro p s hp
      have hlenp : p < l0 * k.sz := by
        have := Vec.len_cells ⟨k, (List.range l0).map F⟩
        simp only [List.length_map, List.length_range] at this
        rw [← this]
        rcases Nat.lt_or_ge p (Vec.cells ⟨k, (List.range l0).map F⟩).length with h' | h'
        · exact h'
        · rw [List.getElem?_eq_none h'] at hp; cases hp
      have hi : p / k.sz < l0 := Nat.div_lt_of_lt_mul (by rw [Nat.mul_comm]; exact hlenp)
      have hj : p % k.sz < k.sz := Nat.mod_lt _ k.sz_pos
      have hdm : p / k.sz * k.sz + p % k.sz = p := by rw [Nat.mul_comm]; exact Nat.div_add_mod p k.sz
      have hg := Vec.get_cells ⟨k, (List.range l0).map F⟩ (p / k.sz) (p % k.sz) (F (p / k.sz)) (by simp [hi]) hj
      dsimp only at hg
      rw [hdm, hp] at hg
      have := (hF _ hi).2 _ s hg.symm
      rwa [hdm] at this
    · intro hw
      cases hd
      simp only [DataW.weights, ht, List.all_cons, Bool.and_eq_true, decide_eq_true_eq] at hw
      simp only [List.length_map, List.length_range] at hw ⊢
      refine Nat.le_trans (Nat.mul_le_mul_right _ ?_) hw.1
      omega

theorem open_sl_cell {t e fuel : Nat} {k : K} {v : Value} {x : DataW H × List MemPlace} (hk : k ≠ .c64) (ht : P.underlying t = some (.slice e)) (hr : KRow P e k) (h : DataW.trod enc P w base spare held fuel t [v] = some x) :
    ∃ xs : List k.ty, (∀ a ∈ xs, k.wf a) ∧ VwR w (fun b => b < w.heap.size) v ⟨k, xs⟩ ∧ ((DataW.weights P t x.1).all (· ≤ reachBytes) = true → xs.length * P.bytesOf e ≤ reachBytes) := by
  have hv : ∃ a l c, v = .slice a l c := by
    rcases open_slice ht h with ⟨h1, _⟩ | ⟨a, len, cap, m, n, D, Pl, h1, _⟩
    · simp only [List.cons.injEq, and_true] at h1
      exact ⟨_, _, _, h1⟩
    · simp only [List.cons.injEq, and_true] at h1
      exact ⟨_, _, _, h1⟩
  have hv2 := hv
  obtain ⟨a, l, c, rfl⟩ := hv2
  exact open_sl hk ht hr hv (d := x.1) (ps := x.2) ⟨fuel, h⟩

theorem weightsAll_get {e : Nat} : ∀ {l : List (DataW H)} {i : Nat} {d : DataW H}, (DataW.weightsAll P e l).all (· ≤ reachBytes) = true → l[i]? = some d → (DataW.weights P e d).all (· ≤ reachBytes) = true
  | [], i, d, _, h => by simp at h
  | a :: l, 0, d, hw, h => by
    simp at h
    subst h
    simp only [DataW.weightsAll, List.all_append, Bool.and_eq_true] at hw
    exact hw.1
  | a :: l, i + 1, d, hw, h => by
    simp only [DataW.weightsAll, List.all_append, Bool.and_eq_true] at hw
    exact weightsAll_get hw.2 (by simpa using h)

/-- A slice of slices that came in. -/
theorem open_sll {t e e2 : Nat} {k : K} {v : Value} {d : DataW H} {ps : List MemPlace} (hk : k ≠ .c64) (ht : P.underlying t = some (.slice e)) (he : P.underlying e = some (.slice e2)) (hc : P.cellsOf e = 1) (hr : KRow P e2 k) (hv : ∃ a l c, v = .slice a l c) (h : DataW.Trod enc P w base spare held t v d ps) :
    ∃ xss : List (List k.ty), (∀ xs ∈ xss, ∀ a ∈ xs, k.wf a) ∧ VvR w (fun b => b < w.heap.size) v k xss ∧ xss.length ≤ maxLen ∧ ((DataW.weights P t d).all (· ≤ reachBytes) = true → ∀ xs ∈ xss, xs.length * P.bytesOf e2 ≤ reachBytes) := by
  obtain ⟨fuel, h⟩ := h
  obtain ⟨a0, l0, c0, rfl⟩ := hv
  have hcells : (Value.slice a0 l0 c0).cells.toList = [.slice a0 l0 c0] := rfl
  rw [hcells] at h
  rcases open_slice1 ht hc h with ⟨h1, hd⟩ | ⟨a, len, cap, m, n, V, D, Pl, h1, _, hl, hcm, hm, hd, hx⟩
  · simp only [List.cons.injEq, Value.slice.injEq, and_true] at h1
    obtain ⟨rfl, rfl, rfl⟩ := h1
    exact ⟨[], by simp, .inl ⟨rfl, rfl⟩, Nat.zero_le _, by simp⟩
  · simp only [List.cons.injEq, Value.slice.injEq, and_true] at h1
    obtain ⟨rfl, rfl, rfl⟩ := h1
    have hlm : l0 ≤ m := by rw [hm]; split <;> omega
    obtain ⟨F, hF⟩ := choose_lt (n := l0) (p := fun i (b : List k.ty) => (∀ a ∈ b, k.wf a) ∧ VwR w (fun b => b < w.heap.size) (V i) ⟨k, b⟩ ∧ ((DataW.weights P e (D i)).all (· ≤ reachBytes) = true → b.length * P.bytesOf e2 ≤ reachBytes)) (fun i hi =>
      open_sl_cell hk he hr (hx i (by omega)).2)
    refine ⟨(List.range l0).map F, ?_, .inr ⟨a, c0, by simp, by simpa using hl, ?_, ?_⟩, by simp; omega, ?_⟩
    · intro b hb
      obtain ⟨i, hi, rfl⟩ := List.mem_map.1 hb
      exact (hF i (List.mem_range.1 hi)).1
    · cases l0 with
      | zero => exact .inl (by simp)
      | succ l =>
        refine .inr ?_
        have := cell?_lt (hx 0 (by omega)).1
        rwa [add_block] at this
    · intro i xs hi
      have hil : i < l0 := by
        rcases Nat.lt_or_ge i l0 with h' | h'
        · exact h'
        · simp [h'] at hi
      simp [hil] at hi
      subst hi
      exact ⟨V i, (hx i (by omega)).1, (hF i hil).2.1⟩
    · intro hw b hb
      obtain ⟨i, hi, rfl⟩ := List.mem_map.1 hb
      have hil := List.mem_range.1 hi
      cases hd
      simp only [DataW.weights, ht, List.all_cons, List.all_append, Bool.and_eq_true] at hw
      exact (hF i hil).2.2 (weightsAll_get (i := i) hw.2.1 (by simp [hil]))

/-- What kinds of arguments a law takes. -/
inductive AK where
  | sc (n : NK)
  | ag (k : K)
  | sl (k : K)
  | sll (k : K)

def AK.row (P : Program) : AK → Nat → Prop
  | .sc n, t => P.underlying t = some n.desc ∧ ∀ q, n ≠ .complex q
  | .ag k, t => k ≠ .c64 ∧ k.agg = true ∧ KRow P t k
  | .sl k, t => k ≠ .c64 ∧ ∃ e, P.underlying t = some (.slice e) ∧ KRow P e k
  | .sll k, t => k ≠ .c64 ∧ ∃ e e2, P.underlying t = some (.slice e) ∧ P.underlying e = some (.slice e2) ∧ P.cellsOf e = 1 ∧ KRow P e2 k

/-- The bytes of an element. -/
def AK.fits (P : Program) : AK → Nat → FV → Prop
  | .sc n, _, x => ∃ s, x = .el (.sc s) ∧ n.fits s
  | .ag k, _, x => ∃ a, x = .el (k.f a) ∧ k.wf a
  | .sl k, t, x => ∃ xs : List k.ty, x = .vw none ⟨k, xs⟩ ∧ (∀ a ∈ xs, k.wf a) ∧ ∀ e, P.underlying t = some (.slice e) → xs.length * P.bytesOf e ≤ reachBytes
  | .sll k, t, x => ∃ xss : List (List k.ty), x = .vv none k xss ∧ (∀ xs ∈ xss, ∀ a ∈ xs, k.wf a) ∧ xss.length ≤ maxLen ∧ ∀ e e2, P.underlying t = some (.slice e) → P.underlying e = some (.slice e2) → ∀ xs ∈ xss, xs.length * P.bytesOf e2 ≤ reachBytes

theorem open_arg {ak : AK} {t b0 : Nat} {v : Value} {d : DataW H} {ps : List MemPlace} (hr : ak.row P t) (hv : Value.okWide P w .any b0 t v) (h : DataW.Trod enc P w base spare held t v d ps) (hwt : (DataW.weights P t d).all (· ≤ reachBytes) = true) :
    ∃ x, ak.fits P t x ∧ FVR w (fun b => b < w.heap.size) [] [] x v := by
  cases ak with
  | sc n =>
    obtain ⟨hu, hc⟩ := hr
    obtain ⟨fuel, h⟩ := h
    have hcell : v.cells.toList = [v] := by
      cases n with
      | bool => obtain ⟨b, rfl⟩ := okWide_bool hu hv; rfl
      | int k => obtain ⟨b, rfl⟩ := okWide_int hu hv; rfl
      | float k => obtain ⟨b, rfl⟩ := okWide_float hu hv; rfl
      | complex k => exact absurd rfl (hc k)
    rw [hcell] at h
    obtain ⟨v', s, h1, h2, h3⟩ := open_cell hu hc h
    cases h1
    exact ⟨.el (.sc s), ⟨s, rfl, h2⟩, h3⟩
  | ag k =>
    obtain ⟨hk, hagg, hrow⟩ := hr
    have hrow' := hrow.2
    rw [hagg] at hrow'
    obtain ⟨fs, hu, _⟩ := hrow'
    obtain ⟨cs, rfl, _⟩ := okWide_struct hu hv
    obtain ⟨fuel, h⟩ := h
    obtain ⟨a, h1, h2⟩ := open_elt hk hrow h
    refine ⟨.el (k.f a), ⟨a, rfl, h1⟩, ?_⟩
    obtain ⟨ss, hss⟩ := K.agg_f hagg a
    show ElR (k.f a) _
    rw [hss] at h2 ⊢
    exact ⟨cs.toList, by simp, h2⟩
  | sl k =>
    obtain ⟨hk, e, hu, hrow⟩ := hr
    obtain ⟨xs, h1, h2, h3⟩ := open_sl hk hu hrow (okWide_slice hu hv) h
    refine ⟨.vw none ⟨k, xs⟩, ⟨xs, rfl, h1, fun e' he' => ?_⟩, h2, fun i hi => by cases hi⟩
    rw [hu] at he'
    cases he'
    exact h3 hwt
  | sll k =>
    obtain ⟨hk, e, e2, hu, hu2, hc, hrow⟩ := hr
    obtain ⟨xss, h1, h2, h4, h3⟩ := open_sll hk hu hu2 hc hrow (okWide_slice hu hv) h
    refine ⟨.vv none k xss, ⟨xss, rfl, h1, h4, fun e' e2' he' he2' => ?_⟩, h2, fun i hi => by cases hi⟩
    rw [hu] at he'
    cases he'
    rw [hu2] at he2'
    cases he2'
    exact h3 hwt

/-- The kinds of arguments, one by one. -/
def AKs (R : AK → Nat → FV → Prop) : List AK → List Nat → List FV → Prop
  | [], [], [] => True
  | a :: as, t :: ts, x :: xs => R a t x ∧ AKs R as ts xs
  | _, _, _ => False

theorem open_args : ∀ {aks : List AK} {ts : List Nat} {vs : List Value} {ds : List (DataW H)} {ps : List MemPlace} {b0 : Nat}, AllR (AK.row P) aks ts → (∀ (j : Nat) t v, ts[j]? = some t → vs[j]? = some v → Value.okWide P w .any b0 t v) →
    DataW.TrodAll enc P w base spare held ts vs ds ps → (∀ l, (DataW.weightsEach P (ts ++ l) ds).all (· ≤ reachBytes) = true → ∃ xs, AKs (AK.fits P) aks ts xs ∧ AllR (FVR w (fun b => b < w.heap.size) [] []) xs vs)
  | [], [], [], [], ps, b0, _, _, _, l, _ => ⟨[], trivial, trivial⟩
  | a :: aks, t :: ts, v :: vs, d :: ds, ps, b0, hr, hv, h, l, hw => by
    obtain ⟨p, q, h1, h2, _⟩ := h
    simp only [List.cons_append, DataW.weightsEach, List.all_append, Bool.and_eq_true] at hw
    obtain ⟨x, hx, hxv⟩ := open_arg hr.1 (hv 0 t v rfl rfl) h1 hw.1
    obtain ⟨xs, hxs, hxvs⟩ := open_args hr.2 (fun j t v ht hv' => hv (j + 1) t v (by simpa using ht) (by simpa using hv')) h2 l hw.2
    exact ⟨x :: xs, ⟨hx, hxs⟩, hxv, hxvs⟩
  | [], [], _ :: _, _, _, _, _, _, h, _, _ => h.elim
  | [], [], [], _ :: _, _, _, _, _, h, _, _ => h.elim
  | _ :: _, _ :: _, [], _, _, _, _, _, h, _, _ => h.elim
  | _ :: _, _ :: _, _ :: _, [], _, _, _, _, h, _, _ => h.elim
  | _ :: _, [], _, _, _, _, h, _, _, _, _ => h.elim
  | [], _ :: _, _, _, _, _, h, _, _, _, _ => h.elim

theorem trodAll_below {W W' : World} (hl : laidOutB P = true) (hb : Below W.heap.size W W') : ∀ {ts : List Nat} {vs : List Value} {ds : List (DataW H)} {ps : List MemPlace}, (∀ t ∈ ts, P.readableRec t = true ∧ t < P.types.size) → (∀ x ∈ ps, x.block < W.heap.size) →
    DataW.TrodAll enc P W 0 (fun _ => true) true ts vs ds ps → DataW.TrodAll enc P W' 0 (fun b => decide (b < W.heap.size)) true ts vs ds ps
  | [], [], [], ps, _, _, h => h
  | t :: ts, v :: vs, d :: ds, ps, ht, hlt, h => by
    obtain ⟨p, q, h1, h2, rfl⟩ := h
    exact ⟨p, q, Below.trod hl (ht t (by simp)).1 (ht t (by simp)).2 h1 hb (fun x hx => hlt x (by simp [hx])), trodAll_below hl hb (fun t' h' => ht t' (by simp [h'])) (fun x hx => hlt x (by simp [hx])) h2, rfl⟩
  | [], [], _ :: _, _, _, _, h => h.elim
  | _ :: _, _ :: _, [], _, _, _, h => h.elim
  | _ :: _, [], ds, _, _, _, h => by cases ds <;> exact h.elim
  | [], _ :: _, ds, _, _, _, h => by cases ds <;> exact h.elim
end

end Go.Sm

/- A law that always says true keeps its row. -/
namespace Go.Sm
open Go Go.RowKit Go.ChangeShapes Go.WideShapes Go.Deep

section
variable {H : Type} {enc : TypeId × Value → H} {P : Program}

/-- What the call leaves behind, where below the heap's old size nothing has turned. -/
theorem post_below {f : Func} {s : ChangeSpec} {apart fresh handsOn again : Bool} {W W' : World} {args : Array Value} {v : Value} {ds gs : List (DataW H)} {before pa pv : List MemPlace}
    (hW : DataW.Whole enc P f.params.toList s.vars apart W args.toList ds gs before)
    (hres : ∀ (b : Nat) (sp : Nat → Bool) (hd : Bool), DataW.TrodAll enc P W' b sp hd f.resultTypes.toList (v.resultList f.resultTypes.size) (s.fn H (ds ++ gs)).results [])
    (hargs : DataW.TrodAll enc P W' 0 (fun b => decide (b < W.heap.size)) true f.params.toList args.toList (s.fn H (ds ++ gs)).args pa)
    (hargs2 : DataW.TrodAll enc P W' 0 (fun _ => true) true f.params.toList args.toList (s.fn H (ds ++ gs)).args pa)
    (hvars : ∀ sp : Nat → Bool, DataW.TrodVars enc P W' sp s.vars (s.fn H (ds ++ gs)).vars pv)
    (hps : before = pa ++ pv) (hb : Below W.heap.size W W')
    (hok : ∀ (j : Nat) (t : TypeId) (r : Value), f.resultTypes[j]? = some t → (v.resultList f.resultTypes.size)[j]? = some r → Value.okWide P W' .any 0 t r) :
    s.post enc P f apart fresh handsOn again W args v W' := by
  refine ⟨ds, gs, before, [], pa, pv, hW, hres _ _ _, hargs, hvars _, World.keptBut_mono (fun p hp => ⟨hp, ?_⟩) (hb.frame (· ∈ before)), fun _ => ?_⟩
  · rw [hps, List.mem_append] at hp
    exact Or.inr hp
  · have hlt := hW.lt
    obtain ⟨_, _, _, _, _, hz, hn⟩ := hW
    refine ⟨hok, _, _, ([] ++ pa) ++ pv, ⟨[] ++ pa, pv, trodAll_append hargs2 (hres _ _ _), hvars _, rfl, ?_, ?_⟩, ?_⟩
    · intro b off hp
      have hp' : MemPlace.cell b off ∈ before := by rw [hps]; simpa using hp
      rw [World.frozen?_of_block (w := W) (hb.block b (hlt _ hp'))]
      exact hz b off hp'
    · intro ha
      have := hn ha
      rw [hps] at this
      simpa using this
    · intro p hp _
      rw [hps]
      simpa using hp

theorem trodAll_below2 {W W' : World} (hl : laidOutB P = true) (hb : Below W.heap.size W W') : ∀ {ts : List Nat} {vs : List Value} {ds : List (DataW H)} {ps : List MemPlace}, (∀ t ∈ ts, P.readableRec t = true ∧ t < P.types.size) → (∀ x ∈ ps, x.block < W.heap.size) →
    DataW.TrodAll enc P W 0 (fun _ => true) true ts vs ds ps → DataW.TrodAll enc P W' 0 (fun _ => true) true ts vs ds ps
  | [], [], [], ps, _, _, h => h
  | t :: ts, v :: vs, d :: ds, ps, ht, hlt, h => by
    obtain ⟨p, q, h1, h2, rfl⟩ := h
    exact ⟨p, q, WideElems.Trod_stays hl (ht t (by simp)).1 (ht t (by simp)).2 h1 (fun x hx => hb.same (hlt x (by simp [hx]))) (fun _ _ => rfl), trodAll_below2 hl hb (fun t' h' => ht t' (by simp [h'])) (fun x hx => hlt x (by simp [hx])) h2, rfl⟩
  | [], [], _ :: _, _, _, _, h => h.elim
  | _ :: _, _ :: _, [], _, _, _, h => h.elim
  | _ :: _, [], ds, _, _, _, h => by cases ds <;> exact h.elim
  | [], _ :: _, ds, _, _, _, h => by cases ds <;> exact h.elim
end

/-- **A LAW THAT ALWAYS SAYS TRUE.** -/
theorem law_lifted {H : Type} {enc : TypeId × Value → H} {C : Checked} {os : Os} {f : FuncId} {fn : Func} {s : ChangeSpec} {aks : List AK} {tb : TypeId} {apart fresh handsOn again : Bool}
    (own : ownKnob C.prog.godebug = none) (started : os.Started) (noInit : C.prog.inits.idxOf? f = none) (hfn : C.prog.funcs[f]? = some fn) (hl : laidOutB C.prog = true)
    (witness : ∃ (w : World) (tape : Tape) (i : Input), w.os = os ∧ (w.forCall tape i).Shaped C.prog ∧ i.vars = [] ∧ Input.okWide C.prog (w.forCall tape i) .any w.heap.size f i ∧
      s.pre6 enc C.prog fn [] apart (w.forCall tape i).memory i.args ∧ ({} : Assume).holds C.prog (lone (Frame.enter C.prog f i.args .normal) [] (w.forCall tape i)))
    (hts : ∀ t ∈ fn.params.toList, C.prog.readableRec t = true ∧ t < C.prog.types.size) (hret : fn.resultTypes = #[tb]) (htb : C.prog.underlying tb = some .bool)
    (hvars : s.vars = []) (hspec : ∀ ds : List (DataW H), ds.length = fn.params.size → s.fn H ds = { results := [.lit (.bool true)], args := ds })
    (hrow : AllR (AK.row C.prog) aks fn.params.toList) (core : ∀ xs, AKs (AK.fits C.prog) aks fn.params.toList xs → COK C.prog f xs [.el (.sc (.bo true))]) :
    ReturnsInHanded {} C os f .any (s.pre6 enc C.prog fn [] apart) (s.post enc C.prog fn apart fresh handsOn again) := by
  refine returnsInHanded_of_change_sized own started noInit hfn witness ?_
  intro W base args ds gs before hval hW _ hwt _
  have hlt := hW.lt
  have hW' := hW
  obtain ⟨p, q, hA, hV, rfl, hfz, hnd⟩ := hW
  rw [hvars] at hV
  have hgs : gs = [] ∧ q = [] := by
    cases gs with
    | nil => exact ⟨rfl, hV⟩
    | cons _ _ => exact hV.elim
  obtain ⟨rfl, rfl⟩ := hgs
  rw [List.append_nil] at hwt
  obtain ⟨xs, hx, hv⟩ := open_args hrow (fun j t v ht hv => hval j t v (by simpa using ht) (by simpa using hv)) hA _ hwt
  have hc := core xs hx W args.toList hv
  rw [Array.toArray_toList] at hc
  have hdl : ds.length = fn.params.size := by
    have key : ∀ {ts : List Nat} {vs : List Value} {ds : List (DataW H)} {ps : List MemPlace}, DataW.TrodAll enc C.prog W 0 (fun _ => true) true ts vs ds ps → ds.length = ts.length := by
      intro ts
      induction ts with
      | nil =>
        intro vs ds ps h
        cases vs with
        | nil => cases ds with
          | nil => rfl
          | cons _ _ => exact h.elim
        | cons _ _ => cases ds <;> exact h.elim
      | cons t ts ih =>
        intro vs ds ps h
        cases vs with
        | nil => cases ds <;> exact h.elim
        | cons v vs => cases ds with
          | nil => exact h.elim
          | cons d ds => obtain ⟨_, _, _, h2, _⟩ := h; simp [ih h2]
    simpa using key hA
  refine hc.mono fun e W' ⟨vs, he, hb, hrv⟩ => ?_
  have hvs : vs = [.bool true] := by
    have h := hrv.all
    match vs, h with
    | [v], h => rw [show v = .bool true from h.1]
  subst hvs
  have hlt' : ∀ x ∈ p, x.block < W.heap.size := fun x hx => hlt x (by simp [hx])
  refine ⟨.bool true, he, post_below (pa := p) (pv := []) hW' ?_ ?_ ?_ ?_ rfl hb ?_⟩
  · intro b sp hd
    rw [List.append_nil, hspec ds hdl, hret]
    exact ⟨[], [], ⟨1, by simp [DataW.trod, Value.cells, htb]⟩, rfl, rfl⟩
  · rw [List.append_nil, hspec ds hdl]
    exact trodAll_below hl hb hts hlt' hA
  · rw [List.append_nil, hspec ds hdl]
    exact trodAll_below2 hl hb hts hlt' hA
  · intro sp
    rw [List.append_nil, hspec ds hdl, hvars]
    exact rfl
  · exact ok_one hret rfl (by simp [Value.okWide, htb, Cell.okWide, Cell.ok])

end Go.Sm

/- The types' table of a program, looked through once. -/
namespace Go.Sm
open Go Go.RowKit

def look {α : Type} : List (Nat × α) → Nat → Option α
  | [], _ => none
  | x :: l, n => bif Nat.beq x.1 n then some x.2 else look l n

structure Tab where
  sls : List (Nat × Nat)
  eks : List (Nat × K)
  nks : List (Nat × NK)

def Tab.fo (b : Tab) (t f : Nat) : Option Nat :=
  match look b.eks t with
  | some k => bif k.agg && Nat.blt f k.sz then some f else none
  | none => none

abbrev SFn := Nat → List FV → (List RV → R) → R
abbrev MFn := Nat → Vec → List FV → (List RV → Vec → R) → R

/-- The table with what is known of the callees. -/
def Tab.T (b : Tab) (S : SFn) (mutf : Nat → Bool) (M : MFn) : TT := ⟨look b.sls, look b.eks, b.fo, look b.nks, mutf, S, M⟩

def descB : NK → TypeDesc → Bool
  | .bool, .bool => true
  | .int k, .int k' => decide (k = k')
  | .float k, .float k' => decide (k = k')
  | .complex k, .complex k' => decide (k = k')
  | _, _ => false

def scB : SC → Value → Bool
  | .int k n, .int k' n' => decide (k = k') && decide (n = n')
  | .bo b, .bool b' => b == b'
  | .fl k c, .float k' b => decide (k = k') && Nat.beq b c && !isN k b
  | .cx k c d, .complex k' a b => decide (k = k') && (Nat.beq a c && !isN k a) && (Nat.beq b d && !isN k b)
  | _, _ => false

def scsB : List SC → List Value → Bool
  | [], [] => true
  | s :: ss, v :: vs => scB s v && scsB ss vs
  | _, _ => false

def elB : Elt → Value → Bool
  | .sc s, v => scB s v
  | .ag cs, .agg vs => scsB cs vs.toList
  | _, _ => false

def nilB : Option Value → Bool
  | some (.slice none 0 0) => true
  | _ => false

theorem nilB_ok {z : Option Value} (h : nilB z = true) : z = some (.slice none 0 0) := by
  unfold nilB at h
  split at h
  · rfl
  · cases h

def slB (P : Program) (t e : Nat) : Bool :=
  match P.underlying t, P.info? t with
  | some (.slice e'), some i => Nat.beq e e' && Nat.beq i.size 1 && nilB i.zero && Nat.ble i.bytes 64
  | _, _ => false

/-- The fields of a struct: a cell each. -/
def fieldsB (P : Program) : Nat → List Field → List NK → Bool
  | _, [], [] => true
  | i, f :: fs, n :: ns => Nat.beq f.offset i && (match P.info? f.type, P.underlying f.type with
    | some j, some d => Nat.beq j.size 1 && descB n d
    | _, _ => false) && fieldsB P (i + 1) fs ns
  | _, _, _ => false

def ekB (P : Program) (t : Nat) (k : K) : Bool :=
  match P.info? t, P.underlying t with
  | some i, some d => Nat.beq i.size k.sz && (match i.zero with
    | some z => elB (k.f k.z) z
    | none => false) && Nat.ble i.bytes 64 && (aggD d == k.agg) && (match k.agg, d with
    | true, .struct fs => fieldsB P 0 fs.toList k.nks
    | true, _ => false
    | false, d => match k.nks with
      | [n] => descB n d
      | _ => decide (k = .c64) && descB (.complex .f32) d)
  | _, _ => false

def nkB (P : Program) (t : Nat) (n : NK) : Bool :=
  match P.underlying t with
  | some d => descB n d
  | none => false

def tabB (P : Program) (b : Tab) : Bool :=
  P.follows .mixedOrders && b.sls.all (fun x => slB P x.1 x.2) && b.eks.all (fun x => ekB P x.1 x.2) && b.nks.all (fun x => nkB P x.1 x.2)

theorem look_mem {α : Type} : ∀ {l : List (Nat × α)} {n : Nat} {a : α}, look l n = some a → (n, a) ∈ l
  | [], _, _, h => by cases h
  | (m, b) :: l, n, a, h => by
    unfold look at h
    cases hb : Nat.beq m n with
    | true =>
      rw [hb] at h
      cases h
      rw [Nat.eq_of_beq_eq_true hb]
      exact .head _
    | false =>
      rw [hb] at h
      exact .tail _ (look_mem h)

theorem descB_ok {n : NK} {d : TypeDesc} (h : descB n d = true) : d = n.desc := by
  unfold descB at h
  split at h
  · rfl
  · rw [of_decide_eq_true h]; rfl
  · rw [of_decide_eq_true h]; rfl
  · rw [of_decide_eq_true h]; rfl
  · cases h

theorem scB_ok {s : SC} {v : Value} (h : scB s v = true) : SCR s v := by
  unfold scB at h
  split at h
  · rw [Bool.and_eq_true] at h
    rw [of_decide_eq_true h.1, of_decide_eq_true h.2]
    exact rfl
  · rw [eq_of_beq h]; exact rfl
  · rw [Bool.and_eq_true, Bool.and_eq_true] at h
    rename_i k c k' b
    have h1 := of_decide_eq_true h.1.1
    have h2 := Nat.eq_of_beq_eq_true h.1.2
    subst h1 h2
    exact ⟨b, rfl, cn_num (by simpa using h.2)⟩
  · rw [Bool.and_eq_true, Bool.and_eq_true, Bool.and_eq_true, Bool.and_eq_true] at h
    rename_i k c d k' a b
    have h1 := of_decide_eq_true h.1.1
    have h2 := Nat.eq_of_beq_eq_true h.1.2.1
    have h3 := Nat.eq_of_beq_eq_true h.2.1
    subst h1 h2 h3
    exact ⟨a, b, rfl, cn_num (by simpa using h.1.2.2), cn_num (by simpa using h.2.2)⟩
  · cases h

theorem scsB_ok : ∀ {ss : List SC} {vs : List Value}, scsB ss vs = true → AllR SCR ss vs
  | [], [], _ => trivial
  | s :: ss, v :: vs, h => by
    unfold scsB at h
    rw [Bool.and_eq_true] at h
    exact ⟨scB_ok h.1, scsB_ok h.2⟩
  | [], _ :: _, h => by cases h
  | _ :: _, [], h => by cases h

theorem elB_ok {e : Elt} {v : Value} (h : elB e v = true) : ElR e v := by
  unfold elB at h
  split at h
  · exact scB_ok h
  · exact ⟨_, by simp, scsB_ok h⟩
  · cases h

theorem aggD_desc (n : NK) : aggD n.desc = false := by cases n <;> rfl

section
variable {P : Program}

theorem fieldsB_ok : ∀ {i : Nat} {fs : List Field} {ns : List NK}, fieldsB P i fs ns = true → fs.length = ns.length ∧ ∀ (j : Nat) (f : Field), fs[j]? = some f →
    f.offset = i + j ∧ ∃ q n, P.info? f.type = some q ∧ q.size = 1 ∧ ns[j]? = some n ∧ P.underlying f.type = some n.desc
  | i, [], [], _ => ⟨rfl, fun j f h => by simp at h⟩
  | i, f :: fs, n :: ns, h => by
    unfold fieldsB at h
    rw [Bool.and_eq_true, Bool.and_eq_true] at h
    obtain ⟨⟨h1, h2⟩, h3⟩ := h
    obtain ⟨h4, h5⟩ := fieldsB_ok h3
    refine ⟨by simp [h4], fun j g hj => ?_⟩
    cases j with
    | zero =>
      simp at hj
      subst hj
      split at h2
      · rename_i q d hq hd
        rw [Bool.and_eq_true] at h2
        exact ⟨Nat.eq_of_beq_eq_true h1, q, n, hq, Nat.eq_of_beq_eq_true h2.1, rfl, by rw [hd, descB_ok h2.2]⟩
      · cases h2
    | succ j =>
      obtain ⟨h6, h7⟩ := h5 j g (by simpa using hj)
      exact ⟨by omega, by simpa using h7⟩
  | _, [], _ :: _, h => by cases h
  | _, _ :: _, [], h => by cases h

structure TStat (P : Program) (T : TT) : Prop where
  mo : P.follows .mixedOrders = true
  sl : ∀ t e, T.sl t = some e → P.underlying t = some (.slice e)
  s1 : ∀ t e, T.sl t = some e → ∃ i, P.info? t = some i ∧ i.size = 1 ∧ i.zero = some (.slice none 0 0) ∧ i.bytes ≤ 64
  ek : ∀ t k, T.ek t = some k → ∃ i z d, P.info? t = some i ∧ i.size = k.sz ∧ i.zero = some z ∧ ElR (k.f k.z) z ∧ i.bytes ≤ 64 ∧ P.underlying t = some d ∧
    aggD d = k.agg
  fo : ∀ t f o, T.fo t f = some o → ∃ fs fd i d, P.underlying t = some (.struct fs) ∧ fs[f]? = some fd ∧ fd.offset = o ∧ P.info? fd.type = some i ∧ i.size = 1 ∧
    P.underlying fd.type = some d ∧ aggD d = false
  bd : ∀ t k, T.ek t = some k → k.agg = true → ∃ (fs : Array Field) (places : Array (Nat × Nat)), P.underlying t = some (.struct fs) ∧
    (∀ w : World, (fs.mapM fun f => (do pure (f.offset, ← sizeOf f.type) : Sem (Nat × Nat))).run P w = .ok places w) ∧ ∀ f o, T.fo t f = some o → places[f]? = some (o, 1) ∧ o < k.sz
  nk : ∀ t n, T.nk t = some n → P.underlying t = some n.desc

theorem TStat.tok {T : TT} (h : TStat P T) (hS : ∀ f args k out, T.S f args k = some out → ∃ rs, CallOK P f args rs ∧ k rs = some out)
    (hM : ∀ f vec args k out, T.M f vec args k = some out → ∃ rs vec', Real P f ∧ CMOK P f vec args rs vec' ∧ k rs vec' = some out) : TOK P T :=
  ⟨h.mo, h.sl, h.s1, h.ek, h.fo, h.bd, h.nk, hS, hM⟩

theorem ekB_spec {t : Nat} {k : K} (h : ekB P t k = true) : (∃ i z d, P.info? t = some i ∧ i.size = k.sz ∧ i.zero = some z ∧ ElR (k.f k.z) z ∧ i.bytes ≤ 64 ∧ P.underlying t = some d ∧ aggD d = k.agg) ∧
    (k.agg = true → ∃ fs : Array Field, P.underlying t = some (.struct fs) ∧ fieldsB P 0 fs.toList k.nks = true) ∧ (k.agg = false → k ≠ .c64 → ∃ n, k.nks = [n] ∧ P.underlying t = some n.desc) := by
  unfold ekB at h
  split at h
  · rename_i i d hi hd
    rw [Bool.and_eq_true, Bool.and_eq_true, Bool.and_eq_true, Bool.and_eq_true] at h
    obtain ⟨⟨⟨⟨h1, h2⟩, h3⟩, h4⟩, h5⟩ := h
    split at h2
    · rename_i z hz
      refine ⟨⟨i, z, d, hi, Nat.eq_of_beq_eq_true h1, hz, elB_ok h2, Nat.le_of_ble_eq_true h3, hd, eq_of_beq h4⟩, fun ha => ?_, fun ha hc => ?_⟩
      · rw [ha] at h5
        split at h5
        · rename_i fs _; exact ⟨fs, hd, h5⟩
        · cases h5
        · exact absurd ‹true = false› (by decide)
      · rw [ha] at h5
        split at h5
        · exact absurd ‹false = true› (by decide)
        · exact absurd ‹false = true› (by decide)
        · split at h5
          · rename_i n hn; exact ⟨n, hn, by rw [hd, descB_ok h5]⟩
          · rw [Bool.and_eq_true] at h5
            exact absurd (of_decide_eq_true h5.1) hc
    · cases h2
  · cases h

theorem mapM_runs {α β : Type} {w : World} (g : α → Sem β) (h : α → β) : ∀ (l : List α), (∀ a ∈ l, (g a).run P w = .ok (h a) w) → (l.mapM g).run P w = .ok (l.map h) w
  | [], _ => by simp
  | a :: l, hall => by
    rw [List.mapM_cons, Sem.run_bind, hall a (by simp), Result.andThen_ok, Sem.run_bind, mapM_runs g h l (fun b hb => hall b (by simp [hb]))]
    rfl

theorem nks_len {k : K} (h : k.agg = true) : k.nks.length = k.sz := by cases k <;> first | rfl | cases h

theorem tab_ok {b : Tab} {S : SFn} {mutf : Nat → Bool} {M : MFn} (h : tabB P b = true) : TStat P (b.T S mutf M) := by
  unfold tabB at h
  rw [Bool.and_eq_true, Bool.and_eq_true, Bool.and_eq_true, List.all_eq_true, List.all_eq_true, List.all_eq_true] at h
  obtain ⟨⟨⟨h1, h2⟩, h3⟩, h4⟩ := h
  have hek : ∀ t k, look b.eks t = some k → ekB P t k = true := fun t k hk => h3 _ (look_mem hk)
  refine ⟨h1, fun t e he => ?_, fun t e he => ?_, fun t k hk => (ekB_spec (hek t k hk)).1, fun t f o ho => ?_, fun t k hk ha => ?_, fun t n hn => ?_⟩
  · have := h2 _ (look_mem (show look b.sls t = some e from he))
    unfold slB at this
    dsimp only at this
    split at this
    · rename_i e' i he' hi'
      simp only [Bool.and_eq_true] at this
      rw [he', Nat.eq_of_beq_eq_true this.1.1.1]
    · cases this
  · have := h2 _ (look_mem (show look b.sls t = some e from he))
    unfold slB at this
    dsimp only at this
    split at this
    · rename_i e' i he' hi'
      simp only [Bool.and_eq_true] at this
      exact ⟨i, hi', Nat.eq_of_beq_eq_true this.1.1.2, nilB_ok this.1.2, Nat.le_of_ble_eq_true this.2⟩
    · cases this
  · have ho' : b.fo t f = some o := ho
    unfold Tab.fo at ho'
    split at ho'
    · rename_i k hk
      cases hc : k.agg && Nat.blt f k.sz with
      | false => rw [hc] at ho'; cases ho'
      | true =>
        rw [hc] at ho'
        cases ho'
        rw [Bool.and_eq_true] at hc
        obtain ⟨fs, hu, hf⟩ := (ekB_spec (hek t k hk)).2.1 hc.1
        obtain ⟨hl, hall⟩ := fieldsB_ok hf
        have hfl : f < fs.toList.length := by rw [hl, nks_len hc.1]; exact Nat.le_of_ble_eq_true hc.2
        obtain ⟨hoff, q, n, hq, hsz, _, hun⟩ := hall f _ (List.getElem?_eq_getElem hfl)
        exact ⟨fs, fs.toList[f], q, n.desc, hu, by simp, by omega, hq, hsz, hun, aggD_desc n⟩
    · cases ho'
  · have hk' : look b.eks t = some k := hk
    obtain ⟨fs, hu, hf⟩ := (ekB_spec (hek t k hk')).2.1 ha
    obtain ⟨hl, hall⟩ := fieldsB_ok hf
    refine ⟨fs, (fs.toList.map fun f => (f.offset, 1)).toArray, hu, fun w => ?_, fun f o ho => ?_⟩
    · rw [Array.mapM_eq_mapM_toList]
      have := mapM_runs (P := P) (w := w) (fun f => (do pure (f.offset, ← sizeOf f.type) : Sem (Nat × Nat))) (fun f => (f.offset, 1)) fs.toList (fun f hf => by
        obtain ⟨j, hj⟩ := List.getElem?_of_mem hf
        obtain ⟨_, q, n, h1, h2, _⟩ := hall j f hj
        simp [sizeOf, typeInfo, h1, h2])
      rw [map_eq_pure_bind, Sem.run_bind, this]
      rfl
    · have ho' : b.fo t f = some o := ho
      unfold Tab.fo at ho'
      rw [hk'] at ho'
      dsimp only at ho'
      cases hc : k.agg && Nat.blt f k.sz with
      | false => rw [hc] at ho'; cases ho'
      | true =>
        rw [hc] at ho'
        cases ho'
        rw [Bool.and_eq_true] at hc
        have hlt : f < k.sz := Nat.le_of_ble_eq_true hc.2
        have hfl : f < fs.toList.length := by rw [hl, nks_len ha]; exact hlt
        obtain ⟨hoff, _⟩ := hall f _ (List.getElem?_eq_getElem hfl)
        refine ⟨?_, hlt⟩
        have hfs : f < fs.size := by simpa using hfl
        simp [hfs]
        simpa using hoff
  · have := h4 _ (look_mem (show look b.nks t = some n from hn))
    unfold nkB at this
    dsimp only at this
    split at this
    · rename_i d hd
      rw [hd, descB_ok this]
    · cases this

/-- The row of a kind of argument. -/
theorem krow {t : Nat} {k : K} (hk : k ≠ .c64) (h : ekB P t k = true) : KRow P t k := by
  obtain ⟨⟨i, z, d, hi, hsz, _⟩, h2, h3⟩ := ekB_spec h
  refine ⟨by simp [Program.cellsOf, hi, hsz], ?_⟩
  cases ha : k.agg with
  | true =>
    obtain ⟨fs, hu, hf⟩ := h2 ha
    obtain ⟨hl, hall⟩ := fieldsB_ok hf
    refine ⟨fs, hu, by rw [← nks_len ha, ← hl]; simp, nks_len ha, fun j n hn => ?_⟩
    have hj : j < fs.toList.length := by
      rw [hl]
      rcases Nat.lt_or_ge j k.nks.length with h' | h'
      · exact h'
      · rw [List.getElem?_eq_none h'] at hn; cases hn
    obtain ⟨hoff, q, n', hq, hs, hn', hu'⟩ := hall j _ (List.getElem?_eq_getElem hj)
    rw [hn] at hn'
    cases hn'
    exact ⟨fs.toList[j], by simp, by omega, by rw [Program.cellsOf, hq]; simpa using hs, hu'⟩
  | false =>
    obtain ⟨n, hn, hu⟩ := h3 ha hk
    exact ⟨n, hn, hu⟩

def AK.rowB (P : Program) : AK → Nat → Bool
  | .sc n, t => nkB P t n && (match n with
    | .complex _ => false
    | _ => true)
  | .ag k, t => !decide (k = .c64) && k.agg && ekB P t k
  | .sl k, t => !decide (k = .c64) && (match P.underlying t with
    | some (.slice e) => ekB P e k
    | _ => false)
  | .sll k, t => !decide (k = .c64) && (match P.underlying t with
    | some (.slice e) => Nat.beq (P.cellsOf e) 1 && (match P.underlying e with
      | some (.slice e2) => ekB P e2 k
      | _ => false)
    | _ => false)

def rowsB (P : Program) : List AK → List Nat → Bool
  | [], [] => true
  | a :: as, t :: ts => a.rowB P t && rowsB P as ts
  | _, _ => false

theorem rowB_ok {a : AK} {t : Nat} (h : a.rowB P t = true) : a.row P t := by
  cases a with
  | sc n =>
    simp only [AK.rowB, Bool.and_eq_true] at h
    refine ⟨?_, fun q e => ?_⟩
    · have := h.1
      unfold nkB at this
      split at this
      · rename_i d hd; rw [hd, descB_ok this]
      · cases this
    · subst e; cases h.2
  | ag k =>
    simp only [AK.rowB, Bool.and_eq_true] at h
    have hk : k ≠ .c64 := by simpa using h.1.1
    exact ⟨hk, h.1.2, krow hk h.2⟩
  | sl k =>
    simp only [AK.rowB, Bool.and_eq_true] at h
    have hk : k ≠ .c64 := by simpa using h.1
    have h2 := h.2
    split at h2
    · rename_i e he
      exact ⟨hk, e, he, krow hk h2⟩
    · cases h2
  | sll k =>
    simp only [AK.rowB, Bool.and_eq_true] at h
    have hk : k ≠ .c64 := by simpa using h.1
    have h2 := h.2
    split at h2
    · rename_i e he
      rw [Bool.and_eq_true] at h2
      have h3 := h2.2
      split at h3
      · rename_i e2 he2
        exact ⟨hk, e, e2, he, he2, Nat.eq_of_beq_eq_true h2.1, krow hk h3⟩
      · cases h3
    · cases h2

theorem rowsB_ok : ∀ {as : List AK} {ts : List Nat}, rowsB P as ts = true → AllR (AK.row P) as ts
  | [], [], _ => trivial
  | a :: as, t :: ts, h => by
    simp only [rowsB, Bool.and_eq_true] at h
    exact ⟨rowB_ok h.1, rowsB_ok h.2⟩
  | [], _ :: _, h => by cases h
  | _ :: _, [], h => by cases h
end
end Go.Sm

