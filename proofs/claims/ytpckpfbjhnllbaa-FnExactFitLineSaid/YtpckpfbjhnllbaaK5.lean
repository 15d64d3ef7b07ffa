/- A machine on plain data, its laws: part 5. -/
import Derived.Test.YtpckpfbjhnllbaaK4
import Derived.Carry
import Derived.SizedLaws
import Derived.ProofKit
import Derived.Laws.Cover2
import Derived.Deep.Slices
import Derived.Laws.FloatBits
import Derived.Laws.FloatArith
import Derived.Laws.BitsLemmas
namespace Go.Sm
open Go Go.RowKit
def outAt (T : TT) : Nat → List Oper → Option Nat
  | _, [] => none
  | i, o :: os => match o.op with
    | .buildSlice t _ _ => (match T.sl t with
      | some e => (match T.ek e with
        | none => some i
        | some _ => outAt T (i + 1) os)
      | none => outAt T (i + 1) os)
    | _ => outAt T (i + 1) os
def lateAt (T : TT) : Nat → List Oper → Option Nat
  | _, [] => none
  | i, o :: os => match o.op with
    | .store t _ _ => (match T.ek t with
      | none => some i
      | some _ => lateAt T (i + 1) os)
    | _ => lateAt T (i + 1) os
def qOf (ops : Array Oper) (p : Nat) : Nat := match ops.toList[p + 1]? with
  | some o => (match o.op with
    | .call _ => p + 2
    | _ => p + 1)
  | none => p + 1
def regionU (T : TT) (A : Ann) (L : Loops) (G : Nat → Option GF) (nt : Nat) (id : Nat) (ops : Array Oper) (d : Bool) (s : St) (M : Option Nat) (k : St → Option Nat → R) : R :=
  bif d then (bif drawOk ops then (match outAt T 0 ops.toList with
    | some p => drawnM T G nt ops (specials T 0 [] ops.toList) p (qOf ops p) s M k
    | none => (match lateAt T 0 ops.toList with
      | some is1 => drawnL T G nt ops is1 (effAt is1 0 ops.toList) s M k
      | none => codeK T A L nt (.region id ops true) s fun e s' => match e with
        | .normal => k s' M
        | _ => none)) else none)
  else opsU T G nt ops.toList ops.toList s M k
def iterU (body : St → Option Nat → (Ex → St → Option Nat → R) → R) : Nat → St → Option Nat → (Ex → St → Option Nat → R) → R
  | 0, _, _, _ => none
  | n + 1, s, M, k => body s M fun e s' M' => match e with
    | .normal => iterU body n s' M' k
    | e => k e s' M'
def codeU (T : TT) (A : Ann) (L : Loops) (G : Nat → Option GF) (nt fuel : Nat) : Code → St → Option Nat → (Ex → St → Option Nat → R) → R
  | .skip, s, M, k => k .normal s M
  | .region id ops d, s, M, k => regionU T A L G nt id ops d s M (k .normal)
  | .seq a b, s, M, k => codeU T A L G nt fuel a s M fun e s' M' => match e with
    | .normal => codeU T A L G nt fuel b s' M' k
    | e => k e s' M'
  | .cond c a b, s, M, k => match evO s c with
    | some (.el (.sc (.bo t))) => bif t then codeU T A L G nt fuel a s M k else codeU T A L G nt fuel b s M k
    | _ => none
  | .block id a, s, M, k => codeU T A L G nt fuel a s M fun e s' M' => match e with
    | .exit i => bif Nat.beq i id then k .normal s' M' else k (.exit i) s' M'
    | e => k e s' M'
  | .loop a, s, M, k => match A.lp (firstRegion a) with
    | some _ => (match M with
      | none => codeK T A L nt (.loop a) s fun e s' => k e s' none
      | some r => (match A.lp (firstRegion a), A.lm (firstRegion a) with
        | some (ins, _), some F => (match normU ins s (some r) with
          | some (s', M') => F s' M' k
          | none => none)
        | _, _ => none))
    | none => iterU (codeU T A L G nt fuel a) fuel s M k
  | .ret, s, M, k => k .ret s M
  | .exit id, s, M, k => k (.exit id) s M
  | _, _, _, _ => none
def LoopsU (T : TT) (A : Ann) (L : Loops) (G : Nat → Option GF) (nt fuel : Nat) : Code → Prop
  | .seq a b => LoopsU T A L G nt fuel a ∧ LoopsU T A L G nt fuel b
  | .cond _ a b => LoopsU T A L G nt fuel a ∧ LoopsU T A L G nt fuel b
  | .block _ a => LoopsU T A L G nt fuel a
  | .loop a => ((A.lp (firstRegion a) ≠ none → LoopsOk T A L nt (.loop a)) ∧ LoopsU T A L G nt fuel a) ∧
      ∀ ins outs F, A.lp (firstRegion a) = some (ins, outs) → A.lm (firstRegion a) = some F → ∀ s M k out, F s M k = some out → ∃ n, iterN A ins outs (codeU T A L G nt fuel a) n s M k = some out
  | _ => True
section
variable {P : Program} {T : TT} {A : Ann} {L : Loops} {G : Nat → Option GF} {Pr : Nat → Prop} {w0 : World} {cargs : List Value} {nt : Nat}
theorem regK_ok (hT : TOK P T) {id : Nat} {ops : Array Oper} {s : St} {M : Option Nat} {k : St → Option Nat → R} {out : Out} (h : (codeK T A L nt (.region id ops true) s fun e s' => match e with
        | .normal => k s' M
        | _ => none) = some out) {Q : Exit → Act → World → Prop} {a : Act} {w : World} {ρ : List Value} (hs : SRu Pr w0 cargs nt M s a w ρ)
    (hQ : ∀ s' M' a' w' ρ', k s' M' = some out → SRu Pr w0 cargs nt M' s' a' w' ρ' → Q .normal a' w') : (Code.region id ops true).wp P Q a w := by
  obtain ⟨Pr', w1, h1, h2, h3, h4, h5⟩ := hs
  have h' : (codeK T { A with nf := ρ.length } L nt (.region id ops true) s fun e s' => match e with
        | .normal => k s' M
        | _ => none) = some out := by
    unfold codeK at h ⊢
    exact h
  refine codeK_ok (Pr := Pr') (w0 := w1) (cargs := cargs) hT (.region id ops true) trivial s _ out h' Q a w ρ ⟨Pr', w1, fun _ h => h, h2, Keep.refl _ _, h4⟩ fun e s' a' w' ρ' hk hs' he => ?_
  cases e with
  | normal =>
    obtain ⟨Pr2, w2, k1, k2, k3, k4⟩ := hs'
    refine hQ s' M a' w' ρ' hk ⟨Pr2, w2, fun k hk => k1 k (h1 k hk), k2, h3.trans (k3.mono h1), k4, fun r hr => ?_⟩
    obtain ⟨v, g, b1, b2, b3, b4⟩ := h5 r hr
    exact ⟨v, g, he r v (List.getElem?_eq_some_iff.1 b1).1 b1, b2, k1 g b3, b4⟩
  | ret => cases hk
  | exit i => cases hk
theorem regionU_ok (hT : TOK P T) (hG : GOKs P G) {id : Nat} {ops : Array Oper} {d : Bool} {s : St} {M : Option Nat} {k : St → Option Nat → R} {out : Out} (h : regionU T A L G nt id ops d s M k = some out) {Q : Exit → Act → World → Prop} {a : Act} {w : World} {ρ : List Value} (hs : SRu Pr w0 cargs nt M s a w ρ)
    (hQ : ∀ s' M' a' w' ρ', k s' M' = some out → SRu Pr w0 cargs nt M' s' a' w' ρ' → Q .normal a' w') : (Code.region id ops d).wp P Q a w := by
  unfold regionU at h
  cases d with
  | false => exact wp_region_list (opsU_ok hT hG _ s M a w ρ h hs hQ)
  | true =>
    simp only [cond_true] at h
    cases hd : drawOk ops with
    | false => rw [hd] at h; cases h
    | true =>
      rw [hd] at h
      simp only [cond_true] at h
      split at h
      · exact drawnM_ok hT hG hd rfl h hs hQ
      · split at h
        · exact drawnL_ok hT hG hd h hs hQ
        · exact regK_ok hT h hs hQ
theorem normU_ok {ts : List Nat} {s s' : St} {M M' : Option Nat} (h : normU ts s M = some (s', M')) {a : Act} {w : World} {ρ : List Value} (hs : SRu Pr w0 cargs nt M s a w ρ) : ∃ ρ', SRu Pr w0 cargs nt M' s' a w ρ' := by
  unfold normU at h
  split at h
  · rename_i ids s1 hids hn
    cases h
    obtain ⟨Pr', w1, h1, h2, h3, h4, h5⟩ := hs
    obtain ⟨ρ', a1, _, a3⟩ := normS_ok2 hn h4
    refine ⟨ρ', Pr', w1, h1, h2, h3, a1, fun r' hr' => ?_⟩
    unfold renM at hr'
    split at hr'
    · rename_i r
      cases hm : memN r ids with
      | false => rw [hm] at hr'; cases hr'
      | true =>
        rw [hm] at hr'
        cases hr'
        obtain ⟨v, g, b1, b2⟩ := h5 r rfl
        refine ⟨v, g, ?_, b2⟩
        rw [a3 ids hids]
        exact ren_get (memN_iff.1 hm) b1
    · cases hr'
  · cases h
theorem codeU_ok (hT : TOK P T) (hG : GOKs P G) {fuel : Nat} : ∀ (c : Code), LoopsU T A L G nt fuel c → ∀ (s : St) (M : Option Nat) (k : Ex → St → Option Nat → R) (out : Out), codeU T A L G nt fuel c s M k = some out →
    ∀ (Q : Exit → Act → World → Prop) (a : Act) (w : World) (ρ : List Value), SRu Pr w0 cargs nt M s a w ρ →
    (∀ e s' M' a' w' ρ', k e s' M' = some out → SRu Pr w0 cargs nt M' s' a' w' ρ' → Q (conc e) a' w') → c.wp P Q a w
  | .skip, _, s, M, k, out, h, Q, a, w, ρ, hs, hQ => wp_skip (hQ .normal s M a w ρ h hs)
  | .region id ops d, _, s, M, k, out, h, Q, a, w, ρ, hs, hQ => regionU_ok hT hG h hs fun s' M' a' w' ρ' h' hs' => hQ .normal s' M' a' w' ρ' h' hs'
  | .seq x y, hL, s, M, k, out, h, Q, a, w, ρ, hs, hQ => by
    unfold codeU at h
    refine wp_seq (codeU_ok hT hG x hL.1 s M _ out h _ a w ρ hs fun e s' M' a' w' ρ' h' hs' => ?_)
    cases e with
    | normal => exact codeU_ok hT hG y hL.2 s' M' k out h' Q a' w' ρ' hs' hQ
    | exit id => exact hQ _ s' M' a' w' ρ' h' hs'
    | ret => exact hQ _ s' M' a' w' ρ' h' hs'
  | .cond c x y, hL, s, M, k, out, h, Q, a, w, ρ, hs, hQ => by
    unfold codeU at h
    split at h
    · rename_i t ht
      have hc : a.eval c = .bool t := by
        obtain ⟨_, _, _, _, _, hs1, _⟩ := hs
        exact evO_ok hs1 ht
      refine wp_cond hc ?_
      cases t with
      | true => exact codeU_ok hT hG x hL.1 s M k out h Q a w ρ hs hQ
      | false => exact codeU_ok hT hG y hL.2 s M k out h Q a w ρ hs hQ
    · cases h
  | .block id x, hL, s, M, k, out, h, Q, a, w, ρ, hs, hQ => by
    unfold codeU at h
    refine wp_block (codeU_ok hT hG x hL s M _ out h _ a w ρ hs fun e s' M' a' w' ρ' h' hs' => ?_)
    cases e with
    | normal => exact hQ .normal s' M' a' w' ρ' h' hs'
    | exit i =>
      dsimp only at h'
      cases hb : Nat.beq i id with
      | true =>
        rw [hb] at h'
        have := Nat.eq_of_beq_eq_true hb
        subst this
        simp only [conc, Exit.inBlock, if_true]
        exact hQ .normal s' M' a' w' ρ' h' hs'
      | false =>
        rw [hb] at h'
        have hne : i ≠ id := fun e => by subst e; rw [Nat.beq_refl] at hb; cases hb
        simp only [conc, Exit.inBlock, if_neg hne]
        exact hQ (.exit i) s' M' a' w' ρ' h' hs'
    | ret => exact hQ .ret s' M' a' w' ρ' h' hs'
  | .loop x, hL, s, M, k, out, h, Q, a, w, ρ, hs, hQ => by
    unfold codeU at h
    split at h
    · rename_i io hA
      split at h
      · obtain ⟨Pr', w1, h1, h2, h3, h4, h5⟩ := hs
        refine codeK_ok (Pr := Pr') (w0 := w1) (cargs := cargs) hT (.loop x) (hL.1.1 (by rw [hA]; exact fun e => by cases e)) s _ out h Q a w ρ ⟨Pr', w1, fun _ h => h, h2, Keep.refl _ _, h4⟩ fun e s' a' w' ρ' hk hs' he => ?_
        obtain ⟨Pr2, w2, k1, k2, k3, k4⟩ := hs'
        exact hQ e s' none a' w' ρ' hk ⟨Pr2, w2, fun k hk => k1 k (h1 k hk), k2, h3.trans (k3.mono h1), k4, fun r hr => by cases hr⟩
      · rename_i r
        split at h
        · rename_i ins outs F hlp hlm
          split at h
          · rename_i s1 M1 hn
            obtain ⟨ρ1, hs1⟩ := normU_ok hn hs
            obtain ⟨n, hi⟩ := hL.2 ins outs F hlp hlm s1 M1 k out h
            refine wp_loop_rounds n ?_
            have key : ∀ (n : Nat) (s : St) (M : Option Nat) (a : Act) (w : World) (ρ : List Value), iterN A ins outs (codeU T A L G nt fuel x) n s M k = some out → SRu Pr w0 cargs nt M s a w ρ → Code.rounds P x Q n a w := by
              intro n
              induction n with
              | zero => intro s M a w ρ h _; cases h
              | succ n ih =>
                intro s M a w ρ h hs
                unfold iterN at h
                rw [rounds_succ]
                refine codeU_ok hT hG x hL.1.2 s M _ out h _ a w ρ hs fun e s' M' a' w' ρ' h' hs' => ?_
                cases e with
                | normal =>
                  dsimp only at h'
                  split at h'
                  · rename_i s2 M2 hn2
                    obtain ⟨ρ2, hs2⟩ := normU_ok hn2 hs'
                    exact ih s2 M2 a' w' ρ2 h' hs2
                  · cases h'
                | exit i =>
                  dsimp only [exU] at h'
                  split at h'
                  · rename_i s2 M2 hn2
                    obtain ⟨ρ2, hs2⟩ := normU_ok hn2 hs'
                    exact hQ (.exit i) s2 M2 a' w' ρ2 h' hs2
                  · cases h'
                | ret =>
                  dsimp only [exU] at h'
                  split at h'
                  · rename_i s2 M2 hn2
                    obtain ⟨ρ2, hs2⟩ := normU_ok hn2 hs'
                    exact hQ .ret s2 M2 a' w' ρ2 h' hs2
                  · cases h'
            exact key n s1 M1 a w ρ1 hi hs1
          · cases h
        · cases h
    · refine wp_loop_rounds fuel ?_
      have key : ∀ (n : Nat) (s : St) (M : Option Nat) (a : Act) (w : World) (ρ : List Value), iterU (codeU T A L G nt fuel x) n s M k = some out → SRu Pr w0 cargs nt M s a w ρ → Code.rounds P x Q n a w := by
        intro n
        induction n with
        | zero => intro s M a w ρ h _; cases h
        | succ n ih =>
          intro s M a w ρ h hs
          unfold iterU at h
          rw [rounds_succ]
          refine codeU_ok hT hG x hL.1.2 s M _ out h _ a w ρ hs fun e s' M' a' w' ρ' h' hs' => ?_
          cases e with
          | normal => exact ih s' M' a' w' ρ' h' hs'
          | exit i => exact hQ (.exit i) s' M' a' w' ρ' h' hs'
          | ret => exact hQ .ret s' M' a' w' ρ' h' hs'
      exact key fuel s M a w ρ h hs
  | .ret, _, s, M, k, out, h, Q, a, w, ρ, hs, hQ => wp_ret (hQ .ret s M a w ρ h hs)
  | .exit id, _, s, M, k, out, h, Q, a, w, ρ, hs, hQ => wp_exit (hQ (.exit id) s M a w ρ h hs)
  | .rangeFunc .., _, s, M, k, out, h, Q, a, w, ρ, hs, hQ => by cases h
  | .scope _, _, s, M, k, out, h, Q, a, w, ρ, hs, hQ => by cases h
  | .label _, _, s, M, k, out, h, Q, a, w, ρ, hs, hQ => by cases h
  | .goto _, _, s, M, k, out, h, Q, a, w, ρ, hs, hQ => by cases h
  | .refuse _, _, s, M, k, out, h, Q, a, w, ρ, hs, hQ => by cases h
end
end Go.Sm
namespace Go.Sm
open Go Go.RowKit Go.ChangeShapes Go.WideShapes Go.Deep
def NK.fits : NK → SC → Prop
  | .bool, .bo _ => True
  | .int k, .int k' n => k' = k ∧ k.min ≤ n ∧ n ≤ k.max
  | .float .f32, .fl k' c => k' = .f32 ∧ cn .f32 c = c ∧ c < 2 ^ 32
  | .float .f64, .fl k' c => k' = .f64 ∧ cn .f64 c = c ∧ c < 2 ^ 64
  | _, _ => False
def K.nks : K → List NK
  | .f32 => [.float .f32]
  | .f64 => [.float .f64]
  | .i64 => [.int .i64]
  | .bo => [.bool]
  | .u8 => [.int .u8]
  | .c64 => []
  | .line => [.float .f32, .float .f32, .float .f32, .int .i64]
  | .edge => [.int .i64, .int .i64, .float .f32]
  | .pulse => [.float .f32, .float .f32, .float .f32, .float .f32]
  | .ll => []
  | .lf => []
  | .al => []
def K.wf (k : K) (a : k.ty) : Prop := AllR NK.fits k.nks (k.f a).cells
def KRow (P : Program) (t : Nat) (k : K) : Prop :=
  P.cellsOf t = k.sz ∧ bif k.agg then (∃ fs : Array Field, P.underlying t = some (.struct fs) ∧ fs.size = k.sz ∧ k.nks.length = k.sz ∧
    ∀ (i : Nat) (n : NK), k.nks[i]? = some n → ∃ f : Field, fs[i]? = some f ∧ f.offset = i ∧ P.cellsOf f.type = 1 ∧ P.underlying f.type = some n.desc)
  else (∃ n, k.nks = [n] ∧ P.underlying t = some n.desc)
section
variable {H : Type} {enc : TypeId × Value → H} {P : Program} {w : World} {base : Nat} {spare : Nat → Bool} {held : Bool}
theorem cn_lt32 {b : Nat} (h : b < 2 ^ 32) : cn .f32 b < 2 ^ 32 := by
  unfold cn
  cases isN .f32 b with
  | true => show (2143289344 : Nat) < 2 ^ 32; decide
  | false => exact h
theorem cn_lt64 {b : Nat} (h : b < 2 ^ 64) : cn .f64 b < 2 ^ 64 := by
  unfold cn
  cases isN .f64 b with
  | true => show (9221120237041090560 : Nat) < 2 ^ 64; decide
  | false => exact h
theorem trod_float' {t fuel : Nat} {k : FloatKind} {cs : List Value} {x : DataW H × List MemPlace} (ht : P.underlying t = some (.float k)) (h : DataW.trod enc P w base spare held fuel t cs = some x) : ∃ b, cs = [.float k b] ∧ (Lit.float k b).wf = true := by
  cases fuel with
  | zero => simp [DataW.trod] at h
  | succ n =>
    unfold DataW.trod at h
    rw [ht] at h
    split at h <;> simp_all
theorem open_cell {t fuel : Nat} {n : NK} {cs : List Value} {x : DataW H × List MemPlace} (ht : P.underlying t = some n.desc) (hc : ∀ k, n ≠ .complex k) (h : DataW.trod enc P w base spare held fuel t cs = some x) : ∃ v s, cs = [v] ∧ n.fits s ∧ SCR s v := by
  cases n with
  | bool =>
    obtain ⟨b, rfl, _⟩ := DataW.trod_bool ht h
    exact ⟨_, .bo b, rfl, trivial, rfl⟩
  | int k =>
    obtain ⟨m, rfl, _, hw⟩ := DataW.trod_int ht h
    simp only [Lit.wf, Bool.and_eq_true, decide_eq_true_eq] at hw
    exact ⟨_, .int k m, rfl, ⟨rfl, hw.1, hw.2⟩, rfl⟩
  | float k =>
    obtain ⟨b, rfl, hw⟩ := trod_float' ht h
    cases k with
    | f32 =>
      simp only [Lit.wf, decide_eq_true_eq] at hw
      exact ⟨_, .fl .f32 (cn .f32 b), rfl, ⟨rfl, cn_cn _ _, cn_lt32 hw⟩, b, rfl, rfl⟩
    | f64 =>
      simp only [Lit.wf, decide_eq_true_eq] at hw
      exact ⟨_, .fl .f64 (cn .f64 b), rfl, ⟨rfl, cn_cn _ _, cn_lt64 hw⟩, b, rfl, rfl⟩
  | complex k => exact absurd rfl (hc k)
theorem assemble (k : K) (hk : k ≠ .c64) (h2 : (k.is2 || k.isAl) = false) {ss : List SC} (h : AllR NK.fits k.nks ss) : ∃ a : k.ty, (k.f a).cells = ss := by
  have hf32 : ∀ s, NK.fits (.float .f32) s → ∃ c, s = .fl .f32 c := by
    intro s hs
    cases s with
    | fl q c => exact ⟨c, by rw [hs.1]⟩
    | int _ _ => exact hs.elim
    | bo _ => exact hs.elim
    | cx _ _ _ => exact hs.elim
    | no => exact hs.elim
  have hi : ∀ q s, NK.fits (.int q) s → ∃ n, s = .int q n := by
    intro q s hs
    cases s with
    | int q' n => exact ⟨n, by rw [hs.1]⟩
    | fl q c => exact hs.elim
    | bo _ => exact hs.elim
    | cx _ _ _ => exact hs.elim
    | no => exact hs.elim
  cases k with
  | f32 =>
    match ss, h with
    | [s], h => obtain ⟨c, rfl⟩ := hf32 s h.1; exact ⟨c, rfl⟩
  | f64 =>
    match ss, h with
    | [s], h =>
      cases s with
      | fl q c => have := h.1.1; subst this; exact ⟨c, rfl⟩
      | int _ _ => exact h.1.elim
      | bo _ => exact h.1.elim
      | cx _ _ _ => exact h.1.elim
      | no => exact h.1.elim
  | i64 =>
    match ss, h with
    | [s], h => obtain ⟨c, rfl⟩ := hi _ s h.1; exact ⟨c, rfl⟩
  | u8 =>
    match ss, h with
    | [s], h => obtain ⟨c, rfl⟩ := hi _ s h.1; exact ⟨c, rfl⟩
  | bo =>
    match ss, h with
    | [s], h =>
      cases s with
      | bo b => exact ⟨b, rfl⟩
      | int _ _ => exact h.1.elim
      | fl _ _ => exact h.1.elim
      | cx _ _ _ => exact h.1.elim
      | no => exact h.1.elim
  | c64 => exact absurd rfl hk
  | ll => cases h2
  | lf => cases h2
  | al => cases h2
  | line =>
    match ss, h with
    | [a, b, c, d], h =>
      obtain ⟨a, rfl⟩ := hf32 a h.1
      obtain ⟨b, rfl⟩ := hf32 b h.2.1
      obtain ⟨c, rfl⟩ := hf32 c h.2.2.1
      obtain ⟨d, rfl⟩ := hi _ d h.2.2.2.1
      exact ⟨⟨a, b, c, d⟩, rfl⟩
  | edge =>
    match ss, h with
    | [a, b, c], h =>
      obtain ⟨a, rfl⟩ := hi _ a h.1
      obtain ⟨b, rfl⟩ := hi _ b h.2.1
      obtain ⟨c, rfl⟩ := hf32 c h.2.2.1
      exact ⟨⟨a, b, c⟩, rfl⟩
  | pulse =>
    match ss, h with
    | [a, b, c, d], h =>
      obtain ⟨a, rfl⟩ := hf32 a h.1
      obtain ⟨b, rfl⟩ := hf32 b h.2.1
      obtain ⟨c, rfl⟩ := hf32 c h.2.2.1
      obtain ⟨d, rfl⟩ := hf32 d h.2.2.2.1
      exact ⟨⟨a, b, c, d⟩, rfl⟩
theorem nks_plain (k : K) : ∀ (i : Nat) (n : NK), k.nks[i]? = some n → ∀ q : FloatKind, n ≠ NK.complex q := by
  intro i n h q e
  subst e
  cases k <;> simp [K.nks] at h <;> match i, h with
    | 0, h => simp at h
    | 1, h => simp at h
    | 2, h => simp at h
    | 3, h => simp at h
    | i + 4, h => simp at h
theorem open_elt {t fuel : Nat} {k : K} {cs : List Value} {x : DataW H × List MemPlace} (hk : k ≠ .c64) (hr : KRow P t k) (h : DataW.trod enc P w base spare held fuel t cs = some x) :
    ∃ a : k.ty, k.wf a ∧ AllR SCR (k.f a).cells cs := by
  obtain ⟨hcell, hrow⟩ := hr
  have main : ∃ ss, AllR NK.fits k.nks ss ∧ AllR SCR ss cs := by
    cases hagg : k.agg with
    | false =>
      rw [hagg] at hrow
      obtain ⟨n, hn, hu⟩ := hrow
      obtain ⟨v, s, rfl, h1, h2⟩ := open_cell hu (nks_plain k 0 n (by rw [hn]; rfl)) h
      exact ⟨[s], by rw [hn]; exact ⟨h1, trivial⟩, h2, trivial⟩
    | true =>
      rw [hagg] at hrow
      obtain ⟨fs, hu, hfs, hnl, hall⟩ := hrow
      obtain ⟨xs, n, _, _, hl, hxl, hf⟩ := DataW.trod_struct hu h
      have hlen : cs.length = k.nks.length := by rw [hl, hcell, hnl]
      have each : ∀ i, i < k.nks.length → ∃ s, ∃ q v, k.nks[i]? = some q ∧ cs[i]? = some v ∧ q.fits s ∧ SCR s v := by
        intro i hi
        obtain ⟨q, hq⟩ : ∃ q, k.nks[i]? = some q := ⟨_, List.getElem?_eq_getElem hi⟩
        obtain ⟨f, hfi, hoff, hone, huf⟩ := hall i q hq
        have h3 := hf i f hfi
        have hxi : ∃ y, xs[i]? = some y := ⟨_, List.getElem?_eq_getElem (by rw [hxl, hfs, ← hnl]; exact hi)⟩
        obtain ⟨y, hy⟩ := hxi
        rw [hy] at h3
        obtain ⟨v, s, hv, h4, h5⟩ := open_cell huf (nks_plain k i q hq) h3
        refine ⟨s, q, v, hq, ?_, h4, h5⟩
        have h6 : ((cs.drop f.offset).take (P.cellsOf f.type))[0]? = some v := by rw [hv]; rfl
        rw [hone, hoff, List.getElem?_take] at h6
        simpa using h6
      haveI : Inhabited SC := ⟨.bo false⟩
      obtain ⟨F, hF⟩ := choose_lt each
      refine ⟨(List.range k.nks.length).map F, AllR.of_get (by simp) fun i a b ha hb => ?_, AllR.of_get (by simp [hlen]) fun i a b ha hb => ?_⟩
      · have hi : i < k.nks.length := by
          rcases Nat.lt_or_ge i k.nks.length with h' | h'
          · exact h'
          · rw [List.getElem?_eq_none h'] at ha; cases ha
        obtain ⟨q, v, h1, h2, h3, h4⟩ := hF i hi
        rw [h1] at ha
        cases ha
        simp [hi] at hb
        subst hb
        exact h3
      · have hi : i < k.nks.length := by
          rcases Nat.lt_or_ge i k.nks.length with h' | h'
          · exact h'
          · simp [h'] at ha
        obtain ⟨q, v, h1, h2, h3, h4⟩ := hF i hi
        rw [h2] at hb
        cases hb
        simp [hi] at ha
        subst ha
        exact h4
  obtain ⟨ss, h1, h2⟩ := main
  have hk2 : (k.is2 || k.isAl) = false := by
    cases k <;> first
      | rfl
      | (obtain ⟨n, hn, _⟩ := hrow
         cases hn)
  obtain ⟨a, rfl⟩ := assemble k hk hk2 h1
  exact ⟨a, h1, h2⟩
@[reducible] def K.inh (k : K) : Inhabited k.ty := ⟨k.z⟩
theorem cells?_get {w : World} {base : Nat} {a : Addr} {n : Nat} {cs : List Value} (h : w.cells? base a n = some cs) : cs.length = n ∧ ∀ j, j < n → w.cell? (a.add j) = cs[j]? := by
  unfold World.cells? at h
  split at h
  · have key : ∀ (l : List Nat) (cs : List Value), (l.mapM fun i => w.cell? (a.add i)) = some cs → cs.length = l.length ∧ ∀ (j i : Nat), l[j]? = some i → w.cell? (a.add i) = cs[j]? := by
      intro l
      induction l with
      | nil => intro cs h; simp at h; subst h; exact ⟨rfl, fun j i h => by simp at h⟩
      | cons i l ih =>
        intro cs h
        rw [List.mapM_cons] at h
        simp only [Option.bind_eq_bind, Option.bind_eq_some_iff, Option.pure_def, Option.some.injEq] at h
        obtain ⟨v, hv, vs, hvs, rfl⟩ := h
        obtain ⟨h1, h2⟩ := ih vs hvs
        refine ⟨by simp [h1], fun j q hj => ?_⟩
        cases j with
        | zero => simp at hj; subst hj; simpa using hv
        | succ j => simpa using h2 j q (by simpa using hj)
    obtain ⟨h1, h2⟩ := key _ _ h
    refine ⟨by simpa using h1, fun j hj => h2 j j (by simp [hj])⟩
  · cases h
theorem cell?_lt {w : World} {a : Addr} {v : Value} (h : w.cell? a = some v) : a.block < w.heap.size := by
  unfold World.cell? at h
  cases hh : w.heap[a.block]? with
  | none => rw [hh] at h; simp at h
  | some o => exact (Array.getElem?_eq_some_iff.1 hh).1
theorem open_sl {t e : Nat} {k : K} {v : Value} {d : DataW H} {ps : List MemPlace} (hk : k ≠ .c64) (ht : P.underlying t = some (.slice e)) (hr : KRow P e k) (hv : ∃ a l c, v = .slice a l c) (h : DataW.Trod enc P w base spare held t v d ps) :
    ∃ xs : List k.ty, (∀ a ∈ xs, k.wf a) ∧ VwR w (fun b => b < w.heap.size) v ⟨k, xs⟩ ∧ ((DataW.weights P t d).all (· ≤ reachBytes) = true → xs.length * P.bytesOf e ≤ reachBytes) := by
  obtain ⟨fuel, h⟩ := h
  obtain ⟨a0, l0, c0, rfl⟩ := hv
  have hcells : (Value.slice a0 l0 c0).cells.toList = [.slice a0 l0 c0] := rfl
  rw [hcells] at h
  rcases open_slice ht h with ⟨h1, hd⟩ | ⟨a, len, cap, m, n, D, Pl, h1, _, hl, _, hm, hd, hx⟩
  · simp only [List.cons.injEq, Value.slice.injEq, and_true] at h1
    obtain ⟨rfl, rfl, rfl⟩ := h1
    exact ⟨[], by simp, .inl ⟨rfl, rfl⟩, by simp⟩
  · simp only [List.cons.injEq, Value.slice.injEq, and_true] at h1
    obtain ⟨rfl, rfl, rfl⟩ := h1
    have hlm : l0 ≤ m := by rw [hm]; split <;> omega
    haveI := K.inh k
    obtain ⟨F, hF⟩ := choose_lt (n := l0) (p := fun i (b : k.ty) => k.wf b ∧ ∀ j s, (k.f b).cells[j]? = some s → ∃ u, w.cell? (a.add (i * k.sz + j)) = some u ∧ SCR s u) (fun i hi => by
      obtain ⟨cs', h2, h3⟩ := hx i (by omega)
      obtain ⟨b, h4, h5⟩ := open_elt hk hr h3
      obtain ⟨h6, h7⟩ := cells?_get h2
      refine ⟨b, h4, fun j s hj => ?_⟩
      obtain ⟨u, hu, hs⟩ := h5.get j s hj
      have hjl : j < P.cellsOf e := by
        rw [← h6]
        rcases Nat.lt_or_ge j cs'.length with h' | h'
        · exact h'
        · rw [List.getElem?_eq_none h'] at hu; cases hu
      refine ⟨u, ?_, hs⟩
      rw [← hr.1, ← Sm.add_add, h7 j hjl]
      exact hu)
    refine ⟨(List.range l0).map F, ?_, .inr ⟨a, c0, by simp, by simpa using hl, ?_, ?_⟩, ?_⟩
    · intro b hb
      obtain ⟨i, hi, rfl⟩ := List.mem_map.1 hb
      exact (hF i (List.mem_range.1 hi)).1
    · cases l0 with
      | zero => exact .inl (by simp)
      | succ l =>
        refine .inr ?_
        obtain ⟨s, hs⟩ : ∃ s, (k.f (F 0)).cells[0]? = some s := ⟨_, List.getElem?_eq_getElem (by rw [K.len_f]; exact k.sz_pos)⟩
        obtain ⟨u, hu, _⟩ := (hF 0 (by omega)).2 0 s hs
        have := cell?_lt hu
        rwa [add_block] at this
    · intro p s hp
      have hlenp : p < l0 * k.sz := by
        have := Vec.len_cells ⟨k, (List.range l0).map F⟩
        simp only [List.length_map, List.length_range] at this
        rw [← this]
        rcases Nat.lt_or_ge p (Vec.cells ⟨k, (List.range l0).map F⟩).length with h' | h'
        · exact h'
        · rw [List.getElem?_eq_none h'] at hp; cases hp
      have hi : p / k.sz < l0 := Nat.div_lt_of_lt_mul (by rw [Nat.mul_comm]; exact hlenp)
      have hj : p % k.sz < k.sz := Nat.mod_lt _ k.sz_pos
      have hdm : p / k.sz * k.sz + p % k.sz = p := by rw [Nat.mul_comm]; exact Nat.div_add_mod p k.sz
      have hg := Vec.get_cells ⟨k, (List.range l0).map F⟩ (p / k.sz) (p % k.sz) (F (p / k.sz)) (by simp [hi]) hj
      dsimp only at hg
      rw [hdm, hp] at hg
      have := (hF _ hi).2 _ s hg.symm
      rwa [hdm] at this
    · intro hw
      cases hd
      simp only [DataW.weights, ht, List.all_cons, Bool.and_eq_true, decide_eq_true_eq] at hw
      simp only [List.length_map, List.length_range] at hw ⊢
      refine Nat.le_trans (Nat.mul_le_mul_right _ ?_) hw.1
      omega
theorem open_sl_cell {t e fuel : Nat} {k : K} {v : Value} {x : DataW H × List MemPlace} (hk : k ≠ .c64) (ht : P.underlying t = some (.slice e)) (hr : KRow P e k) (h : DataW.trod enc P w base spare held fuel t [v] = some x) :
    ∃ xs : List k.ty, (∀ a ∈ xs, k.wf a) ∧ VwR w (fun b => b < w.heap.size) v ⟨k, xs⟩ ∧ ((DataW.weights P t x.1).all (· ≤ reachBytes) = true → xs.length * P.bytesOf e ≤ reachBytes) := by
  have hv : ∃ a l c, v = .slice a l c := by
    rcases open_slice ht h with ⟨h1, _⟩ | ⟨a, len, cap, m, n, D, Pl, h1, _⟩
    · simp only [List.cons.injEq, and_true] at h1
      exact ⟨_, _, _, h1⟩
    · simp only [List.cons.injEq, and_true] at h1
      exact ⟨_, _, _, h1⟩
  have hv2 := hv
  obtain ⟨a, l, c, rfl⟩ := hv2
  exact open_sl hk ht hr hv (d := x.1) (ps := x.2) ⟨fuel, h⟩
theorem weightsAll_get {e : Nat} : ∀ {l : List (DataW H)} {i : Nat} {d : DataW H}, (DataW.weightsAll P e l).all (· ≤ reachBytes) = true → l[i]? = some d → (DataW.weights P e d).all (· ≤ reachBytes) = true
  | [], i, d, _, h => by simp at h
  | a :: l, 0, d, hw, h => by
    simp at h
    subst h
    simp only [DataW.weightsAll, List.all_append, Bool.and_eq_true] at hw
    exact hw.1
  | a :: l, i + 1, d, hw, h => by
    simp only [DataW.weightsAll, List.all_append, Bool.and_eq_true] at hw
    exact weightsAll_get hw.2 (by simpa using h)
theorem open_sll {t e e2 : Nat} {k : K} {v : Value} {d : DataW H} {ps : List MemPlace} (hk : k ≠ .c64) (ht : P.underlying t = some (.slice e)) (he : P.underlying e = some (.slice e2)) (hc : P.cellsOf e = 1) (hr : KRow P e2 k) (hv : ∃ a l c, v = .slice a l c) (h : DataW.Trod enc P w base spare held t v d ps) :
    ∃ xss : List (List k.ty), (∀ xs ∈ xss, ∀ a ∈ xs, k.wf a) ∧ VvR w (fun b => b < w.heap.size) v k xss ∧ xss.length ≤ maxLen ∧ ((DataW.weights P t d).all (· ≤ reachBytes) = true → ∀ xs ∈ xss, xs.length * P.bytesOf e2 ≤ reachBytes) := by
  obtain ⟨fuel, h⟩ := h
  obtain ⟨a0, l0, c0, rfl⟩ := hv
  have hcells : (Value.slice a0 l0 c0).cells.toList = [.slice a0 l0 c0] := rfl
  rw [hcells] at h
  rcases open_slice1 ht hc h with ⟨h1, hd⟩ | ⟨a, len, cap, m, n, V, D, Pl, h1, _, hl, hcm, hm, hd, hx⟩
  · simp only [List.cons.injEq, Value.slice.injEq, and_true] at h1
    obtain ⟨rfl, rfl, rfl⟩ := h1
    exact ⟨[], by simp, .inl ⟨rfl, rfl⟩, Nat.zero_le _, by simp⟩
  · simp only [List.cons.injEq, Value.slice.injEq, and_true] at h1
    obtain ⟨rfl, rfl, rfl⟩ := h1
    have hlm : l0 ≤ m := by rw [hm]; split <;> omega
    obtain ⟨F, hF⟩ := choose_lt (n := l0) (p := fun i (b : List k.ty) => (∀ a ∈ b, k.wf a) ∧ VwR w (fun b => b < w.heap.size) (V i) ⟨k, b⟩ ∧ ((DataW.weights P e (D i)).all (· ≤ reachBytes) = true → b.length * P.bytesOf e2 ≤ reachBytes)) (fun i hi =>
      open_sl_cell hk he hr (hx i (by omega)).2)
    refine ⟨(List.range l0).map F, ?_, .inr ⟨a, c0, by simp, by simpa using hl, ?_, ?_⟩, by simp; omega, ?_⟩
    · intro b hb
      obtain ⟨i, hi, rfl⟩ := List.mem_map.1 hb
      exact (hF i (List.mem_range.1 hi)).1
    · cases l0 with
      | zero => exact .inl (by simp)
      | succ l =>
        refine .inr ?_
        have := cell?_lt (hx 0 (by omega)).1
        rwa [add_block] at this
    · intro i xs hi
      have hil : i < l0 := by
        rcases Nat.lt_or_ge i l0 with h' | h'
        · exact h'
        · simp [h'] at hi
      simp [hil] at hi
      subst hi
      exact ⟨V i, (hx i (by omega)).1, (hF i hil).2.1⟩
    · intro hw b hb
      obtain ⟨i, hi, rfl⟩ := List.mem_map.1 hb
      have hil := List.mem_range.1 hi
      cases hd
      simp only [DataW.weights, ht, List.all_cons, List.all_append, Bool.and_eq_true] at hw
      exact (hF i hil).2.2 (weightsAll_get (i := i) hw.2.1 (by simp [hil]))
inductive AK where
  | sc (n : NK)
  | ag (k : K)
  | sl (k : K)
  | sll (k : K)
def AK.row (P : Program) : AK → Nat → Prop
  | .sc n, t => P.underlying t = some n.desc ∧ ∀ q, n ≠ .complex q
  | .ag k, t => k ≠ .c64 ∧ k.agg = true ∧ KRow P t k
  | .sl k, t => k ≠ .c64 ∧ ∃ e, P.underlying t = some (.slice e) ∧ KRow P e k
  | .sll k, t => k ≠ .c64 ∧ ∃ e e2, P.underlying t = some (.slice e) ∧ P.underlying e = some (.slice e2) ∧ P.cellsOf e = 1 ∧ KRow P e2 k
def AK.fits (P : Program) : AK → Nat → FV → Prop
  | .sc n, _, x => ∃ s, x = .el (.sc s) ∧ n.fits s
  | .ag k, _, x => ∃ a, x = .el (k.f a) ∧ k.wf a
  | .sl k, t, x => ∃ xs : List k.ty, x = .vw none ⟨k, xs⟩ ∧ (∀ a ∈ xs, k.wf a) ∧ ∀ e, P.underlying t = some (.slice e) → xs.length * P.bytesOf e ≤ reachBytes
  | .sll k, t, x => ∃ xss : List (List k.ty), x = .vv none k xss ∧ (∀ xs ∈ xss, ∀ a ∈ xs, k.wf a) ∧ xss.length ≤ maxLen ∧ ∀ e e2, P.underlying t = some (.slice e) → P.underlying e = some (.slice e2) → ∀ xs ∈ xss, xs.length * P.bytesOf e2 ≤ reachBytes
theorem open_arg {ak : AK} {t b0 : Nat} {v : Value} {d : DataW H} {ps : List MemPlace} (hr : ak.row P t) (hv : Value.okWide P w .any b0 t v) (h : DataW.Trod enc P w base spare held t v d ps) (hwt : (DataW.weights P t d).all (· ≤ reachBytes) = true) :
    ∃ x, ak.fits P t x ∧ FVR w (fun b => b < w.heap.size) [] [] x v := by
  cases ak with
  | sc n =>
    obtain ⟨hu, hc⟩ := hr
    obtain ⟨fuel, h⟩ := h
    have hcell : v.cells.toList = [v] := by
      cases n with
      | bool => obtain ⟨b, rfl⟩ := okWide_bool hu hv; rfl
      | int k => obtain ⟨b, rfl⟩ := okWide_int hu hv; rfl
      | float k => obtain ⟨b, rfl⟩ := okWide_float hu hv; rfl
      | complex k => exact absurd rfl (hc k)
    rw [hcell] at h
    obtain ⟨v', s, h1, h2, h3⟩ := open_cell hu hc h
    cases h1
    exact ⟨.el (.sc s), ⟨s, rfl, h2⟩, h3⟩
  | ag k =>
    obtain ⟨hk, hagg, hrow⟩ := hr
    have hrow' := hrow.2
    rw [hagg] at hrow'
    obtain ⟨fs, hu, _⟩ := hrow'
    obtain ⟨cs, rfl, _⟩ := okWide_struct hu hv
    obtain ⟨fuel, h⟩ := h
    obtain ⟨a, h1, h2⟩ := open_elt hk hrow h
    refine ⟨.el (k.f a), ⟨a, rfl, h1⟩, ?_⟩
    obtain ⟨ss, hss⟩ := K.agg_f hagg a
    show ElR (k.f a) _
    rw [hss] at h2 ⊢
    exact ⟨cs.toList, by simp, h2⟩
  | sl k =>
    obtain ⟨hk, e, hu, hrow⟩ := hr
    obtain ⟨xs, h1, h2, h3⟩ := open_sl hk hu hrow (okWide_slice hu hv) h
    refine ⟨.vw none ⟨k, xs⟩, ⟨xs, rfl, h1, fun e' he' => ?_⟩, h2, fun i hi => by cases hi⟩
    rw [hu] at he'
    cases he'
    exact h3 hwt
  | sll k =>
    obtain ⟨hk, e, e2, hu, hu2, hc, hrow⟩ := hr
    obtain ⟨xss, h1, h2, h4, h3⟩ := open_sll hk hu hu2 hc hrow (okWide_slice hu hv) h
    refine ⟨.vv none k xss, ⟨xss, rfl, h1, h4, fun e' e2' he' he2' => ?_⟩, h2, fun i hi => by cases hi⟩
    rw [hu] at he'
    cases he'
    rw [hu2] at he2'
    cases he2'
    exact h3 hwt
def AKs (R : AK → Nat → FV → Prop) : List AK → List Nat → List FV → Prop
  | [], [], [] => True
  | a :: as, t :: ts, x :: xs => R a t x ∧ AKs R as ts xs
  | _, _, _ => False
theorem open_args : ∀ {aks : List AK} {ts : List Nat} {vs : List Value} {ds : List (DataW H)} {ps : List MemPlace} {b0 : Nat}, AllR (AK.row P) aks ts → (∀ (j : Nat) t v, ts[j]? = some t → vs[j]? = some v → Value.okWide P w .any b0 t v) →
    DataW.TrodAll enc P w base spare held ts vs ds ps → (∀ l, (DataW.weightsEach P (ts ++ l) ds).all (· ≤ reachBytes) = true → ∃ xs, AKs (AK.fits P) aks ts xs ∧ AllR (FVR w (fun b => b < w.heap.size) [] []) xs vs)
  | [], [], [], [], ps, b0, _, _, _, l, _ => ⟨[], trivial, trivial⟩
  | a :: aks, t :: ts, v :: vs, d :: ds, ps, b0, hr, hv, h, l, hw => by
    obtain ⟨p, q, h1, h2, _⟩ := h
    simp only [List.cons_append, DataW.weightsEach, List.all_append, Bool.and_eq_true] at hw
    obtain ⟨x, hx, hxv⟩ := open_arg hr.1 (hv 0 t v rfl rfl) h1 hw.1
    obtain ⟨xs, hxs, hxvs⟩ := open_args hr.2 (fun j t v ht hv' => hv (j + 1) t v (by simpa using ht) (by simpa using hv')) h2 l hw.2
    exact ⟨x :: xs, ⟨hx, hxs⟩, hxv, hxvs⟩
  | [], [], _ :: _, _, _, _, _, _, h, _, _ => h.elim
  | [], [], [], _ :: _, _, _, _, _, h, _, _ => h.elim
  | _ :: _, _ :: _, [], _, _, _, _, _, h, _, _ => h.elim
  | _ :: _, _ :: _, _ :: _, [], _, _, _, _, h, _, _ => h.elim
  | _ :: _, [], _, _, _, _, h, _, _, _, _ => h.elim
  | [], _ :: _, _, _, _, _, h, _, _, _, _ => h.elim
theorem trodAll_below {W W' : World} (hl : laidOutB P = true) (hb : Below W.heap.size W W') : ∀ {ts : List Nat} {vs : List Value} {ds : List (DataW H)} {ps : List MemPlace}, (∀ t ∈ ts, P.readableRec t = true ∧ t < P.types.size) → (∀ x ∈ ps, x.block < W.heap.size) →
    DataW.TrodAll enc P W 0 (fun _ => true) true ts vs ds ps → DataW.TrodAll enc P W' 0 (fun b => decide (b < W.heap.size)) true ts vs ds ps
  | [], [], [], ps, _, _, h => h
  | t :: ts, v :: vs, d :: ds, ps, ht, hlt, h => by
    obtain ⟨p, q, h1, h2, rfl⟩ := h
    exact ⟨p, q, Below.trod hl (ht t (by simp)).1 (ht t (by simp)).2 h1 hb (fun x hx => hlt x (by simp [hx])), trodAll_below hl hb (fun t' h' => ht t' (by simp [h'])) (fun x hx => hlt x (by simp [hx])) h2, rfl⟩
  | [], [], _ :: _, _, _, _, h => h.elim
  | _ :: _, _ :: _, [], _, _, _, h => h.elim
  | _ :: _, [], ds, _, _, _, h => by cases ds <;> exact h.elim
  | [], _ :: _, ds, _, _, _, h => by cases ds <;> exact h.elim
end
end Go.Sm
namespace Go.Sm
open Go Go.RowKit Go.ChangeShapes Go.WideShapes Go.Deep
section
variable {H : Type} {enc : TypeId × Value → H} {P : Program}
theorem post_below {f : Func} {s : ChangeSpec} {apart fresh handsOn again : Bool} {W W' : World} {args : Array Value} {v : Value} {ds gs : List (DataW H)} {before pa pv : List MemPlace}
    (hW : DataW.Whole enc P f.params.toList s.vars apart W args.toList ds gs before)
    (hres : ∀ (b : Nat) (sp : Nat → Bool) (hd : Bool), DataW.TrodAll enc P W' b sp hd f.resultTypes.toList (v.resultList f.resultTypes.size) (s.fn H (ds ++ gs)).results [])
    (hargs : DataW.TrodAll enc P W' 0 (fun b => decide (b < W.heap.size)) true f.params.toList args.toList (s.fn H (ds ++ gs)).args pa)
    (hargs2 : DataW.TrodAll enc P W' 0 (fun _ => true) true f.params.toList args.toList (s.fn H (ds ++ gs)).args pa)
    (hvars : ∀ sp : Nat → Bool, DataW.TrodVars enc P W' sp s.vars (s.fn H (ds ++ gs)).vars pv)
    (hps : before = pa ++ pv) (hb : Below W.heap.size W W')
    (hok : ∀ (j : Nat) (t : TypeId) (r : Value), f.resultTypes[j]? = some t → (v.resultList f.resultTypes.size)[j]? = some r → Value.okWide P W' .any 0 t r) :
    s.post enc P f apart fresh handsOn again W args v W' := by
  refine ⟨ds, gs, before, [], pa, pv, hW, hres _ _ _, hargs, hvars _, World.keptBut_mono (fun p hp => ⟨hp, ?_⟩) (hb.frame (· ∈ before)), fun _ => ?_⟩
  · rw [hps, List.mem_append] at hp
    exact Or.inr hp
  · have hlt := hW.lt
    obtain ⟨_, _, _, _, _, hz, hn⟩ := hW
    refine ⟨hok, _, _, ([] ++ pa) ++ pv, ⟨[] ++ pa, pv, trodAll_append hargs2 (hres _ _ _), hvars _, rfl, ?_, ?_⟩, ?_⟩
    · intro b off hp
      have hp' : MemPlace.cell b off ∈ before := by rw [hps]; simpa using hp
      rw [World.frozen?_of_block (w := W) (hb.block b (hlt _ hp'))]
      exact hz b off hp'
    · intro ha
      have := hn ha
      rw [hps] at this
      simpa using this
    · intro p hp _
      rw [hps]
      simpa using hp
theorem trodAll_below2 {W W' : World} (hl : laidOutB P = true) (hb : Below W.heap.size W W') : ∀ {ts : List Nat} {vs : List Value} {ds : List (DataW H)} {ps : List MemPlace}, (∀ t ∈ ts, P.readableRec t = true ∧ t < P.types.size) → (∀ x ∈ ps, x.block < W.heap.size) →
    DataW.TrodAll enc P W 0 (fun _ => true) true ts vs ds ps → DataW.TrodAll enc P W' 0 (fun _ => true) true ts vs ds ps
  | [], [], [], ps, _, _, h => h
  | t :: ts, v :: vs, d :: ds, ps, ht, hlt, h => by
    obtain ⟨p, q, h1, h2, rfl⟩ := h
    exact ⟨p, q, WideElems.Trod_stays hl (ht t (by simp)).1 (ht t (by simp)).2 h1 (fun x hx => hb.same (hlt x (by simp [hx]))) (fun _ _ => rfl), trodAll_below2 hl hb (fun t' h' => ht t' (by simp [h'])) (fun x hx => hlt x (by simp [hx])) h2, rfl⟩
  | [], [], _ :: _, _, _, _, h => h.elim
  | _ :: _, _ :: _, [], _, _, _, h => h.elim
  | _ :: _, [], ds, _, _, _, h => by cases ds <;> exact h.elim
  | [], _ :: _, ds, _, _, _, h => by cases ds <;> exact h.elim
end
theorem law_lifted {H : Type} {enc : TypeId × Value → H} {C : Checked} {os : Os} {f : FuncId} {fn : Func} {s : ChangeSpec} {aks : List AK} {tb : TypeId} {apart fresh handsOn again : Bool}
    (own : ownKnob C.prog.godebug = none) (started : os.Started) (noInit : C.prog.inits.idxOf? f = none) (hfn : C.prog.funcs[f]? = some fn) (hl : laidOutB C.prog = true)
    (witness : ∃ (w : World) (tape : Tape) (i : Input), w.os = os ∧ (w.forCall tape i).Shaped C.prog ∧ i.vars = [] ∧ Input.okWide C.prog (w.forCall tape i) .any w.heap.size f i ∧
      s.pre6 enc C.prog fn [] apart (w.forCall tape i).memory i.args ∧ ({} : Assume).holds C.prog (lone (Frame.enter C.prog f i.args .normal) [] (w.forCall tape i)))
    (hts : ∀ t ∈ fn.params.toList, C.prog.readableRec t = true ∧ t < C.prog.types.size) (hret : fn.resultTypes = #[tb]) (htb : C.prog.underlying tb = some .bool)
    (hvars : s.vars = []) (hspec : ∀ ds : List (DataW H), ds.length = fn.params.size → s.fn H ds = { results := [.lit (.bool true)], args := ds })
    (hrow : AllR (AK.row C.prog) aks fn.params.toList) (core : ∀ xs, AKs (AK.fits C.prog) aks fn.params.toList xs → COK C.prog f xs [.el (.sc (.bo true))]) :
    ReturnsInHanded {} C os f .any (s.pre6 enc C.prog fn [] apart) (s.post enc C.prog fn apart fresh handsOn again) := by
  refine returnsInHanded_of_change_sized own started noInit hfn witness ?_
  intro W base args ds gs before hval hW _ hwt _
  have hlt := hW.lt
  have hW' := hW
  obtain ⟨p, q, hA, hV, rfl, hfz, hnd⟩ := hW
  rw [hvars] at hV
  have hgs : gs = [] ∧ q = [] := by
    cases gs with
    | nil => exact ⟨rfl, hV⟩
    | cons _ _ => exact hV.elim
  obtain ⟨rfl, rfl⟩ := hgs
  rw [List.append_nil] at hwt
  obtain ⟨xs, hx, hv⟩ := open_args hrow (fun j t v ht hv => hval j t v (by simpa using ht) (by simpa using hv)) hA _ hwt
  have hc := core xs hx W args.toList hv
  rw [Array.toArray_toList] at hc
  have hdl : ds.length = fn.params.size := by
    have key : ∀ {ts : List Nat} {vs : List Value} {ds : List (DataW H)} {ps : List MemPlace}, DataW.TrodAll enc C.prog W 0 (fun _ => true) true ts vs ds ps → ds.length = ts.length := by
      intro ts
      induction ts with
      | nil =>
        intro vs ds ps h
        cases vs with
        | nil => cases ds with
          | nil => rfl
          | cons _ _ => exact h.elim
        | cons _ _ => cases ds <;> exact h.elim
      | cons t ts ih =>
        intro vs ds ps h
        cases vs with
        | nil => cases ds <;> exact h.elim
        | cons v vs => cases ds with
          | nil => exact h.elim
          | cons d ds => obtain ⟨_, _, _, h2, _⟩ := h; simp [ih h2]
    simpa using key hA
  refine hc.mono fun e W' ⟨vs, he, hb, hrv⟩ => ?_
  have hvs : vs = [.bool true] := by
    have h := hrv.all
    match vs, h with
    | [v], h => rw [show v = .bool true from h.1]
  subst hvs
  have hlt' : ∀ x ∈ p, x.block < W.heap.size := fun x hx => hlt x (by simp [hx])
  refine ⟨.bool true, he, post_below (pa := p) (pv := []) hW' ?_ ?_ ?_ ?_ rfl hb ?_⟩
  · intro b sp hd
    rw [List.append_nil, hspec ds hdl, hret]
    exact ⟨[], [], ⟨1, by simp [DataW.trod, Value.cells, htb]⟩, rfl, rfl⟩
  · rw [List.append_nil, hspec ds hdl]
    exact trodAll_below hl hb hts hlt' hA
  · rw [List.append_nil, hspec ds hdl]
    exact trodAll_below2 hl hb hts hlt' hA
  · intro sp
    rw [List.append_nil, hspec ds hdl, hvars]
    exact rfl
  · exact ok_one hret rfl (by simp [Value.okWide, htb, Cell.okWide, Cell.ok])
end Go.Sm
namespace Go.Sm
open Go Go.RowKit
def look {α : Type} : List (Nat × α) → Nat → Option α
  | [], _ => none
  | x :: l, n => bif Nat.beq x.1 n then some x.2 else look l n
structure Tab where
  sls : List (Nat × Nat)
  eks : List (Nat × K)
  nks : List (Nat × NK)
def Tab.fo (b : Tab) (t f : Nat) : Option Nat :=
  match look b.eks t with
  | some k => bif k.agg && Nat.blt f k.sz then some f else none
  | none => none
abbrev SFn := Nat → List FV → (List RV → R) → R
abbrev MFn := Nat → Vec → List FV → (List RV → Vec → R) → R
def Tab.T (b : Tab) (S : SFn) (mutf : Nat → Bool) (M : MFn) : TT := ⟨look b.sls, look b.eks, b.fo, look b.nks, mutf, S, M⟩
def descB : NK → TypeDesc → Bool
  | .bool, .bool => true
  | .int k, .int k' => decide (k = k')
  | .float k, .float k' => decide (k = k')
  | .complex k, .complex k' => decide (k = k')
  | _, _ => false
def scB : SC → Value → Bool
  | .int k n, .int k' n' => decide (k = k') && decide (n = n')
  | .bo b, .bool b' => b == b'
  | .fl k c, .float k' b => decide (k = k') && Nat.beq b c && !isN k b
  | .cx k c d, .complex k' a b => decide (k = k') && (Nat.beq a c && !isN k a) && (Nat.beq b d && !isN k b)
  | _, _ => false
def scsB : List SC → List Value → Bool
  | [], [] => true
  | s :: ss, v :: vs => scB s v && scsB ss vs
  | _, _ => false
def elB : Elt → Value → Bool
  | .sc s, v => scB s v
  | .ag cs, .agg vs => scsB cs vs.toList
  | _, _ => false
def nilB : Option Value → Bool
  | some (.slice none 0 0) => true
  | _ => false
theorem nilB_ok {z : Option Value} (h : nilB z = true) : z = some (.slice none 0 0) := by
  unfold nilB at h
  split at h
  · rfl
  · cases h
def slB (P : Program) (t e : Nat) : Bool :=
  match P.underlying t, P.info? t with
  | some (.slice e'), some i => Nat.beq e e' && Nat.beq i.size 1 && nilB i.zero && Nat.ble i.bytes 64
  | _, _ => false
def fieldsB (P : Program) : Nat → List Field → List NK → Bool
  | _, [], [] => true
  | i, f :: fs, n :: ns => Nat.beq f.offset i && (match P.info? f.type, P.underlying f.type with
    | some j, some d => Nat.beq j.size 1 && descB n d
    | _, _ => false) && fieldsB P (i + 1) fs ns
  | _, _, _ => false
def ekB (P : Program) (t : Nat) (k : K) : Bool :=
  match P.info? t, P.underlying t with
  | some i, some d => Nat.beq i.size k.sz && (match i.zero with
    | some z => elB (k.f k.z) z
    | none => false) && Nat.ble i.bytes 64 && (aggD d == k.agg) && (match k.agg, d with
    | true, .struct fs => fieldsB P 0 fs.toList k.nks
    | true, _ => false
    | false, d => match k.nks with
      | [n] => descB n d
      | _ => decide (k = .c64) && descB (.complex .f32) d)
  | _, _ => false
def nkB (P : Program) (t : Nat) (n : NK) : Bool :=
  match P.underlying t with
  | some d => descB n d
  | none => false
def tabB (P : Program) (b : Tab) : Bool :=
  P.follows .mixedOrders && b.sls.all (fun x => slB P x.1 x.2) && b.eks.all (fun x => ekB P x.1 x.2) && b.nks.all (fun x => nkB P x.1 x.2)
theorem look_mem {α : Type} : ∀ {l : List (Nat × α)} {n : Nat} {a : α}, look l n = some a → (n, a) ∈ l
  | [], _, _, h => by cases h
  | (m, b) :: l, n, a, h => by
    unfold look at h
    cases hb : Nat.beq m n with
    | true =>
      rw [hb] at h
      cases h
      rw [Nat.eq_of_beq_eq_true hb]
      exact .head _
    | false =>
      rw [hb] at h
      exact .tail _ (look_mem h)
theorem descB_ok {n : NK} {d : TypeDesc} (h : descB n d = true) : d = n.desc := by
  unfold descB at h
  split at h
  · rfl
  · rw [of_decide_eq_true h]; rfl
  · rw [of_decide_eq_true h]; rfl
  · rw [of_decide_eq_true h]; rfl
  · cases h
theorem scB_ok {s : SC} {v : Value} (h : scB s v = true) : SCR s v := by
  unfold scB at h
  split at h
  · rw [Bool.and_eq_true] at h
    rw [of_decide_eq_true h.1, of_decide_eq_true h.2]
    exact rfl
  · rw [eq_of_beq h]; exact rfl
  · rw [Bool.and_eq_true, Bool.and_eq_true] at h
    rename_i k c k' b
    have h1 := of_decide_eq_true h.1.1
    have h2 := Nat.eq_of_beq_eq_true h.1.2
    subst h1 h2
    exact ⟨b, rfl, cn_num (by simpa using h.2)⟩
  · rw [Bool.and_eq_true, Bool.and_eq_true, Bool.and_eq_true, Bool.and_eq_true] at h
    rename_i k c d k' a b
    have h1 := of_decide_eq_true h.1.1
    have h2 := Nat.eq_of_beq_eq_true h.1.2.1
    have h3 := Nat.eq_of_beq_eq_true h.2.1
    subst h1 h2 h3
    exact ⟨a, b, rfl, cn_num (by simpa using h.1.2.2), cn_num (by simpa using h.2.2)⟩
  · cases h
theorem scsB_ok : ∀ {ss : List SC} {vs : List Value}, scsB ss vs = true → AllR SCR ss vs
  | [], [], _ => trivial
  | s :: ss, v :: vs, h => by
    unfold scsB at h
    rw [Bool.and_eq_true] at h
    exact ⟨scB_ok h.1, scsB_ok h.2⟩
  | [], _ :: _, h => by cases h
  | _ :: _, [], h => by cases h
theorem elB_ok {e : Elt} {v : Value} (h : elB e v = true) : ElR e v := by
  unfold elB at h
  split at h
  · exact scB_ok h
  · exact ⟨_, by simp, scsB_ok h⟩
  · cases h
theorem aggD_desc (n : NK) : aggD n.desc = false := by cases n <;> rfl
section
variable {P : Program}
theorem fieldsB_ok : ∀ {i : Nat} {fs : List Field} {ns : List NK}, fieldsB P i fs ns = true → fs.length = ns.length ∧ ∀ (j : Nat) (f : Field), fs[j]? = some f →
    f.offset = i + j ∧ ∃ q n, P.info? f.type = some q ∧ q.size = 1 ∧ ns[j]? = some n ∧ P.underlying f.type = some n.desc
  | i, [], [], _ => ⟨rfl, fun j f h => by simp at h⟩
  | i, f :: fs, n :: ns, h => by
    unfold fieldsB at h
    rw [Bool.and_eq_true, Bool.and_eq_true] at h
    obtain ⟨⟨h1, h2⟩, h3⟩ := h
    obtain ⟨h4, h5⟩ := fieldsB_ok h3
    refine ⟨by simp [h4], fun j g hj => ?_⟩
    cases j with
    | zero =>
      simp at hj
      subst hj
      split at h2
      · rename_i q d hq hd
        rw [Bool.and_eq_true] at h2
        exact ⟨Nat.eq_of_beq_eq_true h1, q, n, hq, Nat.eq_of_beq_eq_true h2.1, rfl, by rw [hd, descB_ok h2.2]⟩
      · cases h2
    | succ j =>
      obtain ⟨h6, h7⟩ := h5 j g (by simpa using hj)
      exact ⟨by omega, by simpa using h7⟩
  | _, [], _ :: _, h => by cases h
  | _, _ :: _, [], h => by cases h
structure TStat (P : Program) (T : TT) : Prop where
  mo : P.follows .mixedOrders = true
  sl : ∀ t e, T.sl t = some e → P.underlying t = some (.slice e)
  s1 : ∀ t e, T.sl t = some e → ∃ i, P.info? t = some i ∧ i.size = 1 ∧ i.zero = some (.slice none 0 0) ∧ i.bytes ≤ 64
  ek : ∀ t k, T.ek t = some k → ∃ i z d, P.info? t = some i ∧ i.size = k.sz ∧ i.zero = some z ∧ ElR (k.f k.z) z ∧ i.bytes ≤ 64 ∧ P.underlying t = some d ∧
    aggD d = k.agg
  fo : ∀ t f o, T.fo t f = some o → ∃ fs fd i d, P.underlying t = some (.struct fs) ∧ fs[f]? = some fd ∧ fd.offset = o ∧ P.info? fd.type = some i ∧ i.size = 1 ∧
    P.underlying fd.type = some d ∧ aggD d = false
  bd : ∀ t k, T.ek t = some k → k.agg = true → ∃ (fs : Array Field) (places : Array (Nat × Nat)), P.underlying t = some (.struct fs) ∧
    (∀ w : World, (fs.mapM fun f => (do pure (f.offset, ← sizeOf f.type) : Sem (Nat × Nat))).run P w = .ok places w) ∧ ∀ f o, T.fo t f = some o → places[f]? = some (o, 1) ∧ o < k.sz
  nk : ∀ t n, T.nk t = some n → P.underlying t = some n.desc
theorem TStat.tok {T : TT} (h : TStat P T) (hS : ∀ f args k out, T.S f args k = some out → ∃ rs, CallOK P f args rs ∧ k rs = some out)
    (hM : ∀ f vec args k out, T.M f vec args k = some out → ∃ rs vec', Real P f ∧ CMOK P f vec args rs vec' ∧ k rs vec' = some out) : TOK P T :=
  ⟨h.mo, h.sl, h.s1, h.ek, h.fo, h.bd, h.nk, hS, hM⟩
theorem ekB_spec {t : Nat} {k : K} (h : ekB P t k = true) : (∃ i z d, P.info? t = some i ∧ i.size = k.sz ∧ i.zero = some z ∧ ElR (k.f k.z) z ∧ i.bytes ≤ 64 ∧ P.underlying t = some d ∧ aggD d = k.agg) ∧
    (k.agg = true → ∃ fs : Array Field, P.underlying t = some (.struct fs) ∧ fieldsB P 0 fs.toList k.nks = true) ∧ (k.agg = false → k ≠ .c64 → ∃ n, k.nks = [n] ∧ P.underlying t = some n.desc) := by
  unfold ekB at h
  split at h
  · rename_i i d hi hd
    rw [Bool.and_eq_true, Bool.and_eq_true, Bool.and_eq_true, Bool.and_eq_true] at h
    obtain ⟨⟨⟨⟨h1, h2⟩, h3⟩, h4⟩, h5⟩ := h
    split at h2
    · rename_i z hz
      refine ⟨⟨i, z, d, hi, Nat.eq_of_beq_eq_true h1, hz, elB_ok h2, Nat.le_of_ble_eq_true h3, hd, eq_of_beq h4⟩, fun ha => ?_, fun ha hc => ?_⟩
      · rw [ha] at h5
        split at h5
        · rename_i fs _; exact ⟨fs, hd, h5⟩
        · cases h5
        · exact absurd ‹true = false› (by decide)
      · rw [ha] at h5
        split at h5
        · exact absurd ‹false = true› (by decide)
        · exact absurd ‹false = true› (by decide)
        · split at h5
          · rename_i n hn; exact ⟨n, hn, by rw [hd, descB_ok h5]⟩
          · rw [Bool.and_eq_true] at h5
            exact absurd (of_decide_eq_true h5.1) hc
    · cases h2
  · cases h
theorem mapM_runs {α β : Type} {w : World} (g : α → Sem β) (h : α → β) : ∀ (l : List α), (∀ a ∈ l, (g a).run P w = .ok (h a) w) → (l.mapM g).run P w = .ok (l.map h) w
  | [], _ => by simp
  | a :: l, hall => by
    rw [List.mapM_cons, Sem.run_bind, hall a (by simp), Result.andThen_ok, Sem.run_bind, mapM_runs g h l (fun b hb => hall b (by simp [hb]))]
    rfl
theorem nks_len {k : K} (h : k.agg = true) : k.nks.length = k.sz := by cases k <;> first | rfl | cases h
theorem tab_ok {b : Tab} {S : SFn} {mutf : Nat → Bool} {M : MFn} (h : tabB P b = true) : TStat P (b.T S mutf M) := by
  unfold tabB at h
  rw [Bool.and_eq_true, Bool.and_eq_true, Bool.and_eq_true, List.all_eq_true, List.all_eq_true, List.all_eq_true] at h
  obtain ⟨⟨⟨h1, h2⟩, h3⟩, h4⟩ := h
  have hek : ∀ t k, look b.eks t = some k → ekB P t k = true := fun t k hk => h3 _ (look_mem hk)
  refine ⟨h1, fun t e he => ?_, fun t e he => ?_, fun t k hk => (ekB_spec (hek t k hk)).1, fun t f o ho => ?_, fun t k hk ha => ?_, fun t n hn => ?_⟩
  · have := h2 _ (look_mem (show look b.sls t = some e from he))
    unfold slB at this
    dsimp only at this
    split at this
    · rename_i e' i he' hi'
      simp only [Bool.and_eq_true] at this
      rw [he', Nat.eq_of_beq_eq_true this.1.1.1]
    · cases this
  · have := h2 _ (look_mem (show look b.sls t = some e from he))
    unfold slB at this
    dsimp only at this
    split at this
    · rename_i e' i he' hi'
      simp only [Bool.and_eq_true] at this
      exact ⟨i, hi', Nat.eq_of_beq_eq_true this.1.1.2, nilB_ok this.1.2, Nat.le_of_ble_eq_true this.2⟩
    · cases this
  · have ho' : b.fo t f = some o := ho
    unfold Tab.fo at ho'
    split at ho'
    · rename_i k hk
      cases hc : k.agg && Nat.blt f k.sz with
      | false => rw [hc] at ho'; cases ho'
      | true =>
        rw [hc] at ho'
        cases ho'
        rw [Bool.and_eq_true] at hc
        obtain ⟨fs, hu, hf⟩ := (ekB_spec (hek t k hk)).2.1 hc.1
        obtain ⟨hl, hall⟩ := fieldsB_ok hf
        have hfl : f < fs.toList.length := by rw [hl, nks_len hc.1]; exact Nat.le_of_ble_eq_true hc.2
        obtain ⟨hoff, q, n, hq, hsz, _, hun⟩ := hall f _ (List.getElem?_eq_getElem hfl)
        exact ⟨fs, fs.toList[f], q, n.desc, hu, by simp, by omega, hq, hsz, hun, aggD_desc n⟩
    · cases ho'
  · have hk' : look b.eks t = some k := hk
    obtain ⟨fs, hu, hf⟩ := (ekB_spec (hek t k hk')).2.1 ha
    obtain ⟨hl, hall⟩ := fieldsB_ok hf
    refine ⟨fs, (fs.toList.map fun f => (f.offset, 1)).toArray, hu, fun w => ?_, fun f o ho => ?_⟩
    · rw [Array.mapM_eq_mapM_toList]
      have := mapM_runs (P := P) (w := w) (fun f => (do pure (f.offset, ← sizeOf f.type) : Sem (Nat × Nat))) (fun f => (f.offset, 1)) fs.toList (fun f hf => by
        obtain ⟨j, hj⟩ := List.getElem?_of_mem hf
        obtain ⟨_, q, n, h1, h2, _⟩ := hall j f hj
        simp [sizeOf, typeInfo, h1, h2])
      rw [map_eq_pure_bind, Sem.run_bind, this]
      rfl
    · have ho' : b.fo t f = some o := ho
      unfold Tab.fo at ho'
      rw [hk'] at ho'
      dsimp only at ho'
      cases hc : k.agg && Nat.blt f k.sz with
      | false => rw [hc] at ho'; cases ho'
      | true =>
        rw [hc] at ho'
        cases ho'
        rw [Bool.and_eq_true] at hc
        have hlt : f < k.sz := Nat.le_of_ble_eq_true hc.2
        have hfl : f < fs.toList.length := by rw [hl, nks_len ha]; exact hlt
        obtain ⟨hoff, _⟩ := hall f _ (List.getElem?_eq_getElem hfl)
        refine ⟨?_, hlt⟩
        have hfs : f < fs.size := by simpa using hfl
        simp [hfs]
        simpa using hoff
  · have := h4 _ (look_mem (show look b.nks t = some n from hn))
    unfold nkB at this
    dsimp only at this
    split at this
    · rename_i d hd
      rw [hd, descB_ok this]
    · cases this
theorem krow {t : Nat} {k : K} (hk : k ≠ .c64) (h : ekB P t k = true) : KRow P t k := by
  obtain ⟨⟨i, z, d, hi, hsz, _⟩, h2, h3⟩ := ekB_spec h
  refine ⟨by simp [Program.cellsOf, hi, hsz], ?_⟩
  cases ha : k.agg with
  | true =>
    obtain ⟨fs, hu, hf⟩ := h2 ha
    obtain ⟨hl, hall⟩ := fieldsB_ok hf
    refine ⟨fs, hu, by rw [← nks_len ha, ← hl]; simp, nks_len ha, fun j n hn => ?_⟩
    have hj : j < fs.toList.length := by
      rw [hl]
      rcases Nat.lt_or_ge j k.nks.length with h' | h'
      · exact h'
      · rw [List.getElem?_eq_none h'] at hn; cases hn
    obtain ⟨hoff, q, n', hq, hs, hn', hu'⟩ := hall j _ (List.getElem?_eq_getElem hj)
    rw [hn] at hn'
    cases hn'
    exact ⟨fs.toList[j], by simp, by omega, by rw [Program.cellsOf, hq]; simpa using hs, hu'⟩
  | false =>
    obtain ⟨n, hn, hu⟩ := h3 ha hk
    exact ⟨n, hn, hu⟩
def AK.rowB (P : Program) : AK → Nat → Bool
  | .sc n, t => nkB P t n && (match n with
    | .complex _ => false
    | _ => true)
  | .ag k, t => !decide (k = .c64) && k.agg && ekB P t k
  | .sl k, t => !decide (k = .c64) && (match P.underlying t with
    | some (.slice e) => ekB P e k
    | _ => false)
  | .sll k, t => !decide (k = .c64) && (match P.underlying t with
    | some (.slice e) => Nat.beq (P.cellsOf e) 1 && (match P.underlying e with
      | some (.slice e2) => ekB P e2 k
      | _ => false)
    | _ => false)
def rowsB (P : Program) : List AK → List Nat → Bool
  | [], [] => true
  | a :: as, t :: ts => a.rowB P t && rowsB P as ts
  | _, _ => false
theorem rowB_ok {a : AK} {t : Nat} (h : a.rowB P t = true) : a.row P t := by
  cases a with
  | sc n =>
    simp only [AK.rowB, Bool.and_eq_true] at h
    refine ⟨?_, fun q e => ?_⟩
    · have := h.1
      unfold nkB at this
      split at this
      · rename_i d hd; rw [hd, descB_ok this]
      · cases this
    · subst e; cases h.2
  | ag k =>
    simp only [AK.rowB, Bool.and_eq_true] at h
    have hk : k ≠ .c64 := by simpa using h.1.1
    exact ⟨hk, h.1.2, krow hk h.2⟩
  | sl k =>
    simp only [AK.rowB, Bool.and_eq_true] at h
    have hk : k ≠ .c64 := by simpa using h.1
    have h2 := h.2
    split at h2
    · rename_i e he
      exact ⟨hk, e, he, krow hk h2⟩
    · cases h2
  | sll k =>
    simp only [AK.rowB, Bool.and_eq_true] at h
    have hk : k ≠ .c64 := by simpa using h.1
    have h2 := h.2
    split at h2
    · rename_i e he
      rw [Bool.and_eq_true] at h2
      have h3 := h2.2
      split at h3
      · rename_i e2 he2
        exact ⟨hk, e, e2, he, he2, Nat.eq_of_beq_eq_true h2.1, krow hk h3⟩
      · cases h3
    · cases h2
theorem rowsB_ok : ∀ {as : List AK} {ts : List Nat}, rowsB P as ts = true → AllR (AK.row P) as ts
  | [], [], _ => trivial
  | a :: as, t :: ts, h => by
    simp only [rowsB, Bool.and_eq_true] at h
    exact ⟨rowB_ok h.1, rowsB_ok h.2⟩
  | [], _ :: _, h => by cases h
  | _ :: _, [], h => by cases h
end
end Go.Sm
namespace Go.Sm
open Go Go.RowKit
def loopBodies : Code → List Code
  | .seq a b => loopBodies a ++ loopBodies b
  | .cond _ a b => loopBodies a ++ loopBodies b
  | .block _ a => loopBodies a
  | .loop a => a :: loopBodies a
  | _ => []
def bodyOf (fn : Func) : Code := fn.body.getD .skip
def loopAt (fn : Func) (i : Nat) : Code := (loopBodies (bodyOf fn)).getD i .skip
def runFn (T : TT) (A : Ann) (L : Loops) (fn : Func) (args : List FV) : R := runF T A L fn.ntmps (bodyOf fn) fn.results.toList args
def LOK (T : TT) (A : Ann) (L : Loops) (nt : Nat) (a : Code) : Prop :=
  ∀ ins outs, A.lp (firstRegion a) = some (ins, outs) → ∀ s k out, L (firstRegion a) s k = some out → ∃ n, iterK A ins outs (codeK T A L nt a) n s k = some out
section
variable {T : TT} {A : Ann} {L : Loops} {nt : Nat} {P : Program}
theorem loops_all : ∀ {c : Code}, (∀ b ∈ loopBodies c, LOK T A L nt b) → LoopsOk T A L nt c
  | .seq a b, h => ⟨loops_all fun x hx => h x (List.mem_append_left _ hx), loops_all fun x hx => h x (List.mem_append_right _ hx)⟩
  | .cond _ a b, h => ⟨loops_all fun x hx => h x (List.mem_append_left _ hx), loops_all fun x hx => h x (List.mem_append_right _ hx)⟩
  | .block _ a, h => loops_all (c := a) h
  | .loop a, h => ⟨h a (List.mem_cons_self), loops_all fun x hx => h x (List.mem_cons_of_mem _ hx)⟩
  | .skip, _ => trivial
  | .region .., _ => trivial
  | .ret, _ => trivial
  | .exit _, _ => trivial
  | .rangeFunc .., _ => trivial
  | .scope _, _ => trivial
  | .label _, _ => trivial
  | .goto _, _ => trivial
  | .refuse _, _ => trivial
def nLoops (fn : Func) : Nat := (loopBodies (bodyOf fn)).length
theorem loops0 {fn : Func} (h : nLoops fn = 0) : LoopsOk T A L nt (bodyOf fn) := loops_all fun b hb => by
  have : loopBodies (bodyOf fn) = [] := List.eq_nil_of_length_eq_zero h
  rw [this] at hb
  cases hb
theorem loops1 {fn : Func} (h : nLoops fn = 1) (h0 : LOK T A L nt (loopAt fn 0)) : LoopsOk T A L nt (bodyOf fn) := loops_all fun b hb => by
  unfold nLoops at h
  unfold loopAt at h0
  match hl : loopBodies (bodyOf fn), h with
  | [x], _ =>
    rw [hl] at hb h0
    rw [List.mem_singleton.1 hb]
    exact h0
theorem loops2 {fn : Func} (h : nLoops fn = 2) (h0 : LOK T A L nt (loopAt fn 0)) (h1 : LOK T A L nt (loopAt fn 1)) : LoopsOk T A L nt (bodyOf fn) := loops_all fun b hb => by
  unfold nLoops at h
  unfold loopAt at h0 h1
  match hl : loopBodies (bodyOf fn), h with
  | [x, y], _ =>
    rw [hl] at hb h0 h1
    simp only [List.mem_cons, List.not_mem_nil, or_false] at hb
    rcases hb with rfl | rfl
    · exact h0
    · exact h1
theorem fn_ok (hT : TOK P T) {f : Nat} {fn : Func} {args : List FV} {rs : List RV} {r : Option Row} (hf : P.funcs[f]? = some fn) (hb : fn.body.isSome = true) (hnt : Nat.ble args.length fn.ntmps = true) (hL : LoopsOk T A L fn.ntmps (bodyOf fn))
    (h : runFn T A L fn args = some ⟨rs, r⟩) : COK P f args rs := by
  have hb' : fn.body = some (bodyOf fn) := by
    unfold bodyOf
    cases hc : fn.body with
    | none => rw [hc] at hb; cases hb
    | some c => rfl
  exact runF_ok hT hf hb' rfl (Nat.le_of_ble_eq_true hnt) hL h
theorem COK.nil {f : Nat} {args : List FV} {rs : List RV} {e : Nat} {k : K} (h : COK P f args (.nil :: rs)) : COK P f args (.fresh e ⟨k, []⟩ :: rs) := by
  intro w cargs hargs
  refine (h w cargs hargs).mono fun en w' ⟨vs, h1, h2, h3⟩ => ⟨vs, h1, h2, ?_⟩
  obtain ⟨hall, hap⟩ := h3
  match vs, hall with
  | v :: vs, hall =>
    have hv : v = .slice none 0 0 := hall.1
    refine ⟨⟨⟨[], ⟨by simp, .inl ⟨hv, rfl⟩⟩, trivial, fun g hg => by rw [hv] at hg; cases hg⟩, hall.2⟩, fun i j r r' x x' g hne hi hj hf hf' hx hx' hg => ?_⟩
    cases i with
    | zero =>
      simp at hx
      subst hx
      rw [hv] at hg
      cases hg
    | succ i =>
      cases j with
      | zero =>
        simp at hx'
        subst hx'
        rw [hv]
        intro h
        cases h
      | succ j => exact hap (i + 1) (j + 1) r r' x x' g hne (by simpa using hi) (by simpa using hj) hf hf' hx hx' hg
theorem COK.empty {f e : Nat} {k : K} (h1 : COK P f [.nil] [.nil]) (h2 : COK P f [.ne k] [.fresh e ⟨k, []⟩]) : COK P f [.vw none ⟨k, []⟩] [.fresh e ⟨k, []⟩] := by
  intro w cargs hargs
  match cargs, hargs with
  | [v], hargs =>
    rcases hargs.1.1 with ⟨h, _⟩ | ⟨a, cap, h, _⟩
    · exact COK.nil h1 w [v] ⟨h, trivial⟩
    · exact h2 w [v] ⟨⟨a, cap, h⟩, trivial⟩
theorem real {f : Nat} {fn : Func} (hf : P.funcs[f]? = some fn) (h : (fn.body.isSome && !(fn.name == "runtime.NumGoroutine")) = true) : Real P f := by
  rw [Bool.and_eq_true] at h
  exact ⟨fn, hf, h.1, by simpa using h.2⟩
def ann (lp : List (Nat × List Nat × List Nat)) (rets : List Nat) (nf : Nat) : Ann := { lp := look lp, rets := rets, nf := nf }
def noL : Loops := fun _ _ _ => none
def noS : SFn := fun _ _ _ => none
def noM : MFn := fun _ _ _ _ => none
def none0 : Ann := { lp := fun _ => none, rets := [], nf := 0 }
end
def big : Nat := 1099511627776
def fin (c : Nat) : Bool := fcmp .eql .f32 (fop .sub .f32 c c) 0
def above (c : Nat) : Bool := fin c && fcmp .gtr .f32 c 0
def notFin (c : Nat) : Bool := !fin c
def notPos (c : Nat) : Bool := !fin c || fcmp .leq .f32 c 0
def within (n a b : Int) : Bool := decide (n ≥ a) && decide (n ≤ b)
def mag (c : Nat) : Nat := match fcmp .lss .f32 c 0 with
  | true => fneg .f32 c
  | false => c
def sameF (a b : Nat) : Bool := match fcmp .neq .f64 a a || fcmp .neq .f64 b b with
  | true => fcmp .neq .f64 a a && fcmp .neq .f64 b b
  | false => match fcmp .eql .f64 a 0 && fcmp .eql .f64 b 0 with
    | true => fcmp .gtr .f64 (fop .quo .f64 4607182418800017408 a) 0 == fcmp .gtr .f64 (fop .quo .f64 4607182418800017408 b) 0
    | false => fcmp .eql .f64 a b
def numOf (c : Nat) : Nat := match fin c with
  | true => c
  | false => 0
def okLine (l : LineV) : Bool := fin l.p && fin l.h && above l.w && within l.k 0 3
def unit (x : Nat) : Bool := fcmp .geq .f32 x 3212836864 && fcmp .leq .f32 x 1065353216
def orZero (b : Bool) (x : Nat) : Nat := match b with
  | true => x
  | false => 0
def eqLineF (a b : LineV) : Bool := sameF (wid a.p) (wid b.p) && (sameF (wid a.h) (wid b.h) && (sameF (wid a.w) (wid b.w) && a.k == b.k))
def all2 {α : Type} (p : α → α → Bool) : List α → List α → Bool
  | a :: as, b :: bs => p a b && all2 p as bs
  | _, _ => true
def sameW (a b : Nat) : Bool := sameF (wid a) (wid b)
def orNil {α : Type} (b : Bool) (xs : List α) : List α := match b with
  | true => xs
  | false => []
def ints (i : Int) : Nat → List Int
  | 0 => []
  | m + 1 => i :: ints (i + 1) m
def firstAt {α : Type} (p : α → Bool) (xs : List α) : Int := match xs.findIdx? p with
  | some i => (i : Int)
  | none => -1
end Go.Sm
namespace Go.Sm
open Go Go.RowKit
def noG : Nat → Option GF := fun _ => none
section
variable {P : Program} {T : TT} {A : Ann} {L : Loops} {G : Nat → Option GF} {nt : Nat}
theorem noG_ok : GOKs P noG := fun _ _ h => by cases h
theorem body_some {fn : Func} (hb : fn.body.isSome = true) : fn.body = some (bodyOf fn) := by
  unfold bodyOf
  cases hc : fn.body with
  | none => rw [hc] at hb; cases hb
  | some c => rfl
def idP (n : Nat) : List (Option Nat) := (List.range n).map fun i => some (i + 1)
def rowsX (es : List Nat) (X : List (List Nat)) : Hp := none :: List.zipWith (fun e x => some ⟨e, ⟨.f32, x⟩⟩) es X
def runFX (T : TT) (A : Ann) (L : Loops) (G : Nat → Option GF) (fuel : Nat) (fn : Func) (e : Nat) (es : List Nat) (X : List (List Nat)) : R :=
  codeU T A L G fn.ntmps fuel (bodyOf fn) ⟨[(0, .fv (.mv 0 e (idP X.length)))], rowsX es X⟩ (some 0) fun e s _ => finK T false fn.results.toList e s
theorem inn_es {w : World} {I : Nat → Prop} : ∀ {X : List (List Nat)} {us : List Value}, AllR (fun xs u => InnR w I .f32 xs u) X us →
    ∃ es : List Nat, es.length = X.length ∧ ∀ (i e : Nat) (x : List Nat) (u : Value), es[i]? = some e → X[i]? = some x → us[i]? = some u → ∃ vs, w.ownsRow 0 e 1 u x.length vs ∧ AllR SCR (Vec.cells ⟨.f32, x⟩) vs ∧ ∀ g, u.ownBlock = some g → I g
  | [], [], _ => ⟨[], rfl, fun i e x u h => by simp at h⟩
  | x :: X, u :: us, h => by
    obtain ⟨es, h1, h2⟩ := inn_es (X := X) (us := us) h.2
    obtain ⟨e, vs, h3, h4, h5⟩ := h.1
    refine ⟨e :: es, by simp [h1], fun i e' x' u' a b c => ?_⟩
    cases i with
    | zero =>
      simp at a b c
      subst a b c
      exact ⟨vs, h3, h4, h5⟩
    | succ i => exact h2 i e' x' u' (by simpa using a) (by simpa using b) (by simpa using c)
  | [], _ :: _, h => h.elim
  | _ :: _, [], h => h.elim
theorem rowsX_at {es : List Nat} {X : List (List Nat)} {r : Nat} {row : Row} (h : (rowsX es X)[r]? = some (some row)) : ∃ i e x, r = i + 1 ∧ es[i]? = some e ∧ X[i]? = some x ∧ row = ⟨e, ⟨.f32, x⟩⟩ := by
  unfold rowsX at h
  cases r with
  | zero => simp at h
  | succ i =>
    rw [List.getElem?_cons_succ, List.getElem?_zipWith] at h
    cases he : es[i]? with
    | none => rw [he] at h; simp at h
    | some e =>
      cases hx : X[i]? with
      | none => rw [he, hx] at h; simp at h
      | some x =>
        rw [he, hx] at h
        simp at h
        exact ⟨i, e, x, rfl, he, hx, h.symm⟩
theorem runFX_ok (hT : TOK P T) (hG : GOKs P G) {f fuel e : Nat} {fn : Func} {X : List (List Nat)} {rs : List RV} {r : Option Row} (hf : P.funcs[f]? = some fn) (hb : fn.body.isSome = true) (hnt : Nat.ble 1 fn.ntmps = true) (hX : Nat.ble 1 X.length = true)
    (hL : LoopsU T A L G fn.ntmps fuel (bodyOf fn)) (hnew : rs.all (fun x => match x with
      | .new2 _ _ => false
      | .newv _ _ => false
      | _ => true) = true) (h : ∀ es, es.length = X.length → runFX T A L G fuel fn e es X = some ⟨rs, r⟩) : CXOK P f e ⟨.f32, X⟩ rs := by
  intro w v I ⟨us, hown, hin, hdi, hd, hlt⟩
  obtain ⟨es, he1, he2⟩ := inn_es hin
  have hX1 : 1 ≤ X.length := Nat.le_of_ble_eq_true hX
  have hrun := h es he1
  unfold runFX at hrun
  have hul : us.length = X.length := by have := hown.1; simpa using this
  obtain ⟨g, hg⟩ : ∃ g, v.ownBlock = some g := by
    rcases hown.2 with ⟨_, h0⟩ | ⟨g, cap, cur, rfl, _⟩
    · dsimp only at h0; omega
    · exact ⟨g, rfl⟩
  refine calls_of_wp hf (body_some hb) ?_
  have hp : ∀ k, ((k < w.heap.size ∧ v.ownBlock ≠ some k ∧ ¬ I k) ∨ k = g) → k < w.heap.size := fun k hk => hk.elim (fun h => h.1) fun h => by rw [h]; exact hlt g (.inr hg)
  have hlook : ∀ {r : Nat} {row : Row}, rowAt (rowsX es X) r = some row → ∃ i e x u, r = i + 1 ∧ row = ⟨e, ⟨.f32, x⟩⟩ ∧ us[i]? = some u ∧ ∃ vs, w.ownsRow 0 e 1 u x.length vs ∧ AllR SCR (Vec.cells ⟨.f32, x⟩) vs ∧ ∀ g, u.ownBlock = some g → I g := by
    intro r row hr
    obtain ⟨i, e, x, h1, h2, h3, h4⟩ := rowsX_at (rowAt_no hr).2
    obtain ⟨u, hu⟩ : ∃ u, us[i]? = some u := ⟨us[i]'(by have := (List.getElem?_eq_some_iff.1 h3).1; omega), List.getElem?_eq_getElem _⟩
    exact ⟨i, e, x, u, h1, h4, hu, he2 i e x u h2 h3 hu⟩
  have hH : HR w (fun k => (k < w.heap.size ∧ v.ownBlock ≠ some k ∧ ¬ I k) ∨ k = g) (v :: us) (rowsX es X) := by
    refine ⟨by unfold rowsX; simp [hul, he1], fun r row hr => ?_, fun r r' row row' v1 v2 g' hne h1 h2 h3 h4 h5 => ?_, LLR.noRow fun r => ?_⟩
    · obtain ⟨i, e, x, u, rfl, rfl, hu, vs, a1, a2, a3⟩ := hlook hr
      exact ⟨u, by simpa using hu, vs, a1, a2, fun g' hg' hpr => hpr.elim (fun h => h.2.2 (a3 g' hg')) fun h => hd g hg (h ▸ a3 g' hg')⟩
    · obtain ⟨i, e, x, u, rfl, rfl, hu, _⟩ := hlook h1
      obtain ⟨i', e', x', u', rfl, rfl, hu', _⟩ := hlook h2
      rw [List.getElem?_cons_succ, hu] at h3
      rw [List.getElem?_cons_succ, hu'] at h4
      cases h3
      cases h4
      exact hdi i i' v1 v2 g' (fun e => hne (by rw [e])) hu hu' h5
    · cases hll : llAt (rowsX es X) r with
      | none => rfl
      | some row =>
        obtain ⟨a, b⟩ := llAt_is2 hll
        obtain ⟨_, _, _, _, _, _, h4⟩ := rowsX_at b
        rw [h4] at a
        cases a
  have hs : SR (fun k => (k < w.heap.size ∧ v.ownBlock ≠ some k ∧ ¬ I k) ∨ k = g) w [v] fn.ntmps ⟨[(0, .fv (.mv 0 e (idP X.length)))], rowsX es X⟩ { tmps := #[v] ++ Array.replicate (fn.ntmps - #[v].size) undef, defers := [] } w (v :: us) := by
    have hnt' := Nat.le_of_ble_eq_true hnt
    refine ⟨by simp; omega, rfl, fun t u hu => ?_, hH, Keep.refl _ _⟩
    rw [lk_cons] at hu
    split at hu
    · rename_i e0
      cases hu
      subst e0
      have : (({ tmps := #[v] ++ Array.replicate (fn.ntmps - #[v].size) undef, defers := [] } : Act).tmps.getD 0 undef) = v := by simp [Array.getD]
      rw [this]
      refine ⟨rfl, v, g, us, rfl, hg, .inr rfl, by unfold idP; simpa using hown, fun i j hij => ?_⟩
      unfold idP at hij
      rw [List.getElem?_map] at hij
      obtain ⟨i', hi', hj⟩ := Option.map_eq_some_iff.1 hij
      obtain ⟨hlt', hi'⟩ := List.getElem?_eq_some_iff.1 hi'
      simp at hlt' hi'
      cases hj
      subst hi'
      exact ⟨us[i]'(by omega), List.getElem?_eq_getElem _, by simp⟩
    · cases hu
  refine codeU_ok hT hG _ hL _ _ _ _ hrun _ _ w (v :: us) (Pr := fun k => k < w.heap.size ∧ v.ownBlock ≠ some k ∧ ¬ I k) (w0 := w) (cargs := [v]) ⟨_, w, fun _ h => .inl h, hp, Keep.refl _ _, hs, fun r hr => by cases hr; exact ⟨v, g, rfl, hg, .inr rfl, fun h => h.2.1 hg⟩⟩ fun e s' M' a' w' ρ' hk hs0' => ?_
  obtain ⟨Pr', w1, hsub, hp', hkp, hs', _⟩ := hs0'
  have hkeep : Keep (fun k => k < w.heap.size ∧ v.ownBlock ≠ some k ∧ ¬ I k) w w' := hkp.trans (hs'.keep.mono hsub)
  have main : resK T s' fn.results.toList (endK false s') = some ⟨rs, r⟩ → a'.defers = [] ∧ ∃ v', (results fn a'.tmps).run P w' = .ok v' w' ∧
      (∃ vs, Ending.returned v' = .returned (packV vs) ∧ Keep (fun k => k < w.heap.size ∧ v.ownBlock ≠ some k ∧ ¬ I k) w w' ∧ AllR (RVN (fun g => w.heap.size ≤ g ∨ v.ownBlock = some g ∨ I g) w' [v]) rs vs ∧
      ∀ (i j : Nat) (r r' : RV) (v v' : Value) (g : Nat), i ≠ j → rs[i]? = some r → rs[j]? = some r' → r.isFresh = true → r'.isFresh = true → vs[i]? = some v → vs[j]? = some v' → v.ownBlock = some g → v'.ownBlock ≠ some g) := by
    intro hk
    obtain ⟨vs, h1, h2⟩ := resK_ok hT _ _ hk
    obtain ⟨us2, h3, h4⟩ := h2 w1 w' _ [v] _ a' ρ' hp' hs'
    rcases endK_ok h1 with ⟨hap, hrv, _⟩ | ⟨_, he2⟩
    · -- what is handed back lies in what was not protected
      have hB := rvAllN_ok (N := fun g => w.heap.size ≤ g ∨ v.ownBlock = some g ∨ I g) hs'.heap (fun r u g _ _ h => by
        by_cases h5 : g < w.heap.size
        · by_cases h6 : v.ownBlock = some g
          · exact .inr (.inl h6)
          · by_cases h7 : I g
            · exact .inr (.inr h7)
            · exact absurd (hsub g ⟨h5, h6, h7⟩) h
        · exact .inl (Nat.not_lt.1 h5)) hrv h4
      exact ⟨hs'.defers, packV us2, results_run h3, us2, rfl, hkeep, hB.1, rvsN_apart hs'.heap hap hB.2⟩
    · exfalso
      unfold end2 at he2
      split at he2
      · split at he2
        · cases he2
          cases hnew
        · cases he2
      · cases he2
  cases e with
  | normal => exact main hk
  | ret => exact main hk
  | exit i => cases hk
theorem cx_cm {f e : Nat} {X : List (List Nat)} {rs : List RV} (h : CXOK P f e ⟨.f32, X⟩ rs) : CMOK P f ⟨.lf, X⟩ [] rs ⟨.al, [(e, 0)]⟩ := by
  refine ⟨fun h => ?_, fun z hz => ?_⟩
  · exact Bool.noConfusion (show true = false from h)
  · have hz2 : (⟨.f32, X⟩ : (k : K) × List (List k.ty)) = z := Option.some.inj hz
    subst hz2
    exact ⟨rfl, h⟩
end
end Go.Sm
namespace Go.Sm
open Go Go.RowKit
section
variable {P : Program} {T : TT}
structure OpIs (o : Oper) (op : Op) (d : Nat) : Prop where
  op : o.op = op
  dst : o.dst = some d
  guard : o.guard = none
theorem list_of {α : Type} {p : Nat → α → Prop} : ∀ {n : Nat}, (∀ i, i < n → ∃ u, p i u) → ∃ us : List α, us.length = n ∧ ∀ j u, us[j]? = some u → p j u
  | 0, _ => ⟨[], rfl, fun j u h => by simp at h⟩
  | n + 1, h => by
    obtain ⟨us, h1, h2⟩ := list_of (n := n) fun i hi => h i (by omega)
    obtain ⟨u, hu⟩ := h n (by omega)
    refine ⟨us ++ [u], by simp [h1], fun j v hv => ?_⟩
    rw [List.getElem?_append] at hv
    split at hv
    · exact h2 j v hv
    · rename_i hge
      have hj : j = n := by
        rcases Nat.lt_or_ge n j with hlt | hge'
        · rw [List.getElem?_eq_none (by simp; omega)] at hv; cases hv
        · omega
      subst hj
      rw [h1, Nat.sub_self] at hv
      simp at hv
      subst hv
      exact hu
def cloneC (i0 i1 i2 i3 : Nat) (a0 m0 c0 n0 b0 m1 p0 s0 : Oper) : Code :=
  .seq (.region i0 #[a0] false) (.seq (.seq (.region i1 #[m0, c0] false) (.cond (.tmp 4) (.seq (.region i2 #[n0] false) .ret) .skip)) (.seq (.region i3 #[b0, m1, p0, s0] false) .ret))
theorem yields_assign {o : Oper} {a : Act} {w : World} {x : Operand} {Φ : Value → World → Prop} (hop : o.op = .assign x) (h : Φ (a.eval x) w) : Yields P o a w Φ := by
  unfold Yields
  rw [exec_eq hop]
  exact h
theorem wpl_cons {o : Oper} {d : Nat} {op : Op} {l : List Oper} {ops : Array Oper} {Q : Exit → Act → World → Prop} {a : Act} {w : World} {Φ : Value → World → Prop} (ho : OpIs o op d) (hy : Yields P o a w Φ)
    (hk : ∀ v w', Φ v w' → wpList P ops Q l (a.put (some d) v) w') : wpList P ops Q (o :: l) a w := by
  unfold wpList
  rw [wanted_none ho.guard]
  simp only [if_true]
  refine .inl (hy.wp fun v w' h => ?_)
  rw [ho.dst]
  exact hk v w' h
theorem put_size {a : Act} {d : Nat} {v : Value} : (a.put (some d) v).tmps.size = a.tmps.size := by simp [Act.put]
theorem clone_vv (hT : TOK P T) {f : Nat} {fn : Func} {t e e2 ty i0 i1 i2 i3 : Nat} {a0 m0 c0 n0 b0 m1 p0 s0 : Oper} {kd : K} {xss : List (List kd.ty)} (hf : P.funcs[f]? = some fn)
    (hb : fn.body = some (cloneC i0 i1 i2 i3 a0 m0 c0 n0 b0 m1 p0 s0)) (hr : fn.results.toList = [.tmp 2]) (hn : fn.ntmps = 8) (hsl : T.sl t = some e) (hsl2 : T.sl e = some e2)
    (ha0 : OpIs a0 (.assign (.const (.slice none 0 0))) 2) (hm0 : OpIs m0 (.move (.tmp 0)) 3) (hc0 : OpIs c0 (.binOp .eql t (.tmp 3) (.const (.slice none 0 0)) ty) 4)
    (hn0 : OpIs n0 (.assign (.const (.slice none 0 0))) 2) (hb0 : OpIs b0 (.buildSlice t 0 #[]) 5) (hm1 : OpIs m1 (.move (.tmp 0)) 6)
    (hp0 : OpIs p0 (.call { callee := .builtin .append, args := #[.tmp 5, .tmp 6], argTypes := #[t, t] }) 7) (hs0 : OpIs s0 (.assign (.tmp 7)) 2)
    (hlen : xss.length ≤ 1099511627776) : COK P f [.vv none kd xss] [.newv e 0] := by
  intro w cargs hargs
  match cargs, hargs with
  | [v0], hargs =>
  have hv0 : VvR w (fun k => k < w.heap.size) v0 kd xss := hargs.1.1
  refine calls_of_wp hf hb ?_
  rw [hn]
  have hz : ({ tmps := [v0].toArray ++ Array.replicate (8 - [v0].toArray.size) undef, defers := [] } : Act).tmps.size = 8 := by simp
  have hd : ({ tmps := [v0].toArray ++ Array.replicate (8 - [v0].toArray.size) undef, defers := [] } : Act).defers = [] := rfl
  have h0 : ({ tmps := [v0].toArray ++ Array.replicate (8 - [v0].toArray.size) undef, defers := [] } : Act).eval (.tmp 0) = v0 := rfl
  generalize ({ tmps := [v0].toArray ++ Array.replicate (8 - [v0].toArray.size) undef, defers := [] } : Act) = A at *
  unfold cloneC
  refine wp_seq (wp_region_list ?_)
  refine wpl_cons ha0 (yields_assign (Φ := fun v w' => v = .slice none 0 0 ∧ w = w') ha0.op ⟨rfl, rfl⟩) ?_
  rintro _ _ ⟨rfl, rfl⟩
  refine wpList_nil ?_
  have hz1 : (A.put (some 2) (.slice none 0 0)).tmps.size = 8 := by rw [put_size]; exact hz
  have hd1 : (A.put (some 2) (.slice none 0 0)).defers = [] := hd
  have h1 : (A.put (some 2) (.slice none 0 0)).eval (.tmp 0) = v0 := by rw [eval_tmp_put (by omega)]; simpa using h0
  generalize A.put (some 2) (.slice none 0 0) = B at *
  show Code.wp P _ _ B w
  refine wp_seq (wp_seq (wp_region_list ?_))
  refine wpl_cons hm0 (yields_move (Φ := fun v w' => v = v0 ∧ w = w') hm0.op ⟨h1, rfl⟩) ?_
  rintro _ _ ⟨rfl, rfl⟩
  rename_i v0
  have hz2 : (B.put (some 3) v0).tmps.size = 8 := by rw [put_size]; exact hz1
  have hd2 : (B.put (some 3) v0).defers = [] := hd1
  have h2 : (B.put (some 3) v0).eval (.tmp 0) = v0 := by rw [eval_tmp_put (by omega)]; simpa using h1
  have h3 : (B.put (some 3) v0).eval (.tmp 3) = v0 := by rw [eval_tmp_put (by omega)]; rfl
  generalize B.put (some 3) v0 = C at *
  have hu := hT.sl t e hsl
  rcases hv0 with ⟨rfl, rfl⟩ | ⟨ad, cap, rfl, hcap, hpr, hin⟩
  · -- nil
    refine wpl_cons hc0 (yields_value (v := .bool true) (Φ := fun v w' => v = .bool true ∧ w = w') (by rw [exec_eq hc0.op]; rfl) ?_ ⟨rfl, rfl⟩) ?_
    · rw [h3, show C.eval (.const (.slice none 0 0)) = .slice none 0 0 from rfl, eqGuard_at_slice]
      simp only [Sem.run_bind, Sem.run_pure, Result.andThen_ok]
      rw [Go.Lib.run_eql_slice_nil w t e none _ _ 0 0 hu]
      rfl
    rintro _ _ ⟨rfl, rfl⟩
    refine wpList_nil ?_
    show Code.wp P _ _ (C.put (some 4) (.bool true)) w
    have hz3 : (C.put (some 4) (.bool true)).tmps.size = 8 := by rw [put_size]; exact hz2
    have hd3 : (C.put (some 4) (.bool true)).defers = [] := hd2
    have h4 : (C.put (some 4) (.bool true)).eval (.tmp 4) = .bool true := by rw [eval_tmp_put (by omega)]; rfl
    generalize C.put (some 4) (.bool true) = D at *
    refine wp_cond_true h4 (wp_seq (wp_region_list ?_))
    refine wpl_cons hn0 (yields_assign (Φ := fun v w' => v = .slice none 0 0 ∧ w = w') hn0.op ⟨rfl, rfl⟩) ?_
    rintro _ _ ⟨rfl, rfl⟩
    refine wpList_nil ?_
    refine wp_ret ?_
    refine ⟨hd3, packV [.slice none 0 0], results_run (us := [.slice none 0 0]) ?_, [.slice none 0 0], rfl, ⟨rfl, rfl, rfl, Nat.le_refl _, fun _ _ => rfl⟩, ⟨⟨⟨[], ⟨by simp, .inl ⟨rfl, rfl⟩⟩, fun g hg => (by cases hg), .inl ⟨rfl, rfl⟩⟩, trivial⟩, fun i j r r' v v' g hne hi hj hr => ?_⟩⟩
    · rw [hr]
      have : (D.put (some 2) (.slice none 0 0)).tmps.getD 2 undef = .slice none 0 0 := by
        have := eval_tmp_put (a := D) (d := 2) (t := 2) (v := .slice none 0 0) (by omega)
        rw [if_pos rfl] at this
        exact this
      simp only [List.mapM_cons, List.mapM_nil, resOne, this, Sem.run_bind, Sem.run_pure, Result.andThen_ok]
    · match i, hi with
      | 0, hi => simp at hi; subst hi; cases hr
      | i + 1, hi => simp at hi
  · -- a slice
    refine wpl_cons hc0 (yields_value (v := .bool false) (Φ := fun v w' => v = .bool false ∧ w = w') (by rw [exec_eq hc0.op]; rfl) ?_ ⟨rfl, rfl⟩) ?_
    · rw [h3, show C.eval (.const (.slice none 0 0)) = .slice none 0 0 from rfl, eqGuard_at_slice]
      simp only [Sem.run_bind, Sem.run_pure, Result.andThen_ok]
      rw [Go.Lib.run_eql_slice_nil w t e (some ad) _ _ 0 0 hu]
      rfl
    rintro _ _ ⟨rfl, rfl⟩
    refine wpList_nil ?_
    show Code.wp P _ _ (C.put (some 4) (.bool false)) w
    have hz3 : (C.put (some 4) (.bool false)).tmps.size = 8 := by rw [put_size]; exact hz2
    have hd3 : (C.put (some 4) (.bool false)).defers = [] := hd2
    have h4 : (C.put (some 4) (.bool false)).eval (.tmp 4) = .bool false := by rw [eval_tmp_put (by omega)]; rfl
    have h5 : (C.put (some 4) (.bool false)).eval (.tmp 0) = .slice (some ad) xss.length cap := by rw [eval_tmp_put (by omega)]; simpa using h2
    generalize C.put (some 4) (.bool false) = D at *
    refine wp_cond_false h4 (wp_skip ?_)
    show Code.wp P _ _ D w
    refine wp_seq (wp_region_list ?_)
    refine wpl_cons hb0 (yields_value (x := Instr.buildSlice t 0 ((#[] : Array (Nat × Operand)).map fun p => (p.1, D.eval p.2))) (Φ := fun v w' => v = .slice (some ⟨w.heap.size, 0, none⟩) 0 0 ∧ w.alloc (.cells #[] e) = w') (by rw [exec_eq hb0.op]; rfl) (by simpa using build0_run hT hsl hsl2) ⟨rfl, rfl⟩) ?_
    rintro _ _ ⟨rfl, rfl⟩
    have hz4 : (D.put (some 5) (.slice (some ⟨w.heap.size, 0, none⟩) 0 0)).tmps.size = 8 := by rw [put_size]; exact hz3
    have hd4 : (D.put (some 5) (.slice (some ⟨w.heap.size, 0, none⟩) 0 0)).defers = [] := hd3
    have h6 : (D.put (some 5) (.slice (some ⟨w.heap.size, 0, none⟩) 0 0)).eval (.tmp 5) = .slice (some ⟨w.heap.size, 0, none⟩) 0 0 := by rw [eval_tmp_put (by omega)]; rfl
    have h7 : (D.put (some 5) (.slice (some ⟨w.heap.size, 0, none⟩) 0 0)).eval (.tmp 0) = .slice (some ad) xss.length cap := by rw [eval_tmp_put (by omega)]; simpa using h5
    generalize D.put (some 5) (.slice (some ⟨w.heap.size, 0, none⟩) 0 0) = E at *
    refine wpl_cons hm1 (yields_move (Φ := fun v w' => v = .slice (some ad) xss.length cap ∧ w.alloc (.cells #[] e) = w') hm1.op ⟨h7, rfl⟩) ?_
    rintro _ _ ⟨rfl, rfl⟩
    have hz5 : (E.put (some 6) (.slice (some ad) xss.length cap)).tmps.size = 8 := by rw [put_size]; exact hz4
    have hd5 : (E.put (some 6) (.slice (some ad) xss.length cap)).defers = [] := hd4
    have h8 : (E.put (some 6) (.slice (some ad) xss.length cap)).eval (.tmp 5) = .slice (some ⟨w.heap.size, 0, none⟩) 0 0 := by rw [eval_tmp_put (by omega)]; simpa using h6
    have h9 : (E.put (some 6) (.slice (some ad) xss.length cap)).eval (.tmp 6) = .slice (some ad) xss.length cap := by rw [eval_tmp_put (by omega)]; rfl
    generalize E.put (some 6) (.slice (some ad) xss.length cap) = F at *
    obtain ⟨us, hul, hus⟩ := list_of (n := xss.length) (p := fun i u => w.cell? (ad.add i) = some u ∧ u.oneCell' = true ∧ ad.block < w.heap.size) (fun i hi => by
      obtain ⟨u, hu1, hu2⟩ := hin i xss[i] (List.getElem?_eq_getElem hi)
      refine ⟨u, hu1, ?_, ?_⟩
      · rcases hu2 with ⟨h, _⟩ | ⟨_, _, h, _⟩ <;> rw [h] <;> rfl
      · rcases hpr with h | h
        · rw [h] at hi; simp at hi
        · exact h)
    obtain ⟨ti, hi, hsz, hzr, hby⟩ := hT.s1 e e2 hsl2
    have hold : ∀ g, g < w.heap.size → (w.alloc (.cells #[] e)).heap[g]? = w.heap[g]? := fun g hg => heap_old w _ g hg
    have hown : (w.alloc (.cells #[] e)).ownsRow 0 e 1 (.slice (some ⟨w.heap.size, 0, none⟩) 0 0) 0 [] := ⟨by simp, .inr ⟨w.heap.size, 0, #[], rfl, Nat.zero_le _, heap_alloc_new w _, Nat.le_refl _, by unfold maxLen; omega, by simp, by simp⟩⟩
    have hbts : (0 + xss.length) * ti.bytes ≤ 140737488355328 := by
      calc (0 + xss.length) * ti.bytes ≤ 1099511627776 * 64 := Nat.mul_le_mul (by omega) hby
        _ ≤ 140737488355328 := by decide
    have hnews : ∀ (j : Nat) (u : Value), us[j]? = some u → (w.alloc (.cells #[] e)).cell? (ad.add j) = some u := fun j u hu => by
      obtain ⟨k1, _, k3⟩ := hus j u hu
      rw [World.cell?_of_block (w := w) (by rw [add_block]; exact hold _ k3)]
      exact k1
    obtain ⟨v7, w7, r1, r2, r3, r4⟩ := append_own (P := P) (w.alloc (.cells #[] e)) t p0.type e ti (.slice none 0 0) 1 hu hi hzr hsz rfl (by omega) (.slice (some ⟨w.heap.size, 0, none⟩) 0 0) 0 [] hown ad xss.length cap us (by omega) hnews (fun u hu => by
      obtain ⟨j, hj⟩ := List.getElem?_of_mem hu
      exact (hus j u hj).2.1) (by unfold maxLen; omega) hbts
    refine wpl_cons hp0 (yields_builtin hp0.op (v := v7) (w' := w7) (Φ := fun v w' => v = v7 ∧ w7 = w') (fun consts => by
      have : (#[.tmp 5, .tmp 6] : Array Operand).map F.eval = #[.slice (some ⟨w.heap.size, 0, none⟩) 0 0, .slice (some ad) xss.length cap] := by simp [h8, h9]
      rw [this]
      simp [builtin, r1]) ⟨rfl, rfl⟩) ?_
    rintro _ _ ⟨rfl, rfl⟩
    rename_i v7
    have hz6 : (F.put (some 7) v7).tmps.size = 8 := by rw [put_size]; exact hz5
    have hd6 : (F.put (some 7) v7).defers = [] := hd5
    have h10 : (F.put (some 7) v7).eval (.tmp 7) = v7 := by rw [eval_tmp_put (by omega)]; rfl
    generalize F.put (some 7) v7 = G at *
    refine wpl_cons hs0 (yields_assign (Φ := fun v w' => v = v7 ∧ w7 = w') hs0.op ⟨h10, rfl⟩) ?_
    rintro _ _ ⟨rfl, rfl⟩
    rename_i v7
    refine wpList_nil ?_
    refine wp_ret ?_
    have hs1 : w.heap.size < (w.alloc (.cells #[] e)).heap.size := (Array.getElem?_eq_some_iff.1 (heap_alloc_new w _)).1
    have hsame : Same w w7 := ⟨r3.os, r3.tape, r3.output, by have := r3.size; omega, fun g hg => by
      rw [r3.block g (by omega) (fun e => by simp [Value.ownBlock] at e; omega), hold g hg]⟩
    refine ⟨hd6, packV [v7], results_run (us := [v7]) ?_, [v7], rfl, hsame, ⟨⟨⟨us, ?_, fun g hg => ?_, .inr ⟨ad, xss.length, cap, rfl, hul, fun j u hu => (hus j u hu).1⟩⟩, trivial⟩, fun i j r r' v v' g hne hi hj hr => ?_⟩⟩
    · rw [hr]
      have : (G.put (some 2) v7).tmps.getD 2 undef = v7 := by
        have := eval_tmp_put (a := G) (d := 2) (t := 2) (v := v7) (by omega)
        rw [if_pos rfl] at this
        exact this
      simp only [List.mapM_cons, List.mapM_nil, resOne, this, Sem.run_bind, Sem.run_pure, Result.andThen_ok]
    · rw [hul]
      simpa using r2
    · rcases r4 g hg with h | h
      · simp [Value.ownBlock] at h; omega
      · omega
    · match i, hi with
      | 0, hi => simp at hi; subst hi; cases hr
      | i + 1, hi => simp at hi
end
end Go.Sm
namespace Go.Sm
open Go Go.RowKit
section
variable {P : Program} {T : TT} {Pr : Nat → Prop} {w0 w w' : World} {cargs : List Value} {nt : Nat}
def idQ (b n : Nat) : List (Option Nat) := (List.range n).map fun i => some (b + i)
def rowsE : List Nat → List (List Nat) → Hp
  | e :: es, x :: X => some ⟨e, ⟨.f32, x⟩⟩ :: rowsE es X
  | _, _ => []
def openS (s : St) (t q e : Nat) (es : List Nat) (X : List (List Nat)) : St := ⟨(t, .fv (.mv q e (idQ s.H.length X.length))) :: s.sl, s.H.set q none ++ rowsE es X⟩
theorem rowsE_len : ∀ {es : List Nat} {X : List (List Nat)}, es.length = X.length → (rowsE es X).length = X.length
  | [], [], _ => rfl
  | _ :: es, _ :: X, h => by
    unfold rowsE
    simp only [List.length_cons] at h ⊢
    rw [rowsE_len (by omega)]
  | [], _ :: _, h => by simp at h
  | _ :: _, [], h => by simp at h
theorem rowsE_at : ∀ {es : List Nat} {X : List (List Nat)} {i : Nat} {row : Option Row}, (rowsE es X)[i]? = some row → ∃ e x, es[i]? = some e ∧ X[i]? = some x ∧ row = some ⟨e, ⟨.f32, x⟩⟩
  | [], X, i, row, h => by unfold rowsE at h; simp at h
  | _ :: _, [], i, row, h => by unfold rowsE at h; simp at h
  | e :: es, x :: X, 0, row, h => by
    unfold rowsE at h
    simp at h
    exact ⟨e, x, rfl, rfl, h.symm⟩
  | e :: es, x :: X, i + 1, row, h => by
    unfold rowsE at h
    simp only [List.getElem?_cons_succ] at h ⊢
    exact rowsE_at h
theorem opened_ok {s : St} {t q e : Nat} {X : List (List Nat)} {a : Act} {ρ : List Value} (hs : SR Pr w0 cargs nt s a w ρ) (hp : ∀ k, Pr k → k < w0.heap.size) (ht : lk s.sl t = some (.fv (.own q))) (hq : llAt s.H q = some ⟨e, ⟨.lf, X⟩⟩) (hX : 1 ≤ X.length)
    (hno : ∀ r, r ≠ q → llAt s.H r = none) : ∃ es us, es.length = X.length ∧ SRu Pr w cargs nt (some q) (openS s t q e es X) a w (ρ ++ us) := by
  obtain ⟨I, hI⟩ := hs.heap.ll
  obtain ⟨v, us, a1, a2, a3, ad, _, a4, a5⟩ := hI q _ ⟨.f32, X⟩ hq rfl
  obtain ⟨es, he1, he2⟩ := inn_es a3
  have hul : us.length = X.length := by have := a2.1; simpa using this
  obtain ⟨g, hg⟩ : ∃ g, v.ownBlock = some g := by
    rcases a2.2 with ⟨_, h0⟩ | ⟨g, cap, cur, rfl, _⟩
    · dsimp only at h0; omega
    · exact ⟨g, rfl⟩
  have hlen := hs.heap.len
  have hAl : (s.H.set q none).length = s.H.length := List.length_set
  have hqlt : q < s.H.length := by
    have := (llAt_is2 hq).2
    exact (List.getElem?_eq_some_iff.1 this).1
  have hlt : ∀ k, Pr k ∨ k = g → k < w.heap.size := fun k hk => hk.elim (hs.lt hp k) fun h => by rw [h]; exact (a5 g (.inr hg)).1
  have hrow : ∀ {r : Nat} {row : Row}, rowAt (s.H.set q none ++ rowsE es X) r = some row → (r < s.H.length ∧ rowAt s.H r = some row) ∨
      ∃ i u x e', r = s.H.length + i ∧ us[i]? = some u ∧ row = ⟨e', ⟨.f32, x⟩⟩ ∧ ∃ vs, w.ownsRow 0 e' 1 u x.length vs ∧ AllR SCR (Vec.cells ⟨.f32, x⟩) vs ∧ ∀ g, u.ownBlock = some g → I q g := by
    intro r row hr
    obtain ⟨hk, hr2⟩ := rowAt_no hr
    rw [List.getElem?_append] at hr2
    split at hr2
    · rename_i hlt
      rw [hAl] at hlt
      have : rowAt (s.H.set q none) r = some row := rowAt_of hr2 hk
      rcases rowAt_set this with ⟨_, h⟩ | ⟨_, h⟩
      · exact .inl ⟨hlt, h⟩
      · cases h
    · rename_i hge
      rw [hAl] at hge hr2
      obtain ⟨e', x, h1, h2, h3⟩ := rowsE_at hr2
      have hi : r - s.H.length < us.length := by
        have := (List.getElem?_eq_some_iff.1 h2).1
        omega
      cases h3
      exact .inr ⟨r - s.H.length, us[r - s.H.length], x, e', by omega, List.getElem?_eq_getElem hi, rfl, he2 _ e' x _ h1 h2 (List.getElem?_eq_getElem hi)⟩
  have hold : ∀ {r : Nat} {u : Value}, r < s.H.length → (ρ ++ us)[r]? = some u → ρ[r]? = some u := fun {r u} hr h => by
    rwa [List.getElem?_append_left (by omega)] at h
  have hnew : ∀ {i : Nat} {u u' : Value}, us[i]? = some u → (ρ ++ us)[s.H.length + i]? = some u' → u' = u := fun {i u u'} h h' => by
    rw [List.getElem?_append_right (by omega), show s.H.length + i - ρ.length = i by omega, h] at h'
    exact (Option.some.inj h').symm
  have hH : HR w (fun k => Pr k ∨ k = g) (ρ ++ us) (s.H.set q none ++ rowsE es X) := by
    refine ⟨by rw [List.length_append, List.length_append, hAl, rowsE_len he1, hlen, hul], fun r row hr => ?_, fun r r' row row' v1 v2 g' hne h1 h2 h3 h4 h5 => ?_, LLR.noRow fun r => ?_⟩
    · rcases hrow hr with ⟨hlt, hr⟩ | ⟨i, u, x, e', rfl, hu, rfl, vs, c1, c2, c3⟩
      · obtain ⟨v', d1, vs, d2, d3, d4⟩ := hs.heap.row r row hr
        exact ⟨v', by rw [List.getElem?_append_left (by omega)]; exact d1, vs, d2, d3, fun g' hg' hpr => hpr.elim (d4 g' hg') fun h => (a5 g (.inr hg)).2.2.1 r row v' hr d1 (h ▸ hg')⟩
      · exact ⟨u, by rw [List.getElem?_append_right (by omega), show s.H.length + i - ρ.length = i by omega]; exact hu, vs, c1, c2, fun g' hg' hpr => hpr.elim (a5 g' (.inl (c3 g' hg'))).2.1 fun h => a4 g hg (h ▸ c3 g' hg')⟩
    · rcases hrow h1 with ⟨l1, r1⟩ | ⟨i, u, x, e', rfl, hu, _, _, _, _, c3⟩ <;> rcases hrow h2 with ⟨l2, r2⟩ | ⟨i', u', x', e'', rfl, hu', _, _, _, _, c3'⟩
      · exact hs.heap.apart r r' row row' v1 v2 g' hne r1 r2 (hold l1 h3) (hold l2 h4) h5
      · have := hnew hu' h4
        subst this
        intro h6
        exact (a5 g' (.inl (c3' g' h6))).2.2.1 r row v1 r1 (hold l1 h3) h5
      · have := hnew hu h3
        subst this
        exact (a5 g' (.inl (c3 g' h5))).2.2.1 r' row' v2 r2 (hold l2 h4)
      · have e1 := hnew hu h3
        have e2 := hnew hu' h4
        subst e1 e2
        exact ad i i' v1 v2 g' (fun e => hne (by rw [e])) hu hu' h5
    · cases hll : llAt (s.H.set q none ++ rowsE es X) r with
      | none => rfl
      | some row =>
        obtain ⟨hk, hr2⟩ := llAt_is2 hll
        rw [List.getElem?_append] at hr2
        split at hr2
        · have : llAt (s.H.set q none) r = some row := llAt_of hr2 hk
          rcases llAt_set this with ⟨h1, h2⟩ | ⟨_, h2⟩
          · rw [hno r (fun e => h1 e.symm)] at h2
            cases h2
          · cases h2
        · obtain ⟨e', x, _, _, h3⟩ := rowsE_at hr2
          cases h3
          cases hk
  refine ⟨es, us, he1, fun k => Pr k ∨ k = g, w, fun k hk => .inl hk, hlt, Keep.refl _ _, ⟨hs.size, hs.defers, fun u av hu => ?_, hH, Keep.refl _ _⟩, fun r hr => ?_⟩
  · unfold openS at hu
    rw [lk_cons] at hu
    split at hu
    · rename_i e0
      cases hu
      subst e0
      have hv : ρ[q]? = some (a.tmps.getD t undef) := hs.slots t _ ht
      rw [a1] at hv
      have hv := Option.some.inj hv
      have hq2 : (ρ ++ us)[q]? = some v := by rw [List.getElem?_append_left (by omega)]; exact a1
      refine ⟨by rw [← hv]; exact hq2, v, g, us, hq2, hg, .inr rfl, by unfold idQ; simpa using a2, fun i j hij => ?_⟩
      unfold idQ at hij
      rw [List.getElem?_map] at hij
      obtain ⟨i', hi', hj⟩ := Option.map_eq_some_iff.1 hij
      obtain ⟨hlt', hi'⟩ := List.getElem?_eq_some_iff.1 hi'
      simp at hlt' hi'
      cases hj
      subst hi'
      refine ⟨us[i]'(by omega), List.getElem?_eq_getElem _, ?_⟩
      rw [List.getElem?_append_right (by omega), show s.H.length + i - ρ.length = i by omega]
      exact List.getElem?_eq_getElem _
    · exact ((hs.slots u av hu).keep (fun _ _ => rfl) fun r u' h => by rw [List.getElem?_append_left (by have := (List.getElem?_eq_some_iff.1 h).1; omega)]; exact h).mono fun _ h => .inl h
  · cases hr
    exact ⟨v, g, by rw [List.getElem?_append_left (by omega)]; exact a1, hg, .inr rfl, (a5 g (.inr hg)).2.1⟩
def setNone (ms : List Nat) (H : Hp) : Hp := ms.foldl (fun H m => H.set m none) H
def closeH (H : Hp) (q e : Nat) (ms : List Nat) (X : List (List Nat)) : Hp := (setNone ms H).set q (some ⟨e, ⟨.lf, X⟩⟩)
def plA : AV → Bool
  | .un => true
  | .fv x => plF x
  | _ => false
def plainH : Hp → Bool
  | [] => true
  | none :: H => plainH H
  | some row :: H => (!row.v.k.is2 && !row.v.k.isAl) && plainH H
theorem plainH_at : ∀ {H : Hp} {r : Nat} {row : Row}, plainH H = true → H[r]? = some (some row) → row.v.k.is2 = false ∧ row.v.k.isAl = false
  | [], r, row, _, h => by simp at h
  | none :: H, 0, row, _, h => by simp at h
  | none :: H, r + 1, row, hp, h => plainH_at (H := H) hp (by simpa using h)
  | some row0 :: H, r, row, hp, h => by
    unfold plainH at hp
    simp only [Bool.and_eq_true, Bool.not_eq_true'] at hp
    cases r with
    | zero => simp at h; subst h; exact hp.1
    | succ r => exact plainH_at hp.2 (by simpa using h)
theorem setNone_len : ∀ (ms : List Nat) (H : Hp), (setNone ms H).length = H.length
  | [], _ => rfl
  | m :: ms, H => by
    show (setNone ms (H.set m none)).length = _
    rw [setNone_len ms, List.length_set]
theorem setNone_at : ∀ {ms : List Nat} {H : Hp} {r : Nat} {row : Row}, (setNone ms H)[r]? = some (some row) → r ∉ ms ∧ H[r]? = some (some row)
  | [], _, _, _, h => ⟨by simp, h⟩
  | m :: ms, H, r, row, h => by
    obtain ⟨h1, h2⟩ := setNone_at (ms := ms) (H := H.set m none) h
    rcases at_set h2 with ⟨h3, h4⟩ | ⟨_, h4⟩
    · exact ⟨by simp only [List.mem_cons, not_or]; exact ⟨fun e => h3 e.symm, h1⟩, h4⟩
    · cases h4
theorem allR_of {α β : Type} {R : α → β → Prop} : ∀ {xs : List α} {us : List β}, xs.length = us.length → (∀ (i : Nat) x u, xs[i]? = some x → us[i]? = some u → R x u) → AllR R xs us
  | [], [], _, _ => trivial
  | x :: xs, u :: us, hl, h => ⟨h 0 x u rfl rfl, allR_of (by simpa using hl) fun i x' u' a b => h (i + 1) x' u' (by simpa using a) (by simpa using b)⟩
  | [], _ :: _, hl, _ => by simp at hl
  | _ :: _, [], hl, _ => by simp at hl
theorem shut_ok {s' : St} {t q e : Nat} {ms : List Nat} {X : List (List Nat)} {sl : List (Nat × AV)} {a : Act} {ρ : List Value} (hs : SRu Pr w cargs nt (some q) s' a w' ρ) (ht : lk s'.sl t = some (.fv (.mv q e (ms.map some))))
    (hms : ∀ (j m : Nat) (x : List Nat), ms[j]? = some m → X[j]? = some x → ∃ e', rowAt s'.H m = some ⟨e', ⟨.f32, x⟩⟩) (hl : ms.length = X.length) (hnd : ∀ (i j m : Nat), ms[i]? = some m → ms[j]? = some m → i = j) (hH : plainH s'.H = true)
    (hsl : ∀ u av, lk sl u = some av → (u = t ∧ av = .fv (.own q)) ∨ (lk s'.sl u = some av ∧ (plA av = true ∨ ∃ i vec, av = .fv (.vw (some i) vec) ∧ ∀ v0, cargs[i]? = some v0 → VwR w' Pr v0 vec))) :
    SR Pr w cargs nt ⟨sl, closeH s'.H q e ms X⟩ a w' ρ := by
  obtain ⟨Pr', w1, h1, h2, h3, h4, h5⟩ := hs
  obtain ⟨v, g, b1, b2, b3, b4⟩ := h5 q rfl
  obtain ⟨hv0, v', g', us, c1, c2, c3, c4, c5⟩ := h4.slots t _ ht
  rw [b1] at c1
  have := Option.some.inj c1
  subst this
  rw [b2] at c2
  have := Option.some.inj c2
  subst this
  rw [b1] at hv0
  have hv0 := Option.some.inj hv0
  have hul : us.length = X.length := by have := c4.1; simp at this; omega
  have c4' : w'.ownsRow 0 e 1 v X.length us := by rw [← hl]; simpa using c4
  have hinn : ∀ {j : Nat} {u : Value}, us[j]? = some u → ∃ m x e', ms[j]? = some m ∧ X[j]? = some x ∧ ρ[m]? = some u ∧ rowAt s'.H m = some ⟨e', ⟨.f32, x⟩⟩ ∧ RowR w' Pr' u e' ⟨.f32, x⟩ := by
    intro j u hu
    have hj : j < X.length := by have := (List.getElem?_eq_some_iff.1 hu).1; omega
    have hm : ms[j]? = some (ms[j]'(by omega)) := List.getElem?_eq_getElem _
    have hx : X[j]? = some (X[j]'hj) := List.getElem?_eq_getElem _
    obtain ⟨e', he⟩ := hms j _ _ hm hx
    obtain ⟨u2, d1, d2⟩ := c5 j _ (by rw [List.getElem?_map, hm]; rfl)
    rw [hu] at d1
    have := Option.some.inj d1
    subst this
    obtain ⟨u3, d3, d4⟩ := h4.heap.row _ _ he
    rw [d2] at d3
    have := Option.some.inj d3
    subst this
    exact ⟨_, _, e', hm, hx, d2, he, d4⟩
  have hrow : ∀ {r : Nat} {row : Row}, rowAt (closeH s'.H q e ms X) r = some row → r ≠ q ∧ r ∉ ms ∧ rowAt s'.H r = some row := by
    intro r row hr
    rcases rowAt_set hr with ⟨h6, h7⟩ | ⟨h6, h7⟩
    · obtain ⟨hk, hr2⟩ := rowAt_no h7
      obtain ⟨h8, h9⟩ := setNone_at hr2
      exact ⟨fun e => h6 e.symm, h8, rowAt_of h9 hk⟩
    · cases h7
      cases (rowAt_no hr).1
  let I : Nat → Prop := fun g => ∃ (j : Nat) (u : Value), us[j]? = some u ∧ u.ownBlock = some g
  have hHR : HR w' Pr ρ (closeH s'.H q e ms X) := by
    refine ⟨by unfold closeH; rw [List.length_set, setNone_len]; exact h4.heap.len, fun r row hr => ?_, fun r r' row row' v1 v2 g' hne r1 r2 => h4.heap.apart r r' row row' v1 v2 g' hne (hrow r1).2.2 (hrow r2).2.2, fun _ => I, fun r row z hr hz => ?_⟩
    · obtain ⟨_, _, hr3⟩ := hrow hr
      obtain ⟨u, d1, vs, d2, d3, d4⟩ := h4.heap.row r row hr3
      exact ⟨u, d1, vs, d2, d3, fun g' hg' hpr => d4 g' hg' (h1 _ hpr)⟩
    · have hno : ∀ {r' : Nat} {row' : Row}, llAt (closeH s'.H q e ms X) r' = some row' → r' = q ∧ row' = ⟨e, ⟨.lf, X⟩⟩ := by
        intro r' row' hr'
        rcases llAt_set hr' with ⟨_, h7⟩ | ⟨h6, h7⟩
        · obtain ⟨hk, hr2⟩ := llAt_is2 h7
          rw [(plainH_at hH (setNone_at hr2).2).1] at hk
          cases hk
        · exact ⟨h6.symm, (Option.some.inj h7).symm⟩
      obtain ⟨rfl, rfl⟩ := hno hr
      have hz2 : (⟨.f32, X⟩ : (k : K) × List (List k.ty)) = z := Option.some.inj hz
      subst hz2
      refine ⟨v, us, b1, c4', allR_of hul.symm fun i x u hx hu => ?_, fun i j u u' g' hne hu hu' hg' => ?_, fun j i hj _ => ?_, fun g' hg' ⟨j, u, hu, hug⟩ => ?_, fun g' hg' => ?_⟩
      · obtain ⟨m, x', e', _, hx', _, _, vs, d2, d3, _⟩ := hinn hu
        rw [hx] at hx'
        have := Option.some.inj hx'
        subst this
        exact ⟨e', vs, d2, d3, fun g' hg' => ⟨i, u, hu, hg'⟩⟩
      · obtain ⟨m, x, e', hm, _, hρ, hr1, _⟩ := hinn hu
        obtain ⟨m', x', e'', hm', _, hρ', hr2, _⟩ := hinn hu'
        exact h4.heap.apart m m' _ _ u u' g' (fun e => hne (hnd i j m hm (e ▸ hm'))) hr1 hr2 hρ hρ' hg'
      · exfalso
        unfold alAt at hj
        split at hj
        · rename_i p hp
          rcases at_set hp with ⟨_, h7⟩ | ⟨_, h7⟩
          · have := (plainH_at hH (setNone_at h7).2).2
            cases this
          · cases h7
        · cases hj
      · rw [b2] at hg'
        have := Option.some.inj hg'
        subst this
        obtain ⟨_, _, _, _, _, _, _, vs, _, _, d4⟩ := hinn hu
        exact d4 _ hug b3
      · have hgq : ∀ {r' : Nat} {row' : Row} {v1 : Value}, rowAt (closeH s'.H r e ms X) r' = some row' → ρ[r']? = some v1 → v1.ownBlock ≠ some g' := by
          intro r' row' v1 hr' hv1 hown
          obtain ⟨_, hnm, hr3⟩ := hrow hr'
          rcases hg' with ⟨j, u, hu, hug⟩ | hg'
          · obtain ⟨m, x, e', hm, _, hρ, hr1, _⟩ := hinn hu
            exact h4.heap.apart m r' _ _ u v1 g' (fun e => hnm (by rw [← e]; exact List.mem_of_getElem? hm)) hr1 hr3 hρ hv1 hug hown
          · rw [b2] at hg'
            have := Option.some.inj hg'
            subst this
            obtain ⟨u, d1, vs, _, _, d4⟩ := h4.heap.row r' row' hr3
            rw [hv1] at d1
            have := Option.some.inj d1
            subst this
            exact d4 _ hown b3
        refine ⟨?_, ?_, fun r' row' v1 => hgq, fun r' row' v1 hne hr' => absurd (hno hr').1 hne⟩
        · rcases hg' with ⟨j, u, hu, hug⟩ | hg'
          · obtain ⟨_, _, _, _, _, _, _, vs, d2, _⟩ := hinn hu
            exact (d2.lt g' hug).2
          · exact (c4'.lt g' hg').2
        · rcases hg' with ⟨j, u, hu, hug⟩ | hg'
          · obtain ⟨_, _, _, _, _, _, _, vs, _, _, d4⟩ := hinn hu
            exact fun hpr => d4 g' hug (h1 _ hpr)
          · rw [b2] at hg'
            have := Option.some.inj hg'
            subst this
            exact b4
  refine ⟨h4.size, h4.defers, fun u av hu => ?_, hHR, h3.trans (h4.keep.mono h1)⟩
  rcases hsl u av hu with ⟨rfl, rfl⟩ | ⟨h6, h7 | ⟨i, vec, rfl, hvw⟩⟩
  · show ρ[q]? = some _
    rw [← hv0]
    exact b1
  · have h8 := h4.slots u av h6
    cases av with
    | un => exact h8
    | fv x => exact VFF.to (plF_vf h7) (VFF.of (plF_vf h7) h8) (plF_mat h7)
    | tup xs => cases h7
  · have h8 : VwR w' Pr' (a.tmps.getD u undef) vec ∧ ∀ i', (some i : Option Nat) = some i' → cargs[i']? = some (a.tmps.getD u undef) := h4.slots u _ h6
    exact ⟨hvw _ (h8.2 i rfl), h8.2⟩
theorem open_sem (hT : TOK P T) {x : Code} {A2 : Ann} {fuel xi t q q2 e : Nat} (hLU : LoopsU T A2 noL noG nt fuel (.loop x)) {s : St} {X X' : List (List Nat)} {ms : List Nat} {fin : List Nat → St} {sl : List (Nat × AV)} {H' : Hp} {k : Ex → St → R} {out : Out}
    (ht : lk s.sl t = some (.fv (.own q))) (hq : llAt s.H q = some ⟨e, ⟨.lf, X⟩⟩) (hX : 1 ≤ X.length) (hno : ∀ r, r ≠ q → llAt s.H r = none)
    (hrun : ∀ es, es.length = X.length → ∀ K : Ex → St → Option Nat → R, codeU T A2 noL noG nt fuel (.loop x) (openS s t q e es X) (some q) K = K (.exit xi) (fin es) (some q2))
    (hf1 : ∀ es, es.length = X.length → lk (fin es).sl t = some (.fv (.mv q2 e (ms.map some))))
    (hf2 : ∀ es, es.length = X.length → ∀ (j m : Nat) (x : List Nat), ms[j]? = some m → X'[j]? = some x → ∃ e', rowAt (fin es).H m = some ⟨e', ⟨.f32, x⟩⟩) (hl : ms.length = X'.length) (hnd : ∀ (i j m : Nat), ms[i]? = some m → ms[j]? = some m → i = j)
    (hf3 : ∀ es, es.length = X.length → plainH (fin es).H = true)
    (hf4 : ∀ es, es.length = X.length → ∀ u av, lk sl u = some av → (u = t ∧ av = .fv (.own q2)) ∨ (lk (fin es).sl u = some av ∧ (plA av = true ∨ ∃ i vec, av = .fv (.vw (some i) vec) ∧ ∃ u0, lk s.sl u0 = some (.fv (.vw (some i) vec)))))
    (hf5 : ∀ es, es.length = X.length → closeH (fin es).H q2 e ms X' = H') (hk : k (.exit xi) ⟨sl, H'⟩ = some out) : LoopSem P 0 nt x s k out := by
  intro Pr w0 cargs Q a w ρ hp hs hQ
  classical
  obtain ⟨es, us, he, ho⟩ := opened_ok hs hp ht hq hX hno
  have hK := hrun es he (fun en s' M' => if en = Ex.exit xi ∧ s' = fin es ∧ M' = some q2 then some ⟨[], none⟩ else none)
  rw [if_pos ⟨rfl, rfl, rfl⟩] at hK
  refine codeU_ok hT noG_ok (.loop x) hLU _ _ _ _ hK Q a w (ρ ++ us) ho fun en s' M' a' w' ρ' hk' hs' => ?_
  split at hk'
  · rename_i hc
    obtain ⟨rfl, rfl, rfl⟩ := hc
    obtain ⟨Pr', w1, h1, h2, h3, h4, h5⟩ := hs'
    have hkeep : Keep Pr w w' := h3.trans (h4.keep.mono h1)
    have hfin := shut_ok (sl := sl) ⟨Pr', w1, h1, h2, h3, h4, h5⟩ (hf1 es he) (hf2 es he) hl hnd (hf3 es he) fun u av hu => (hf4 es he u av hu).imp id fun ⟨h6, h7⟩ => ⟨h6, h7.imp id fun ⟨i, vec, h8, u0, h9⟩ => ⟨i, vec, h8, fun v0 hv0 => by
      have h10 : VwR w Pr (a.tmps.getD u0 undef) vec ∧ ∀ i', (some i : Option Nat) = some i' → cargs[i']? = some (a.tmps.getD u0 undef) := hs.slots u0 _ h9
      have h11 := h10.2 i rfl
      rw [hv0] at h11
      have := Option.some.inj h11
      subst this
      exact h10.1.keep hkeep.block⟩⟩
    rw [hf5 es he] at hfin
    refine hQ (.exit xi) _ a' w' ρ' hk ⟨Pr, w0, fun _ h => h, hp, Keep.refl _ _, ⟨hfin.size, hfin.defers, hfin.slots, hfin.heap, hs.keep.trans hkeep⟩⟩ fun r u hr => absurd hr (Nat.not_lt_zero _)
  · cases hk'
def LOK2 (P : Program) (T : TT) (A : Ann) (L : Loops) (nt : Nat) (a : Code) : Prop :=
  ∀ ins outs, A.lp (firstRegion a) = some (ins, outs) → ∀ s k out, L (firstRegion a) s k = some out → (∃ n, iterK A ins outs (codeK T A L nt a) n s k = some out) ∨ LoopSem P A.nf nt a s k out
section
variable {A : Ann} {L : Loops}
theorem LOK.two {a : Code} (h : LOK T A L nt a) : LOK2 P T A L nt a := fun ins outs hA s k out hk => .inl (h ins outs hA s k out hk)
theorem loops2_all : ∀ {c : Code}, (∀ b ∈ loopBodies c, LOK2 P T A L nt b) → LoopsOk2 P T A L nt c
  | .seq a b, h => ⟨loops2_all fun x hx => h x (List.mem_append_left _ hx), loops2_all fun x hx => h x (List.mem_append_right _ hx)⟩
  | .cond _ a b, h => ⟨loops2_all fun x hx => h x (List.mem_append_left _ hx), loops2_all fun x hx => h x (List.mem_append_right _ hx)⟩
  | .block _ a, h => loops2_all (c := a) h
  | .loop a, h => ⟨h a (List.mem_cons_self), loops2_all fun x hx => h x (List.mem_cons_of_mem _ hx)⟩
  | .skip, _ => trivial
  | .region .., _ => trivial
  | .ret, _ => trivial
  | .exit _, _ => trivial
  | .rangeFunc .., _ => trivial
  | .scope _, _ => trivial
  | .label _, _ => trivial
  | .goto _, _ => trivial
  | .refuse _, _ => trivial
theorem loopsB {fn : Func} {n : Nat} (h : nLoops fn = n) (hl : ∀ i, i < n → LOK2 P T A L nt (loopAt fn i)) : LoopsOk2 P T A L nt (bodyOf fn) := loops2_all fun b hb => by
  obtain ⟨i, hi⟩ := List.getElem?_of_mem hb
  have hlt : i < (loopBodies (bodyOf fn)).length := by
    rcases Nat.lt_or_ge i (loopBodies (bodyOf fn)).length with h' | h'
    · exact h'
    · rw [List.getElem?_eq_none h'] at hi; cases hi
  have := hl i (by unfold nLoops at h; omega)
  unfold loopAt at this
  rw [List.getD_eq_getElem?_getD, hi] at this
  exact this
theorem loopsB4 {fn : Func} (h : nLoops fn = 4) (h0 : LOK2 P T A L nt (loopAt fn 0)) (h1 : LOK2 P T A L nt (loopAt fn 1)) (h2 : LOK2 P T A L nt (loopAt fn 2)) (h3 : LOK2 P T A L nt (loopAt fn 3)) : LoopsOk2 P T A L nt (bodyOf fn) := loopsB h fun i hi => by
  match i, hi with
  | 0, _ => exact h0
  | 1, _ => exact h1
  | 2, _ => exact h2
  | 3, _ => exact h3
theorem loopsB5 {fn : Func} (h : nLoops fn = 5) (h0 : LOK2 P T A L nt (loopAt fn 0)) (h1 : LOK2 P T A L nt (loopAt fn 1)) (h2 : LOK2 P T A L nt (loopAt fn 2)) (h3 : LOK2 P T A L nt (loopAt fn 3)) (h4 : LOK2 P T A L nt (loopAt fn 4)) : LoopsOk2 P T A L nt (bodyOf fn) := loopsB h fun i hi => by
  match i, hi with
  | 0, _ => exact h0
  | 1, _ => exact h1
  | 2, _ => exact h2
  | 3, _ => exact h3
  | 4, _ => exact h4
theorem fn_ok2 (hT : TOK P T) {f : Nat} {fn : Func} {args : List FV} {rs : List RV} {r : Option Row} (hf : P.funcs[f]? = some fn) (hb : fn.body.isSome = true) (hnt : Nat.ble args.length fn.ntmps = true) (hL : LoopsOk2 P T A L fn.ntmps (bodyOf fn))
    (h : runFn T A L fn args = some ⟨rs, r⟩) : COK P f args rs := by
  have hb' : fn.body = some (bodyOf fn) := by
    unfold bodyOf
    cases hc : fn.body with
    | none => rw [hc] at hb; cases hb
    | some c => rfl
  exact runF_ok2 hT hf hb' rfl (Nat.le_of_ble_eq_true hnt) hL h
end
end
end Go.Sm
namespace Go.Sm
open Go Go.RowKit
def fround (way : Ieee.Toward) (c : Nat) : Nat := bif isN .f64 c then nanOf .f64 else FloatKind.f64.encode ((FloatKind.f64.decode c).integral way)
section
variable {P : Program} {f : Nat} {fn : Func}
theorem one_arg {w : World} {Pr : Nat → Prop} {x : FV} {cargs : List Value} (h : AllR (FVR w Pr [] []) [x] cargs) : ∃ v, cargs = [v] ∧ FVR w Pr [] [] x v := by
  match cargs, h with
  | [v], h => exact ⟨v, rfl, h.1⟩
theorem x_f64from (h1 : P.funcs[f]? = some fn) (h2 : (fn.name == "runtime.NumGoroutine") = false) (h3 : fn.body.isNone = true) (h4 : Extern.findNext fn = none) (h5 : Extern.find fn = some Extern.MathFloatBits.float64frombits) {n : Int} :
    CallOK P f [.el (.sc (.int .u64 n))] [.el (.sc (.fl .f64 (cn .f64 n.toNat)))] := by
  refine .inr ⟨fn, _, _, h1, h2, h3, h4, h5, rfl, fun w cargs h => ?_⟩
  obtain ⟨v, rfl, hv⟩ := one_arg h
  have hv : v = .int .u64 n := hv
  subst hv
  exact ⟨_, w, rfl, ⟨_, rfl, rfl⟩, Same.refl w⟩
theorem cok_call {args : List FV} {k : List RV → R} {out : Out} (h : ∃ rs, Real P f ∧ COK P f args rs ∧ k rs = some out) : ∃ rs, CallOK P f args rs ∧ k rs = some out := by
  obtain ⟨rs, h1, h2, h3⟩ := h
  exact ⟨rs, .inl ⟨h1, h2⟩, h3⟩
end
end Go.Sm
namespace Go.Sm
open Go Ieee
theorem cut_le {neg : Bool} {n drop B : Nat} (h : n ≤ B * 2 ^ drop) : Toward.even.cut neg n drop ≤ B := by
  unfold Toward.cut
  dsimp only
  rw [Nat.one_shiftLeft]
  rcases Nat.le_total drop (n.log2 + 2) with hd | hd
  · rw [Nat.min_eq_left hd]
    have hg := Nat.two_pow_pos drop
    have h1 : n / 2 ^ drop ≤ B := by
      have := Nat.div_le_div_right (c := 2 ^ drop) h
      rwa [Nat.mul_div_cancel _ hg] at this
    rcases Nat.lt_or_ge (n / 2 ^ drop) B with h2 | h2
    · have : ∀ b : Bool, b.toNat ≤ 1 := fun b => by cases b <;> decide
      have := this (decide (2 ^ drop < 2 * (n % 2 ^ drop)) || 2 ^ drop == 2 * (n % 2 ^ drop) && n / 2 ^ drop % 2 == 1)
      omega
    · have h3 : n / 2 ^ drop = B := by omega
      have h4 := Nat.div_add_mod n (2 ^ drop)
      rw [h3, Nat.mul_comm] at h4
      have h5 : n % 2 ^ drop = 0 := by omega
      have h6 : ¬ 2 ^ drop < 2 * 0 := by omega
      have h7 : (2 ^ drop == 2 * 0) = false := beq_false_of_ne (by omega)
      rw [h5, h3, h7]
      simp [h6]
  · rw [Nat.min_eq_right hd]
    rcases Nat.eq_zero_or_pos n with h0 | h0
    · subst h0
      simp
    · have h1 : n < 2 ^ (n.log2 + 1) := Nat.lt_log2_self
      have h2 : 2 ^ (n.log2 + 2) = 2 * 2 ^ (n.log2 + 1) := by rw [Nat.pow_succ, Nat.mul_comm]
      have h3 : n / 2 ^ (n.log2 + 2) = 0 := Nat.div_eq_of_lt (by omega)
      have h4 : n % 2 ^ (n.log2 + 2) = n := Nat.mod_eq_of_lt (by omega)
      rw [h3, h4]
      have h6 : ¬ 2 ^ (n.log2 + 2) < 2 * n := by omega
      have h7 : (2 ^ (n.log2 + 2) == 2 * n) = false := beq_false_of_ne (by omega)
      rw [h7]
      simp [h6]
end Go.Sm
namespace Go.Sm
open Go
theorem wrap64 {n : Int} (h1 : -9223372036854775808 ≤ n) (h2 : n < 9223372036854775808) : IntKind.i64.wrap n = n := by
  rw [IntKind.wrap_i64]
  omega
theorem wrap_succ {j n : Nat} (h : j < n) (hn : Nat.ble n big = true) : IntKind.i64.wrap ((j : Int) + 1) = ((j + 1 : Nat) : Int) := by
  have := Nat.le_of_ble_eq_true hn
  unfold big at this
  rw [wrap64 (by omega) (by omega)]
  omega
theorem order_self (k : FloatKind) (a : Nat) : k.format.order a a = none ∨ k.format.order a a = some .eq := by
  unfold Ieee.Format.order
  cases h : k.format.read a with
  | nan neg t => exact .inl rfl
  | infinity neg => right; cases neg <;> rfl
  | number neg m e =>
    right
    simp [Ieee.Datum.order]
theorem order_none {k : FloatKind} {a b : Nat} (h : k.format.order a b = none) : isN k a = true ∨ isN k b = true := by
  unfold Ieee.Format.order at h
  unfold isN FloatKind.decode
  cases ha : k.format.read a with
  | nan neg t => exact .inl rfl
  | infinity s =>
    cases hb : k.format.read b with
    | nan neg t => exact .inr rfl
    | infinity t => rw [ha, hb] at h; cases h
    | number _ _ _ => rw [ha, hb] at h; cases h
  | number _ _ _ =>
    cases hb : k.format.read b with
    | nan neg t => exact .inr rfl
    | infinity t => rw [ha, hb] at h; cases h
    | number _ _ _ => rw [ha, hb] at h; cases h
theorem sameF_refl (a : Nat) : sameF a a = true := by
  unfold sameF
  cases h : fcmp .neq .f64 a a with
  | true => rfl
  | false =>
    have he : fcmp .eql .f64 a a = true := by
      rcases order_self .f64 a with h1 | h1
      · simp [fcmp, h1] at h
      · simp [fcmp, h1]
    simp only [Bool.or_self]
    cases fcmp .eql .f64 a 0 with
    | true => simp
    | false => simpa using he
theorem fin_iff (c : Nat) : fin c = true ↔ ∃ s m e, Ieee.single.read c = .number s m e := by
  unfold fin
  constructor
  · intro h
    cases hr : Ieee.single.read c with
    | number s m e => exact ⟨s, m, e, rfl⟩
    | nan s t =>
      have hn : isN .f32 c = true := by
        show (Ieee.single.read c).isNaN = true
        rw [hr]; rfl
      have : fop .sub .f32 c c = nanOf .f32 := by unfold fop; rw [floatBits_nan_left hn]; rfl
      rw [this] at h
      exact absurd h (by decide)
    | infinity s =>
      have : fop .sub .f32 c c = nanOf .f32 := by
        have h2 : floatBits .sub .f32 c c = none := by
          show Ieee.single.sub c c = none
          unfold Ieee.Format.sub
          rw [hr]
          cases s <;> rfl
        unfold fop
        rw [h2]
        rfl
      rw [this] at h
      exact absurd h (by decide)
  · rintro ⟨s, m, e, hr⟩
    have : fop .sub .f32 c c = 0 := by
      have h2 : floatBits .sub .f32 c c = some 0 := by
        show Ieee.single.sub c c = some 0
        unfold Ieee.Format.sub
        rw [hr]
        have h3 : Ieee.signed s m 0 + Ieee.signed (!s) m 0 = 0 := by cases s <;> simp [Ieee.signed] <;> omega
        cases s <;> simp [Ieee.Datum.sum, Ieee.Datum.opposite, Ieee.Format.write, Ieee.Format.nearest, Ieee.Format.word, Ieee.signed, Int.add_right_neg, Int.add_left_neg]
      unfold fop
      rw [h2]
      rfl
    rw [this]
    decide
theorem sameW_refl (a : Nat) : sameW a a = true := sameF_refl _
theorem fin_notNaN {c : Nat} (h : fin c = true) : isN .f32 c = false := by
  obtain ⟨s, m, e, hr⟩ := (fin_iff c).1 h
  show (Ieee.single.read c).isNaN = false
  rw [hr]
  rfl
theorem notPos_eq (c : Nat) : notPos c = !above c := by
  unfold notPos above
  cases h : fin c with
  | false => rfl
  | true =>
    have hn := fin_notNaN h
    simp only [Bool.not_true, Bool.false_or, Bool.true_and]
    unfold fcmp
    cases ho : FloatKind.f32.format.order c 0 with
    | none => rcases order_none ho with h1 | h1
              · rw [hn] at h1; cases h1
              · exact absurd h1 (by decide)
    | some o => cases o <;> rfl
theorem notFin_fun : notFin = fun c => !fin c := rfl
theorem notPos_fun : notPos = fun c => !above c := funext notPos_eq
theorem eqLineF_refl (a : LineV) : eqLineF a a = true := by simp [eqLineF, sameF_refl]
theorem cmp_leq (a b : Int) : (some (compare a b) == some Ordering.lt || some (compare a b) == some Ordering.eq) = decide (a ≤ b) := by
  show (some (compareOfLessAndEq a b) == some Ordering.lt || some (compareOfLessAndEq a b) == some Ordering.eq) = decide (a ≤ b)
  unfold compareOfLessAndEq
  rcases Int.lt_trichotomy a b with h | h | h
  · have h2 : a ≤ b := by omega
    simp [h, h2]
  · subst h; simp
  · have h2 : ¬ a < b := by omega
    have h3 : ¬ a = b := by omega
    have h4 : ¬ a ≤ b := by omega
    simp [h2, h3, h4]
theorem cmp_geq (a b : Int) : (some (compare a b) == some Ordering.gt || some (compare a b) == some Ordering.eq) = decide (b ≤ a) := by
  show (some (compareOfLessAndEq a b) == some Ordering.gt || some (compareOfLessAndEq a b) == some Ordering.eq) = decide (b ≤ a)
  unfold compareOfLessAndEq
  rcases Int.lt_trichotomy a b with h | h | h
  · have h2 : ¬ b ≤ a := by omega
    simp [h, h2]
  · subst h; simp
  · have h2 : ¬ a < b := by omega
    have h3 : ¬ a = b := by omega
    have h4 : b ≤ a := by omega
    simp [h2, h3, h4]
theorem cmp_lss (a b : Int) : (some (compare a b) == some Ordering.lt) = decide (a < b) := by
  show (some (compareOfLessAndEq a b) == some Ordering.lt) = decide (a < b)
  unfold compareOfLessAndEq
  rcases Int.lt_trichotomy a b with h | h | h
  · simp [h]
  · subst h; simp
  · have h2 : ¬ a < b := by omega
    have h3 : ¬ a = b := by omega
    simp [h2, h3]
theorem read_neg {c : Nat} (h : isN .f32 c = false) : Ieee.single.read (fneg .f32 c) = (Ieee.single.read c).opposite := by
  have e : fneg .f32 c = c ^^^ 2 ^ 31 := by unfold fneg; rw [h]; rfl
  rw [e]
  have hs : Ieee.single.signWeight = 2 ^ 31 := by decide
  have h1 : (c ^^^ 2 ^ 31) % 2 ^ 31 = c % 2 ^ 31 := by
    have := negFloat_mod Ieee.single c
    rw [hs] at this
    exact this
  have h2 : ((c ^^^ 2 ^ 31) / 2 ^ 31 % 2 == 1) = !(c / 2 ^ 31 % 2 == 1) := by
    rw [← Nat.shiftRight_eq_div_pow, ← Nat.shiftRight_eq_div_pow, Nat.shiftRight_xor_distrib]
    have h3 : (2 ^ 31 >>> 31 : Nat) = 1 := by decide
    rw [h3]
    have h4 : ((c >>> 31 ^^^ 1) % 2 = 1) ↔ ¬ ((c >>> 31) % 2 = 1) := by
      rw [Nat.xor_mod_two_eq_one]
      simp
    rw [Bool.eq_iff_iff]
    simp only [beq_iff_eq, Bool.not_eq_true', beq_eq_false_iff_ne, ne_eq]
    exact h4
  unfold Ieee.Format.read
  rw [hs]
  dsimp only
  rw [h1, h2]
  split
  · rfl
  · split
    · rfl
    · split
      · rfl
      · rfl
theorem set_take {α : Type} {l : List α} {j : Nat} (h : j < l.length) (a : α) (r : List α) : (l.set j a).take (j + 1) ++ r = l.take j ++ a :: r := by
  rw [List.take_succ_eq_append_getElem (by simpa using h), List.take_set_of_le (Nat.le_refl j)]
  simp
theorem all2_refl {α : Type} {p : α → α → Bool} (h : ∀ a, p a a = true) : ∀ l : List α, all2 p l l = true
  | [] => rfl
  | a :: l => by simp [all2, h a, all2_refl h l]
theorem any_firstAt {α : Type} (p : α → Bool) (xs : List α) : decide (firstAt p xs ≥ 0) = xs.any p := by
  unfold firstAt
  cases h : xs.findIdx? p with
  | some i =>
    have : xs.any p = true := by
      rw [List.findIdx?_eq_some_iff_getElem] at h
      obtain ⟨hi, hp, _⟩ := h
      exact List.any_eq_true.2 ⟨_, List.getElem_mem hi, hp⟩
    rw [this]
    simp
  | none =>
    rw [List.findIdx?_eq_none_iff] at h
    have : xs.any p = false := by
      rw [List.any_eq_false]
      intro x hx
      rw [h x hx]
      exact Bool.false_ne_true
    rw [this]
    rfl
theorem not_any {α : Type} (p : α → Bool) (xs : List α) : (!(xs.any fun x => !p x)) = xs.all p := (List.all_eq_not_any_not ..).symm
theorem fits_f32 {s : SC} (h : NK.fits (.float .f32) s) : ∃ c, s = .fl .f32 c ∧ cn .f32 c = c ∧ c < 2 ^ 32 := by
  cases s with
  | fl q c => obtain ⟨rfl, h1, h2⟩ := h; exact ⟨c, rfl, h1, h2⟩
  | int _ _ => exact h.elim
  | bo _ => exact h.elim
  | cx _ _ _ => exact h.elim
  | no => exact h.elim
theorem fits_i64 {s : SC} (h : NK.fits (.int .i64) s) : ∃ n, s = .int .i64 n ∧ -9223372036854775808 ≤ n ∧ n ≤ 9223372036854775807 := by
  cases s with
  | int q n => obtain ⟨rfl, h1, h2⟩ := h; exact ⟨n, rfl, h1, h2⟩
  | fl _ _ => exact h.elim
  | bo _ => exact h.elim
  | cx _ _ _ => exact h.elim
  | no => exact h.elim
section
variable {R : AK → Nat → FV → Prop} {a b c d e : AK} {p q r s t : Nat} {xs : List FV}
theorem aks5 (h : AKs R [a, b, c, d, e] [p, q, r, s, t] xs) : ∃ x y z u v, xs = [x, y, z, u, v] ∧ R a p x ∧ R b q y ∧ R c r z ∧ R d s u ∧ R e t v := by
  match xs, h with
  | [x, y, z, u, v], h => exact ⟨x, y, z, u, v, rfl, h.1, h.2.1, h.2.2.1, h.2.2.2.1, h.2.2.2.2.1⟩
end
end Go.Sm
namespace Go.Sm
open Go Ieee
variable {f : Format}
def rv (f : Format) (r : Nat) : Nat := if r < f.binade then r else (f.binade + r % f.binade) * 2 ^ (r / f.binade - 1)
theorem binade_pos (f : Format) : 0 < f.binade := Nat.two_pow_pos _
theorem rung_split (f : Format) (r : Nat) : ∃ m e, r = e * f.binade + m ∧ m < 2 * f.binade ∧ (0 < e → f.binade ≤ m) ∧ rv f r = m * 2 ^ e := by
  have hb := binade_pos f
  unfold rv
  by_cases h : r < f.binade
  · exact ⟨r, 0, by omega, by omega, fun h => absurd h (by omega), by simp [h]⟩
  · have h1 : 1 ≤ r / f.binade := (Nat.le_div_iff_mul_le hb).2 (by omega)
    have h2 := Nat.div_add_mod r f.binade
    have h3 := Nat.mod_lt r hb
    refine ⟨f.binade + r % f.binade, r / f.binade - 1, ?_, by omega, fun _ => by omega, by simp [h]⟩
    have h4 : (r / f.binade - 1) * f.binade + f.binade = r / f.binade * f.binade := by
      rw [← Nat.succ_mul]
      congr 1
      omega
    rw [Nat.mul_comm] at h2
    omega
theorem split_lt {b m e m' e' : Nat} (h1 : m < 2 * b) (h1' : 0 < e' → b ≤ m') (h2' : m' < 2 * b) (h2 : 0 < e → b ≤ m) (h : e * b + m < e' * b + m') : m * 2 ^ e < m' * 2 ^ e' := by
  rcases Nat.lt_trichotomy e e' with he | he | he
  · have h3 : m * 2 ^ e < 2 * b * 2 ^ e := Nat.mul_lt_mul_of_pos_right h1 (Nat.two_pow_pos _)
    have h4 : 2 * b * 2 ^ e = b * 2 ^ (e + 1) := by rw [Nat.pow_succ, Nat.mul_comm 2 b, Nat.mul_assoc, Nat.mul_comm 2]
    have h5 : b * 2 ^ (e + 1) ≤ m' * 2 ^ e' := Nat.mul_le_mul (h1' (by omega)) (Nat.pow_le_pow_right (by decide) he)
    omega
  · subst he
    exact Nat.mul_lt_mul_of_pos_right (by omega) (Nat.two_pow_pos _)
  · have h3 : (e' + 1) * b ≤ e * b := Nat.mul_le_mul_right _ he
    rw [Nat.succ_mul] at h3
    have := h2 (by omega)
    omega
theorem rv_lt {a b : Nat} (h : a < b) : rv f a < rv f b := by
  obtain ⟨m, e, h1, h2, h3, h4⟩ := rung_split f a
  obtain ⟨m', e', h1', h2', h3', h4'⟩ := rung_split f b
  rw [h4, h4']
  exact split_lt h2 h3' h2' h3 (by omega)
theorem rv_le {a b : Nat} (h : a ≤ b) : rv f a ≤ rv f b := by
  rcases Nat.lt_or_ge a b with h1 | h1
  · exact Nat.le_of_lt (rv_lt h1)
  · rw [show a = b by omega]; exact Nat.le_refl _
theorem rv_inj {a b : Nat} (h : rv f a = rv f b) : a = b := by
  rcases Nat.lt_trichotomy a b with h1 | h1 | h1
  · have := rv_lt (f := f) h1; omega
  · exact h1
  · have := rv_lt (f := f) h1; omega
theorem rv_zero (f : Format) : rv f 0 = 0 := by unfold rv; simp [binade_pos f]
def nrung (f : Format) (mag : Nat) (place : Int) : Nat :=
  if mag = 0 then 0 else min ((max (place + mag.log2 - f.fractionBits) f.leastPlace - f.leastPlace).toNat * f.binade + Toward.even.cut false (mag <<< (place - max (place + mag.log2 - f.fractionBits) f.leastPlace).toNat) (max (place + mag.log2 - f.fractionBits) f.leastPlace - place).toNat) f.infRung
theorem nearest_eq (f : Format) (neg : Bool) (mag : Nat) (place : Int) : f.nearest neg mag place = f.word neg (nrung f mag place) := by
  unfold Format.nearest nrung
  split <;> rfl
theorem cut_ge {neg : Bool} {n drop B : Nat} (h : B * 2 ^ drop ≤ n) : B ≤ Toward.even.cut neg n drop := by
  unfold Toward.cut
  dsimp only
  rw [Nat.one_shiftLeft]
  rcases Nat.le_total drop (n.log2 + 2) with hd | hd
  · rw [Nat.min_eq_left hd]
    have hg := Nat.two_pow_pos drop
    have h1 : B ≤ n / 2 ^ drop := (Nat.le_div_iff_mul_le hg).2 h
    omega
  · have hB : B = 0 := by
      rcases Nat.eq_zero_or_pos B with h0 | h0
      · exact h0
      · exfalso
        have h1 : n < 2 ^ (n.log2 + 1) := Nat.lt_log2_self
        have h2 : 2 ^ (n.log2 + 1) ≤ 2 ^ drop := Nat.pow_le_pow_right (by decide) (by omega)
        have h3 : 2 ^ drop ≤ B * 2 ^ drop := Nat.le_mul_of_pos_left _ h0
        omega
    rw [hB]
    exact Nat.zero_le _
theorem nrung_le {mag : Nat} {place : Int} {b k1 k2 : Nat} (hk : (k1 : Int) - (k2 : Int) = place - f.leastPlace) (h : mag * 2 ^ k1 ≤ rv f b * 2 ^ k2) : nrung f mag place ≤ b := by
  unfold nrung
  split
  · exact Nat.zero_le _
  rename_i hm
  obtain ⟨mb, eb, hb1, hb2, hb3, hb4⟩ := rung_split f b
  have hB : f.binade = 2 ^ f.fractionBits := rfl
  have hL : 2 ^ mag.log2 ≤ mag := Nat.log2_self_le hm
  have hL2 : mag < 2 ^ (mag.log2 + 1) := Nat.lt_log2_self
  generalize hlast : max (place + (mag.log2 : Int) - f.fractionBits) f.leastPlace = last
  refine Nat.le_trans (Nat.min_le_left _ _) ?_
  obtain ⟨el, hel⟩ : ∃ el : Nat, last = f.leastPlace + el := ⟨(last - f.leastPlace).toNat, by omega⟩
  have he : (last - f.leastPlace).toNat = el := by omega
  rw [he, hb1]
  rw [hb4, Nat.mul_assoc, ← Nat.pow_add] at h
  rcases Nat.lt_trichotomy el eb with h1 | h1 | h1
  · -- the last digit lies lower
    have hkept : Toward.even.cut false (mag <<< (place - last).toNat) (last - place).toNat ≤ 2 * f.binade := by
      refine cut_le ?_
      rw [Nat.shiftLeft_eq, hB, ← Nat.pow_succ', ← Nat.pow_add]
      have h2 : mag * 2 ^ (place - last).toNat ≤ 2 ^ (mag.log2 + 1) * 2 ^ (place - last).toNat := Nat.mul_le_mul_right _ (Nat.le_of_lt hL2)
      rw [← Nat.pow_add] at h2
      exact Nat.le_trans h2 (Nat.pow_le_pow_right (by decide) (by omega))
    have h2 := hb3 (by omega)
    have h3 : (el + 1) * f.binade ≤ eb * f.binade := Nat.mul_le_mul_right _ h1
    rw [Nat.succ_mul] at h3
    omega
  · subst h1
    refine Nat.add_le_add_left ?_ _
    refine cut_le ?_
    rw [Nat.shiftLeft_eq]
    rcases Int.le_total place last with h2 | h2
    · have h3 : (place - last).toNat = 0 := by omega
      rw [h3, Nat.pow_zero, Nat.mul_one]
      have h4 : el + k2 = k1 + (last - place).toNat := by omega
      rw [h4, Nat.add_comm, Nat.pow_add, ← Nat.mul_assoc] at h
      exact Nat.le_of_mul_le_mul_right h (Nat.two_pow_pos _)
    · have h3 : (last - place).toNat = 0 := by omega
      rw [h3, Nat.pow_zero, Nat.mul_one]
      have h4 : k1 = (place - last).toNat + (el + k2) := by omega
      rw [h4, Nat.pow_add, ← Nat.mul_assoc] at h
      exact Nat.le_of_mul_le_mul_right h (Nat.two_pow_pos _)
  · exfalso
    have h2 : last = place + (mag.log2 : Int) - f.fractionBits := by omega
    have h3 : 2 ^ (mag.log2 + k1) ≤ mag * 2 ^ k1 := by rw [Nat.pow_add]; exact Nat.mul_le_mul_right _ hL
    have h4 : mb * 2 ^ (eb + k2) < 2 ^ (f.fractionBits + 1) * 2 ^ (eb + k2) := by
      refine Nat.mul_lt_mul_of_pos_right ?_ (Nat.two_pow_pos _)
      rw [Nat.pow_succ']
      exact hb2
    rw [← Nat.pow_add] at h4
    have h5 : 2 ^ (f.fractionBits + 1 + (eb + k2)) ≤ 2 ^ (mag.log2 + k1) := Nat.pow_le_pow_right (by decide) (by omega)
    omega
theorem nrung_ge {mag : Nat} {place : Int} {b k1 k2 : Nat} (hk : (k1 : Int) - (k2 : Int) = place - f.leastPlace) (h : rv f b * 2 ^ k2 ≤ mag * 2 ^ k1) (hinf : b ≤ f.infRung) : b ≤ nrung f mag place := by
  unfold nrung
  split
  · rename_i hm
    subst hm
    have h1 : rv f b * 2 ^ k2 = 0 := by simpa using h
    rcases Nat.mul_eq_zero.1 h1 with h2 | h2
    · have := rv_inj (f := f) (h2.trans (rv_zero f).symm)
      omega
    · have := Nat.two_pow_pos k2
      omega
  rename_i hm
  obtain ⟨mb, eb, hb1, hb2, hb3, hb4⟩ := rung_split f b
  have hB : f.binade = 2 ^ f.fractionBits := rfl
  have hL : 2 ^ mag.log2 ≤ mag := Nat.log2_self_le hm
  have hL2 : mag < 2 ^ (mag.log2 + 1) := Nat.lt_log2_self
  generalize hlast : max (place + (mag.log2 : Int) - f.fractionBits) f.leastPlace = last
  refine Nat.le_min.2 ⟨?_, hinf⟩
  obtain ⟨el, hel⟩ : ∃ el : Nat, last = f.leastPlace + el := ⟨(last - f.leastPlace).toNat, by omega⟩
  have he : (last - f.leastPlace).toNat = el := by omega
  rw [he, hb1]
  rw [hb4, Nat.mul_assoc, ← Nat.pow_add] at h
  rcases Nat.lt_trichotomy el eb with h1 | h1 | h1
  · exfalso
    have h2 := hb3 (by omega)
    have h3 : mag * 2 ^ k1 < 2 ^ (mag.log2 + 1) * 2 ^ k1 := Nat.mul_lt_mul_of_pos_right hL2 (Nat.two_pow_pos _)
    rw [← Nat.pow_add] at h3
    have h4 : f.binade * 2 ^ (eb + k2) ≤ mb * 2 ^ (eb + k2) := Nat.mul_le_mul_right _ h2
    rw [hB, ← Nat.pow_add] at h4
    have h5 : 2 ^ (mag.log2 + 1 + k1) ≤ 2 ^ (f.fractionBits + (eb + k2)) := Nat.pow_le_pow_right (by decide) (by omega)
    omega
  · subst h1
    refine Nat.add_le_add_left ?_ _
    refine cut_ge ?_
    rw [Nat.shiftLeft_eq]
    rcases Int.le_total place last with h2 | h2
    · have h3 : (place - last).toNat = 0 := by omega
      rw [h3, Nat.pow_zero, Nat.mul_one]
      have h4 : el + k2 = k1 + (last - place).toNat := by omega
      rw [h4, Nat.add_comm k1, Nat.pow_add, ← Nat.mul_assoc] at h
      exact Nat.le_of_mul_le_mul_right h (Nat.two_pow_pos _)
    · have h3 : (last - place).toNat = 0 := by omega
      rw [h3, Nat.pow_zero, Nat.mul_one]
      have h4 : k1 = (place - last).toNat + (el + k2) := by omega
      rw [h4, Nat.pow_add 2 (place - last).toNat, ← Nat.mul_assoc] at h
      exact Nat.le_of_mul_le_mul_right h (Nat.two_pow_pos _)
  · have h2 : last = place + (mag.log2 : Int) - f.fractionBits := by omega
    have hkept : f.binade ≤ Toward.even.cut false (mag <<< (place - last).toNat) (last - place).toNat := by
      refine cut_ge ?_
      rw [Nat.shiftLeft_eq, hB, ← Nat.pow_add]
      have h3 : 2 ^ mag.log2 * 2 ^ (place - last).toNat ≤ mag * 2 ^ (place - last).toNat := Nat.mul_le_mul_right _ hL
      rw [← Nat.pow_add] at h3
      exact Nat.le_trans (Nat.pow_le_pow_right (by decide) (by omega)) h3
    have h3 : (eb + 1) * f.binade ≤ el * f.binade := Nat.mul_le_mul_right _ h1
    rw [Nat.succ_mul] at h3
    omega
theorem nrung_inf (f : Format) (mag : Nat) (place : Int) : nrung f mag place ≤ f.infRung := by
  unfold nrung
  split
  · exact Nat.zero_le _
  · exact Nat.min_le_right _ _
theorem word_mod (f : Format) (neg : Bool) {r : Nat} (h : r < f.signWeight) : f.word neg r % f.signWeight = r := by
  unfold Format.word
  cases neg
  · exact Nat.mod_eq_of_lt h
  · simp [Nat.mod_eq_of_lt h]
theorem word_sign (f : Format) (neg : Bool) {r : Nat} (h : r < f.signWeight) : (f.word neg r / f.signWeight % 2 == 1) = neg := by
  have hp : 0 < f.signWeight := Nat.two_pow_pos _
  unfold Format.word
  cases neg
  · simp [Nat.div_eq_of_lt h]
  · simp only [if_true]
    rw [Nat.add_div_left _ hp, Nat.div_eq_of_lt h]
    rfl
theorem read_rung (f : Format) {w : Nat} (h : w % f.signWeight < f.infRung) : ∃ m e : Nat, f.read w = .number (w / f.signWeight % 2 == 1) m (f.leastPlace + (e : Int)) ∧ rv f (w % f.signWeight) = m * 2 ^ e := by
  unfold Format.read
  dsimp only
  by_cases h1 : w % f.signWeight < f.binade
  · rw [if_pos h1]
    exact ⟨w % f.signWeight, 0, by simp, by unfold rv; simp [h1]⟩
  · rw [if_neg h1, if_pos h]
    exact ⟨_, _, rfl, by unfold rv; simp [h1]⟩
theorem binade_le (k : FloatKind) : k.format.binade ≤ k.format.infRung := by cases k <;> decide
theorem read_number_rung {k : FloatKind} {w : Nat} {s : Bool} {m : Nat} {i : Int} (h : k.format.read w = .number s m i) :
    w % k.format.signWeight < k.format.infRung ∧ s = (w / k.format.signWeight % 2 == 1) ∧ ∃ e : Nat, i = k.format.leastPlace + (e : Int) ∧ rv k.format (w % k.format.signWeight) = m * 2 ^ e := by
  have hlt : w % k.format.signWeight < k.format.infRung := by
    have hb := binade_le k
    unfold Format.read at h
    dsimp only at h
    split at h
    · omega
    · split at h
      · assumption
      · split at h <;> cases h
  obtain ⟨m', e, h1, h2⟩ := read_rung k.format hlt
  rw [h] at h1
  cases h1
  exact ⟨hlt, rfl, e, rfl, h2⟩
def isNum (k : FloatKind) (w : Nat) : Bool := match k.format.read w with
  | .number .. => true
  | _ => false
def sgn (k : FloatKind) (w : Nat) : Bool := w / k.format.signWeight % 2 == 1
def fv (k : FloatKind) (w : Nat) : Int := if sgn k w then -(rv k.format (w % k.format.signWeight) : Int) else (rv k.format (w % k.format.signWeight) : Int)
theorem isNum_read {k : FloatKind} {w : Nat} (h : isNum k w = true) : ∃ m e : Nat, k.format.read w = .number (sgn k w) m (k.format.leastPlace + (e : Int)) ∧ rv k.format (w % k.format.signWeight) = m * 2 ^ e := by
  unfold isNum at h
  split at h
  · rename_i s m i hr
    obtain ⟨h1, h2, e, h3, h4⟩ := read_number_rung hr
    refine ⟨m, e, ?_, h4⟩
    rw [hr, h2, h3]
    rfl
  · cases h
theorem isNum_lt {k : FloatKind} {w : Nat} (h : isNum k w = true) : w % k.format.signWeight < k.format.infRung := by
  unfold isNum at h
  split at h
  · rename_i s m i hr
    exact (read_number_rung hr).1
  · cases h
theorem isNum_of_lt {k : FloatKind} {w : Nat} (h : w % k.format.signWeight < k.format.infRung) : isNum k w = true := by
  obtain ⟨m, e, h1, _⟩ := read_rung k.format h
  unfold isNum
  rw [h1]
theorem signed_mul (s : Bool) (m e b : Nat) : signed s m (e + b) = signed s m e * 2 ^ b := by
  unfold signed
  rw [Nat.shiftLeft_eq, Nat.shiftLeft_eq, Nat.pow_add, ← Nat.mul_assoc]
  cases s
  · simp
  · simp [Int.neg_mul]
theorem fv_read {k : FloatKind} {w : Nat} {s : Bool} {m : Nat} {i : Int} (h : k.format.read w = .number s m i) : fv k w = signed s m (i - k.format.leastPlace).toNat := by
  obtain ⟨h1, h2, e, h3, h4⟩ := read_number_rung h
  unfold fv sgn signed
  rw [← h2, h4, h3, Nat.shiftLeft_eq]
  have : (k.format.leastPlace + (e : Int) - k.format.leastPlace).toNat = e := by omega
  rw [this]
theorem order_fv {k : FloatKind} {x y : Nat} (hx : isNum k x = true) (hy : isNum k y = true) : k.format.order x y = some (compare (fv k x) (fv k y)) := by
  obtain ⟨m, e, h1, h2⟩ := isNum_read hx
  obtain ⟨n, e', h3, h4⟩ := isNum_read hy
  rw [fv_read h1, fv_read h3]
  unfold Format.order
  rw [h1, h3]
  simp only [Datum.order]
  congr 1
  have q1 : (k.format.leastPlace + (e : Int) - k.format.leastPlace).toNat = e := by omega
  have q2 : (k.format.leastPlace + (e' : Int) - k.format.leastPlace).toNat = e' := by omega
  rw [q1, q2]
  have key : ∀ (b : Nat) (u v : Int), compare u v = compare (u * 2 ^ b) (v * 2 ^ b) := by
    intro b u v
    have hp : (0 : Int) < 2 ^ b := Int.pow_pos (by decide)
    show compareOfLessAndEq u v = compareOfLessAndEq (u * 2 ^ b) (v * 2 ^ b)
    unfold compareOfLessAndEq
    have l1 : u * 2 ^ b < v * 2 ^ b ↔ u < v := Int.mul_lt_mul_right hp
    have l2 : u * 2 ^ b = v * 2 ^ b ↔ u = v := Int.mul_eq_mul_right_iff (Int.ne_of_gt hp)
    simp only [l1, l2]
  rcases Nat.le_total e e' with h | h
  · have b1 : (k.format.leastPlace + (e : Int) - min (k.format.leastPlace + (e : Int)) (k.format.leastPlace + (e' : Int))).toNat = 0 := by omega
    have b2 : (k.format.leastPlace + (e' : Int) - min (k.format.leastPlace + (e : Int)) (k.format.leastPlace + (e' : Int))).toNat = e' - e := by omega
    rw [b1, b2, key e, ← signed_mul, ← signed_mul, Nat.zero_add, Nat.sub_add_cancel h]
  · have b1 : (k.format.leastPlace + (e : Int) - min (k.format.leastPlace + (e : Int)) (k.format.leastPlace + (e' : Int))).toNat = e - e' := by omega
    have b2 : (k.format.leastPlace + (e' : Int) - min (k.format.leastPlace + (e : Int)) (k.format.leastPlace + (e' : Int))).toNat = 0 := by omega
    rw [b1, b2, key e', ← signed_mul, ← signed_mul, Nat.zero_add, Nat.sub_add_cancel h]
end Go.Sm
namespace Go.Sm
open Go Ieee
theorem sum_comm (a b : Datum) : a.sum b = b.sum a := by
  cases a with
  | nan s t => cases b <;> rfl
  | infinity s =>
    cases b with
    | nan _ _ => rfl
    | infinity t => cases s <;> cases t <;> rfl
    | number _ _ _ => rfl
  | number s m i =>
    cases b with
    | nan _ _ => rfl
    | infinity _ => rfl
    | number t n j =>
      simp only [Datum.sum]
      rw [Int.min_comm i j, Int.add_comm (signed s m (i - min j i).toNat), Bool.and_comm s t]
theorem fop_add_comm (k : FloatKind) (a b : Nat) : fop .add k a b = fop .add k b a := by
  unfold fop
  have : floatBits .add k a b = floatBits .add k b a := by
    show k.format.add a b = k.format.add b a
    unfold Format.add
    rw [sum_comm]
  rw [this]
theorem fop_nan_l {op : BinOp} {k : FloatKind} {a b : Nat} (h : isN k a = true) : fop op k a b = nanOf k := by unfold fop; rw [floatBits_nan_left h]; rfl
theorem fop_nan_r {op : BinOp} {k : FloatKind} {a b : Nat} (h : isN k b = true) : fop op k a b = nanOf k := by unfold fop; rw [floatBits_nan_right h]; rfl
theorem fin_isNum (c : Nat) : fin c = isNum .f32 c := by
  rw [Bool.eq_iff_iff, fin_iff]
  unfold isNum
  constructor
  · rintro ⟨s, m, e, h⟩
    show (match Ieee.single.read c with | .number .. => true | _ => false) = true
    rw [h]
  · intro h
    split at h
    · rename_i s m i hr
      exact ⟨s, m, i, hr⟩
    · cases h
theorem read_same {k : FloatKind} {x y : Nat} (h1 : sgn k x = sgn k y) (h2 : x % k.format.signWeight = y % k.format.signWeight) : k.format.read x = k.format.read y := by
  unfold sgn at h1
  unfold Format.read
  dsimp only
  rw [h1, h2]
theorem read_fv {k : FloatKind} {x y : Nat} (h : fv k x = fv k y) (h0 : fv k x ≠ 0) : k.format.read x = k.format.read y := by
  unfold fv at h h0
  cases h1 : sgn k x <;> cases h2 : sgn k y <;> simp only [h1, h2, Bool.false_eq_true, if_false, if_true] at h h0
  · exact read_same (h1.trans h2.symm) (rv_inj (f := k.format) (by omega))
  · omega
  · omega
  · exact read_same (h1.trans h2.symm) (rv_inj (f := k.format) (by omega))
theorem cmp_gt_iff {a b : Int} : (some (compare a b) == some Ordering.gt) = decide (b < a) := by
  show (some (compareOfLessAndEq a b) == some Ordering.gt) = decide (b < a)
  unfold compareOfLessAndEq
  rcases Int.lt_trichotomy a b with h | h | h
  · have h2 : ¬ b < a := by omega
    simp [h, h2]
  · subst h; simp
  · have h2 : ¬ a < b := by omega
    have h3 : ¬ a = b := by omega
    simp [h, h2, h3]
theorem gtr_fv {k : FloatKind} {x y : Nat} (hx : isNum k x = true) (hy : isNum k y = true) : fcmp .gtr k x y = decide (fv k y < fv k x) := by
  unfold fcmp
  rw [order_fv hx hy]
  exact cmp_gt_iff
theorem word_isNum {k : FloatKind} (s : Bool) {r : Nat} (h : r < k.format.infRung) : isNum k (k.format.word s r) = true := by
  have h2 : r < k.format.signWeight := Nat.lt_trans h k.format.infRung_lt
  exact isNum_of_lt (by rw [word_mod _ _ h2]; exact h)
theorem fv_word {k : FloatKind} (s : Bool) {r : Nat} (h : r < k.format.signWeight) : fv k (k.format.word s r) = if s then -(rv k.format r : Int) else (rv k.format r : Int) := by
  unfold fv sgn
  rw [word_sign _ _ h, word_mod _ _ h]
end Go.Sm
namespace Go.Sm
open Go
section
variable {T : TT} {A : Ann} {L : Loops} {nt : Nat}
theorem loops_of {fn : Func} {n : Nat} (h : nLoops fn = n) (hl : ∀ i, i < n → LOK T A L nt (loopAt fn i)) : LoopsOk T A L nt (bodyOf fn) := loops_all fun b hb => by
  obtain ⟨i, hi⟩ := List.getElem?_of_mem hb
  have hlt : i < (loopBodies (bodyOf fn)).length := by
    rcases Nat.lt_or_ge i (loopBodies (bodyOf fn)).length with h' | h'
    · exact h'
    · rw [List.getElem?_eq_none h'] at hi; cases hi
  have := hl i (by unfold nLoops at h; omega)
  unfold loopAt at this
  rw [List.getD_eq_getElem?_getD, hi] at this
  exact this
theorem loops3 {fn : Func} (h : nLoops fn = 3) (h0 : LOK T A L nt (loopAt fn 0)) (h1 : LOK T A L nt (loopAt fn 1)) (h2 : LOK T A L nt (loopAt fn 2)) : LoopsOk T A L nt (bodyOf fn) := loops_of h fun i hi => by
  match i, hi with
  | 0, _ => exact h0
  | 1, _ => exact h1
  | 2, _ => exact h2
end
def rep {σ : Type} (f : Nat → σ → σ) : Nat → Nat → σ → σ
  | 0, _, s => s
  | m + 1, j, s => rep f m (j + 1) (f j s)
def repE {σ : Type} (f : Nat → σ → Option σ) : Nat → Nat → σ → Option σ
  | 0, _, s => some s
  | m + 1, j, s => match f j s with
    | some t => repE f m (j + 1) t
    | none => none
theorem rep_succ {σ : Type} (f : Nat → σ → σ) (m j : Nat) (s : σ) : rep f (m + 1) j s = rep f m (j + 1) (f j s) := rfl
theorem repE_succ {σ : Type} (f : Nat → σ → Option σ) (m j : Nat) (s : σ) : repE f (m + 1) j s = match f j s with
    | some t => repE f m (j + 1) t
    | none => none := rfl
theorem rep_congr {σ : Type} {f g : Nat → σ → σ} {lo hi : Nat} (h : ∀ j s, lo ≤ j → j < hi → f j s = g j s) : ∀ (m j : Nat) (s : σ), lo ≤ j → j + m ≤ hi → rep f m j s = rep g m j s
  | 0, _, _, _, _ => rfl
  | m + 1, j, s, h1, h2 => by
    unfold rep
    rw [h j s h1 (by omega), rep_congr h m (j + 1) _ (by omega) (by omega)]
def fromTo (j m : Nat) : List Nat := List.range' j m
theorem fromTo_succ (j m : Nat) : fromTo j (m + 1) = j :: fromTo (j + 1) m := rfl
theorem fromTo_len (j m : Nat) : (fromTo j m).length = m := List.length_range'
theorem rep_map {α : Type} (g : Nat → α) : ∀ (m j : Nat) (zs : List α), rep (fun j zs => zs ++ [g j]) m j zs = zs ++ (fromTo j m).map g
  | 0, _, zs => by simp [rep, fromTo]
  | m + 1, j, zs => by
    unfold rep
    rw [rep_map g m, fromTo_succ]
    simp
theorem rep_list {α σ : Type} (d : α) (f : σ → α → σ) (xs : List α) : ∀ (m j : Nat) (s : σ), j + m = xs.length → rep (fun j s => f s (xs.getD j d)) m j s = (xs.drop j).foldl f s
  | 0, j, s, h => by rw [List.drop_of_length_le (by omega)]; rfl
  | m + 1, j, s, h => by
    have hlt : j < xs.length := by omega
    unfold rep
    rw [rep_list d f xs m (j + 1) _ (by omega), List.drop_eq_getElem_cons hlt, List.foldl_cons]
    have e : xs.getD j d = xs[j] := by simp [List.getD, hlt]
    rw [e]
theorem getI {α : Type} {d : α} {n : Nat} {xs : List α} (h : n < xs.length) : xs[Int.toNat (n : Int)]? = some (xs.getD n d) := by simp [List.getD, h]
theorem getI2 {α : Type} {d : α} {n : Nat} {xs : List α} (h : n < xs.length) : xs[n]? = some (xs.getD n d) := by simp [List.getD, h]
theorem big_le {n : Nat} (h : Nat.ble n big = true) : n ≤ 1099511627776 := Nat.le_of_ble_eq_true h
theorem big_of {n : Nat} (h : n ≤ 1099511627776) : Nat.ble n big = true := Nat.ble_eq_true_of_le h
theorem wrapN {n : Int} {m : Nat} (h : n = (m : Int)) (hm : m ≤ 2199023255552) : IntKind.i64.wrap n = (m : Int) := by
  subst h
  exact wrap64 (by omega) (by omega)
def listOk (xs : List Nat) (n : Int) : Bool := decide ((xs.length : Int) ≥ n) && (decide (xs.length ≤ 128) && xs.all fin)
def lamps (xs ys : List Nat) (n : Int) : Bool := decide ((xs.length : Int) ≥ n) && (decide (xs.length ≤ 16) && (decide (ys.length = xs.length) && (xs.all fin && ys.all fin)))
end Go.Sm
namespace Go.Sm
open Go Ieee
def lp (k : FloatKind) : Nat := (-k.format.leastPlace).toNat
theorem lp_eq (k : FloatKind) : k.format.leastPlace = -(lp k : Int) := by cases k <;> decide
theorem signed_natAbs (s : Bool) (m e : Nat) : (signed s m e).natAbs = m * 2 ^ e := by
  unfold signed
  rw [Nat.shiftLeft_eq]
  cases s
  · rfl
  · show (-((m * 2 ^ e : Nat) : Int)).natAbs = _
    rw [Int.natAbs_neg]
    rfl
theorem isNum_spell {k : FloatKind} {x : Nat} (h : isNum k x = true) : ∃ m e : Nat, k.format.read x = .number (sgn k x) m (k.format.leastPlace + (e : Int)) ∧ (fv k x).natAbs = m * 2 ^ e := by
  obtain ⟨m, e, h1, h2⟩ := isNum_read h
  refine ⟨m, e, h1, ?_⟩
  rw [fv_read h1, signed_natAbs]
  congr 2
  omega
theorem fop_some {op : BinOp} {k : FloatKind} {x y r : Nat} (h : floatBits op k x y = some r) : fop op k x y = r := by unfold fop; rw [h]; rfl
theorem fop_mul {k : FloatKind} {x y : Nat} (hx : isNum k x = true) (hy : isNum k y = true) : ∃ q, fop .mul k x y = k.format.word (sgn k x ^^ sgn k y) q ∧ q ≤ k.format.infRung ∧
    (∀ z, (fv k x).natAbs * (fv k y).natAbs ≤ rv k.format z * 2 ^ lp k → q ≤ z) ∧ (∀ z, z ≤ k.format.infRung → rv k.format z * 2 ^ lp k ≤ (fv k x).natAbs * (fv k y).natAbs → z ≤ q) := by
  obtain ⟨m, e, h1, h2⟩ := isNum_spell hx
  obtain ⟨n, e', h3, h4⟩ := isNum_spell hy
  have hl := lp_eq k
  have hr : floatBits .mul k x y = some (k.format.nearest (sgn k x ^^ sgn k y) (m * n) (k.format.leastPlace + (e : Int) + (k.format.leastPlace + (e' : Int)))) := by
    show k.format.mul x y = _
    unfold Format.mul
    rw [h1, h3]
    rfl
  rw [fop_some hr, nearest_eq]
  have hv : (fv k x).natAbs * (fv k y).natAbs = m * n * 2 ^ (e + e') := by rw [h2, h4, Nat.pow_add]; ac_rfl
  refine ⟨_, rfl, nrung_inf _ _ _, fun z hz => nrung_le (k1 := e + e') (k2 := lp k) (by omega) (by rw [← hv]; exact hz), fun z hzi hz => nrung_ge (k1 := e + e') (k2 := lp k) (by omega) (by rw [← hv]; exact hz) hzi⟩
theorem fop_add {k : FloatKind} {x y : Nat} (hx : isNum k x = true) (hy : isNum k y = true) : ∃ s q, fop .add k x y = k.format.word s q ∧ q ≤ k.format.infRung ∧ (fv k x + fv k y < 0 → s = true) ∧ (0 < fv k x + fv k y → s = false) ∧
    (∀ z, (fv k x + fv k y).natAbs ≤ rv k.format z → q ≤ z) ∧ (∀ z, z ≤ k.format.infRung → rv k.format z ≤ (fv k x + fv k y).natAbs → z ≤ q) := by
  obtain ⟨m, e, h1, _⟩ := isNum_spell hx
  obtain ⟨n, e', h3, _⟩ := isNum_spell hy
  have hb : ∃ b : Nat, min (k.format.leastPlace + (e : Int)) (k.format.leastPlace + (e' : Int)) = k.format.leastPlace + (b : Int) ∧ b ≤ e ∧ b ≤ e' := ⟨min e e', by omega, Nat.min_le_left _ _, Nat.min_le_right _ _⟩
  obtain ⟨b, hb1, hb2, hb3⟩ := hb
  have q1 : (k.format.leastPlace + (e : Int) - (k.format.leastPlace + (b : Int))).toNat = e - b := by omega
  have q2 : (k.format.leastPlace + (e' : Int) - (k.format.leastPlace + (b : Int))).toNat = e' - b := by omega
  have v1 : fv k x = signed (sgn k x) m (e - b) * 2 ^ b := by
    rw [fv_read h1, ← signed_mul]
    congr 1
    omega
  have v2 : fv k y = signed (sgn k y) n (e' - b) * 2 ^ b := by
    rw [fv_read h3, ← signed_mul]
    congr 1
    omega
  have hr : floatBits .add k x y = some (k.format.nearest (if signed (sgn k x) m (e - b) + signed (sgn k y) n (e' - b) = 0 then sgn k x && sgn k y else decide (signed (sgn k x) m (e - b) + signed (sgn k y) n (e' - b) < 0)) (signed (sgn k x) m (e - b) + signed (sgn k y) n (e' - b)).natAbs (k.format.leastPlace + (b : Int))) := by
    show k.format.add x y = _
    unfold Format.add
    rw [h1, h3]
    simp only [Datum.sum, hb1, q1, q2, Option.map_some, Format.write]
  rw [fop_some hr, nearest_eq]
  have hsum : fv k x + fv k y = (signed (sgn k x) m (e - b) + signed (sgn k y) n (e' - b)) * 2 ^ b := by rw [v1, v2, Int.add_mul]
  generalize signed (sgn k x) m (e - b) + signed (sgn k y) n (e' - b) = S at hsum ⊢
  have hp : (0 : Int) < 2 ^ b := Int.pow_pos (by decide)
  have hna : (fv k x + fv k y).natAbs = S.natAbs * 2 ^ b := by
    rw [hsum, Int.natAbs_mul, Int.natAbs_pow]
    rfl
  refine ⟨_, _, rfl, nrung_inf _ _ _, fun h => ?_, fun h => ?_, fun z hz => nrung_le (k1 := b) (k2 := 0) (by omega) (by rw [← hna, Nat.pow_zero, Nat.mul_one]; exact hz), fun z hzi hz => nrung_ge (k1 := b) (k2 := 0) (by omega) (by rw [← hna, Nat.pow_zero, Nat.mul_one]; exact hz) hzi⟩
  · rw [hsum] at h
    have : S < 0 := by
      rcases Int.lt_or_le S 0 with h1 | h1
      · exact h1
      · have := Int.mul_nonneg h1 (Int.le_of_lt hp); omega
    rw [if_neg (by omega)]
    exact decide_eq_true this
  · rw [hsum] at h
    have : 0 < S := by
      rcases Int.lt_or_le 0 S with h1 | h1
      · exact h1
      · have := Int.mul_nonneg (show 0 ≤ -S by omega) (Int.le_of_lt hp)
        rw [Int.neg_mul] at this
        omega
    rw [if_neg (by omega)]
    exact decide_eq_false (by omega)
theorem fop_sub {k : FloatKind} {x y : Nat} (hx : isNum k x = true) (hy : isNum k y = true) : ∃ s q, fop .sub k x y = k.format.word s q ∧ q ≤ k.format.infRung ∧ (fv k x - fv k y < 0 → s = true) ∧ (0 < fv k x - fv k y → s = false) ∧
    (∀ z, (fv k x - fv k y).natAbs ≤ rv k.format z → q ≤ z) ∧ (∀ z, z ≤ k.format.infRung → rv k.format z ≤ (fv k x - fv k y).natAbs → z ≤ q) := by
  have hp : 0 < k.format.signWeight := Nat.two_pow_pos _
  have hlt := isNum_lt hy
  have hlt2 : y % k.format.signWeight < k.format.signWeight := Nat.mod_lt _ hp
  let y' := k.format.word (!sgn k y) (y % k.format.signWeight)
  have hy' : isNum k y' = true := word_isNum _ hlt
  have hf : fv k y' = -fv k y := by
    show fv k (k.format.word (!sgn k y) (y % k.format.signWeight)) = _
    rw [fv_word _ hlt2]
    unfold fv
    cases sgn k y <;> simp
  have hs : sgn k y' = !sgn k y := word_sign _ _ hlt2
  have hm : y' % k.format.signWeight = y % k.format.signWeight := word_mod _ _ hlt2
  have hread : k.format.read y' = (k.format.read y).opposite := by
    have hs' : (y' / k.format.signWeight % 2 == 1) = !(y / k.format.signWeight % 2 == 1) := hs
    unfold Format.read
    dsimp only
    rw [hm, hs']
    by_cases c1 : y % k.format.signWeight < k.format.binade
    · rw [if_pos c1, if_pos c1]
      rfl
    · rw [if_neg c1, if_neg c1, if_pos hlt, if_pos hlt]
      rfl
  have he : fop .sub k x y = fop .add k x y' := by
    unfold fop
    have : floatBits .sub k x y = floatBits .add k x y' := by
      show k.format.sub x y = k.format.add x y'
      unfold Format.sub Format.add
      rw [hread]
    rw [this]
  rw [he]
  have := fop_add hx hy'
  rw [hf] at this
  exact this
theorem fop_quo {k : FloatKind} {x y : Nat} (hx : isNum k x = true) (hy : isNum k y = true) (h0 : fv k y ≠ 0) : ∃ q, fop .quo k x y = k.format.word (sgn k x ^^ sgn k y) q ∧ q ≤ k.format.infRung ∧
    (∀ z, (fv k x).natAbs * 2 ^ lp k ≤ rv k.format z * (fv k y).natAbs → q ≤ z) ∧ (∀ z, z ≤ k.format.infRung → rv k.format z * (fv k y).natAbs ≤ (fv k x).natAbs * 2 ^ lp k → z ≤ q) := by
  obtain ⟨m, e, h1, h2⟩ := isNum_spell hx
  obtain ⟨n, e', h3, h4⟩ := isNum_spell hy
  have hl := lp_eq k
  have hn : n ≠ 0 := by
    intro h
    subst h
    rw [Nat.zero_mul] at h4
    omega
  generalize hmore : k.format.fractionBits + 2 + n.log2 - m.log2 = more
  have hr : floatBits .quo k x y = some (k.format.nearest (sgn k x ^^ sgn k y) (2 * (m <<< more / n) + (m <<< more % n != 0).toNat) (k.format.leastPlace + (e : Int) - (k.format.leastPlace + (e' : Int)) - (more : Int) - 1)) := by
    show k.format.div x y = _
    unfold Format.div
    rw [h1, h3]
    simp only [Datum.quotient, if_neg hn, hmore, Option.map_some, Format.write]
  rw [fop_some hr, nearest_eq]
  rw [Nat.shiftLeft_eq]
  generalize hD : m * 2 ^ more = D
  have hdm := Nat.div_add_mod D n
  have hml := Nat.mod_lt D (Nat.pos_of_ne_zero hn)
  have hnp := Nat.pos_of_ne_zero hn
  generalize hq : D / n = Q at hdm ⊢
  generalize hrm : D % n = R at hdm hml ⊢
  have hup : ∀ B, 2 * D ≤ B * n → 2 * Q + (R != 0).toNat ≤ B := by
    intro B hB
    by_cases hz : R = 0
    · have h5 : 2 * Q * n ≤ B * n := by
        have e1 : 2 * Q * n = 2 * (n * Q) := by rw [Nat.mul_assoc, Nat.mul_comm Q]
        omega
      have := Nat.le_of_mul_le_mul_right h5 hnp
      simpa [hz] using this
    · have hb : (R != 0) = true := by simp [hz]
      rw [hb]
      have h5 : 2 * Q * n < B * n := by
        have e1 : 2 * Q * n = 2 * (n * Q) := by rw [Nat.mul_assoc, Nat.mul_comm Q]
        omega
      have := Nat.lt_of_mul_lt_mul_right h5
      simp only [Bool.toNat_true]
      omega
  have hdown : ∀ B, B * n ≤ 2 * D → B ≤ 2 * Q + (R != 0).toNat := by
    intro B hB
    by_cases hz : R = 0
    · have h5 : B * n ≤ 2 * Q * n := by
        have e1 : 2 * Q * n = 2 * (n * Q) := by rw [Nat.mul_assoc, Nat.mul_comm Q]
        omega
      have := Nat.le_of_mul_le_mul_right h5 hnp
      simpa [hz] using this
    · have hb : (R != 0) = true := by simp [hz]
      rw [hb]
      have h5 : B * n < (2 * Q + 2) * n := by
        have e1 : (2 * Q + 2) * n = 2 * (n * Q) + 2 * n := by rw [Nat.add_mul, Nat.mul_assoc, Nat.mul_comm Q]
        omega
      have := Nat.lt_of_mul_lt_mul_right h5
      simp only [Bool.toNat_true]
      omega
  have hdig : m ≠ 0 → 2 ^ (k.format.fractionBits + 1) * n < D := by
    intro hm
    have a1 : n < 2 ^ (n.log2 + 1) := Nat.lt_log2_self
    have a2 : 2 ^ m.log2 ≤ m := Nat.log2_self_le hm
    have a3 : 2 ^ (k.format.fractionBits + 1) * n < 2 ^ (k.format.fractionBits + 1) * 2 ^ (n.log2 + 1) := Nat.mul_lt_mul_of_pos_left a1 (Nat.two_pow_pos _)
    have a4 : 2 ^ m.log2 * 2 ^ more ≤ m * 2 ^ more := Nat.mul_le_mul_right _ a2
    rw [← Nat.pow_add] at a3 a4
    have a5 : 2 ^ (k.format.fractionBits + 1 + (n.log2 + 1)) ≤ 2 ^ (m.log2 + more) := Nat.pow_le_pow_right (by decide) (by omega)
    omega
  have hQ : m ≠ 0 → 2 ^ (k.format.fractionBits + 1) ≤ Q := by
    intro hm
    have h5 := hdig hm
    have h6 : 2 ^ (k.format.fractionBits + 1) * n < (Q + 1) * n := by
      have e1 : (Q + 1) * n = n * Q + n := by rw [Nat.add_mul, Nat.one_mul, Nat.mul_comm]
      omega
    have := Nat.lt_of_mul_lt_mul_right h6
    omega
  have hbin : k.format.binade = 2 ^ k.format.fractionBits := rfl
  have hva : (fv k x).natAbs * 2 ^ lp k * 2 ^ (more + 1) = 2 * D * 2 ^ (e + lp k) := by
    rw [h2, ← hD, Nat.pow_succ, Nat.pow_add]
    ac_rfl
  refine ⟨_, rfl, nrung_inf _ _ _, fun z hz => ?_, fun z hzi hz => ?_⟩
  · refine nrung_le (k1 := e + lp k) (k2 := e' + more + 1) (by omega) ?_
    obtain ⟨mz, ez, _, z2, _, z4⟩ := rung_split k.format z
    have h5 : 2 * D * 2 ^ (e + lp k) ≤ mz * 2 ^ (ez + (e' + more + 1)) * n := by
      rw [← hva]
      have := Nat.mul_le_mul_right (2 ^ (more + 1)) hz
      refine Nat.le_trans this (Nat.le_of_eq ?_)
      rw [z4, h4, show ez + (e' + more + 1) = ez + e' + (more + 1) by omega, Nat.pow_add 2 (ez + e') (more + 1), Nat.pow_add 2 ez e']
      ac_rfl
    rw [z4, Nat.mul_assoc, ← Nat.pow_add]
    rcases Nat.lt_or_ge (ez + (e' + more + 1)) (e + lp k) with h6 | h6
    · by_cases hm : m = 0
      · have hD0 : D = 0 := by rw [← hD, hm, Nat.zero_mul]
        have h7 := hup 0 (by omega)
        have : 2 * Q + (R != 0).toNat = 0 := by omega
        rw [this, Nat.zero_mul]
        exact Nat.zero_le _
      · exfalso
        obtain ⟨d, hd⟩ : ∃ d, e + lp k = ez + (e' + more + 1) + d := ⟨e + lp k - (ez + (e' + more + 1)), by omega⟩
        rw [hd, Nat.pow_add 2 (ez + (e' + more + 1)) d] at h5
        have h7 : 2 * D * 2 ^ d * 2 ^ (ez + (e' + more + 1)) ≤ mz * n * 2 ^ (ez + (e' + more + 1)) := by
          refine Nat.le_trans (Nat.le_of_eq ?_) (Nat.le_trans h5 (Nat.le_of_eq ?_)) <;> ac_rfl
        have h8 := Nat.le_of_mul_le_mul_right h7 (Nat.two_pow_pos _)
        have h9 : 2 * D ≤ 2 * D * 2 ^ d := Nat.le_mul_of_pos_right _ (Nat.two_pow_pos _)
        have h10 : mz * n ≤ 2 * k.format.binade * n := Nat.mul_le_mul_right _ (Nat.le_of_lt z2)
        have h11 := hdig hm
        rw [Nat.pow_succ', ← hbin] at h11
        omega
    · obtain ⟨d, hd⟩ : ∃ d, ez + (e' + more + 1) = e + lp k + d := ⟨ez + (e' + more + 1) - (e + lp k), by omega⟩
      rw [hd, Nat.pow_add 2 (e + lp k) d] at h5 ⊢
      have h7 : 2 * D * 2 ^ (e + lp k) ≤ mz * 2 ^ d * n * 2 ^ (e + lp k) := by
        refine Nat.le_trans h5 (Nat.le_of_eq ?_)
        ac_rfl
      have h8 := hup _ (Nat.le_of_mul_le_mul_right h7 (Nat.two_pow_pos _))
      have h9 := Nat.mul_le_mul_right (2 ^ (e + lp k)) h8
      refine Nat.le_trans h9 (Nat.le_of_eq ?_)
      ac_rfl
  · refine nrung_ge (k1 := e + lp k) (k2 := e' + more + 1) (by omega) ?_ hzi
    obtain ⟨mz, ez, _, z2, _, z4⟩ := rung_split k.format z
    have h5 : mz * 2 ^ (ez + (e' + more + 1)) * n ≤ 2 * D * 2 ^ (e + lp k) := by
      rw [← hva]
      have := Nat.mul_le_mul_right (2 ^ (more + 1)) hz
      refine Nat.le_trans (Nat.le_of_eq ?_) this
      rw [z4, h4, show ez + (e' + more + 1) = ez + e' + (more + 1) by omega, Nat.pow_add 2 (ez + e') (more + 1), Nat.pow_add 2 ez e']
      ac_rfl
    rw [z4, Nat.mul_assoc, ← Nat.pow_add]
    rcases Nat.lt_or_ge (ez + (e' + more + 1)) (e + lp k) with h6 | h6
    · by_cases hm : m = 0
      · have hD0 : D = 0 := by rw [← hD, hm, Nat.zero_mul]
        rw [hD0, Nat.mul_zero, Nat.zero_mul] at h5
        have h7 : mz * 2 ^ (ez + (e' + more + 1)) * n = 0 := by omega
        rcases Nat.mul_eq_zero.1 h7 with h8 | h8
        · rw [h8]; exact Nat.zero_le _
        · exact absurd h8 hn
      · have h7 := hQ hm
        rw [Nat.pow_succ', ← hbin] at h7
        have h8 : mz ≤ 2 * Q + (R != 0).toNat := by omega
        exact Nat.mul_le_mul h8 (Nat.pow_le_pow_right (by decide) (by omega))
    · obtain ⟨d, hd⟩ : ∃ d, ez + (e' + more + 1) = e + lp k + d := ⟨ez + (e' + more + 1) - (e + lp k), by omega⟩
      rw [hd, Nat.pow_add 2 (e + lp k) d] at h5 ⊢
      have h7 : mz * 2 ^ d * n * 2 ^ (e + lp k) ≤ 2 * D * 2 ^ (e + lp k) := by
        refine Nat.le_trans (Nat.le_of_eq ?_) h5
        ac_rfl
      have h8 := hdown _ (Nat.le_of_mul_le_mul_right h7 (Nat.two_pow_pos _))
      have h9 := Nat.mul_le_mul_right (2 ^ (e + lp k)) h8
      refine Nat.le_trans (Nat.le_of_eq ?_) h9
      ac_rfl
end Go.Sm
namespace Go.Sm
open Go Ieee
theorem fv_word_abs {k : FloatKind} (s : Bool) {q : Nat} (h : q < k.format.infRung) : (fv k (k.format.word s q)).natAbs = rv k.format q := by
  rw [fv_word s (Nat.lt_trans h k.format.infRung_lt)]
  cases s <;> simp
theorem mulB {k : FloatKind} {x y z X Y : Nat} (hx : isNum k x = true) (hy : isNum k y = true) (h1 : (fv k x).natAbs ≤ X) (h2 : (fv k y).natAbs ≤ Y) (hz : X * Y ≤ rv k.format z * 2 ^ lp k) (hi : z < k.format.infRung) :
    isNum k (fop .mul k x y) = true ∧ (fv k (fop .mul k x y)).natAbs ≤ rv k.format z ∧ (0 ≤ fv k x → 0 ≤ fv k y → 0 ≤ fv k (fop .mul k x y)) ∧ (fv k x ≤ 0 → 0 ≤ fv k y → fv k (fop .mul k x y) ≤ 0) := by
  obtain ⟨q, e, _, hle, _⟩ := fop_mul hx hy
  have hq : q ≤ z := hle z (Nat.le_trans (Nat.mul_le_mul h1 h2) hz)
  have hqi : q < k.format.infRung := Nat.lt_of_le_of_lt hq hi
  have hqs : q < k.format.signWeight := Nat.lt_trans hqi k.format.infRung_lt
  have h0 : fv k x = 0 ∨ fv k y = 0 → q = 0 := by
    intro h
    have : q ≤ 0 := hle 0 (by rcases h with h | h <;> simp [h])
    omega
  have sgnp : ∀ {w : Nat}, 0 < fv k w → sgn k w = false := by
    intro w h
    unfold fv at h
    cases hs : sgn k w with
    | false => rfl
    | true => rw [hs] at h; simp only [if_true] at h; omega
  have sgnn : ∀ {w : Nat}, fv k w < 0 → sgn k w = true := by
    intro w h
    unfold fv at h
    cases hs : sgn k w with
    | true => rfl
    | false => rw [hs] at h; simp only [Bool.false_eq_true, if_false] at h; omega
  rw [e]
  refine ⟨word_isNum _ hqi, by rw [fv_word_abs _ hqi]; exact rv_le hq, fun a b => ?_, fun a b => ?_⟩
  · rw [fv_word _ hqs]
    by_cases c : fv k x = 0 ∨ fv k y = 0
    · rw [h0 c, rv_zero]; simp
    · rw [sgnp (w := x) (by omega), sgnp (w := y) (by omega)]
      simp
  · rw [fv_word _ hqs]
    by_cases c : fv k x = 0 ∨ fv k y = 0
    · rw [h0 c, rv_zero]; simp
    · rw [sgnn (w := x) (by omega), sgnp (w := y) (by omega)]
      simp
theorem sgn_pos {k : FloatKind} {w : Nat} (h : 0 < fv k w) : sgn k w = false := by
  unfold fv at h
  cases hs : sgn k w with
  | false => rfl
  | true => rw [hs] at h; simp only [if_true] at h; omega
theorem sgn_neg {k : FloatKind} {w : Nat} (h : fv k w < 0) : sgn k w = true := by
  unfold fv at h
  cases hs : sgn k w with
  | true => rfl
  | false => rw [hs] at h; simp only [Bool.false_eq_true, if_false] at h; omega
theorem quoB {k : FloatKind} {x y z : Nat} (hx : isNum k x = true) (hy : isNum k y = true) (hp : 0 < fv k y) (hz : (fv k x).natAbs * 2 ^ lp k ≤ rv k.format z * (fv k y).natAbs) (hi : z < k.format.infRung) :
    isNum k (fop .quo k x y) = true ∧ (fv k (fop .quo k x y)).natAbs ≤ rv k.format z ∧ (0 ≤ fv k x → 0 ≤ fv k (fop .quo k x y)) ∧ (fv k x ≤ 0 → fv k (fop .quo k x y) ≤ 0) := by
  obtain ⟨q, e, _, hle, _⟩ := fop_quo hx hy (by omega)
  have hq : q ≤ z := hle z hz
  have hqi : q < k.format.infRung := Nat.lt_of_le_of_lt hq hi
  have hqs : q < k.format.signWeight := Nat.lt_trans hqi k.format.infRung_lt
  have h0 : fv k x = 0 → q = 0 := by
    intro h
    have : q ≤ 0 := hle 0 (by simp [h])
    omega
  rw [e]
  refine ⟨word_isNum _ hqi, by rw [fv_word_abs _ hqi]; exact rv_le hq, fun a => ?_, fun a => ?_⟩
  · rw [fv_word _ hqs]
    by_cases c : fv k x = 0
    · rw [h0 c, rv_zero]; simp
    · rw [sgn_pos (w := x) (by omega), sgn_pos hp]
      simp
  · rw [fv_word _ hqs]
    by_cases c : fv k x = 0
    · rw [h0 c, rv_zero]; simp
    · rw [sgn_neg (w := x) (by omega), sgn_pos hp]
      simp
def SumB (k : FloatKind) (r : Nat) (S : Int) (z : Nat) : Prop :=
  isNum k r = true ∧ (fv k r).natAbs ≤ rv k.format z ∧ (0 ≤ S → 0 ≤ fv k r) ∧ (S ≤ 0 → fv k r ≤ 0) ∧ (∀ b : Nat, b < k.format.infRung → (rv k.format b : Int) ≤ S → (rv k.format b : Int) ≤ fv k r) ∧ (∀ b : Nat, b < k.format.infRung → 0 ≤ S → S ≤ (rv k.format b : Int) → fv k r ≤ (rv k.format b : Int))
theorem addsub {k : FloatKind} {r : Nat} {S : Int} (h : ∃ s q, r = k.format.word s q ∧ q ≤ k.format.infRung ∧ (S < 0 → s = true) ∧ (0 < S → s = false) ∧ (∀ z, S.natAbs ≤ rv k.format z → q ≤ z) ∧ (∀ z, z ≤ k.format.infRung → rv k.format z ≤ S.natAbs → z ≤ q))
    {z : Nat} (hz : S.natAbs ≤ rv k.format z) (hi : z < k.format.infRung) : SumB k r S z := by
  obtain ⟨s, q, rfl, _, hneg, hpos, hle, hge⟩ := h
  have hq : q ≤ z := hle z hz
  have hqi : q < k.format.infRung := Nat.lt_of_le_of_lt hq hi
  have hqs : q < k.format.signWeight := Nat.lt_trans hqi k.format.infRung_lt
  have h0 : S = 0 → q = 0 := by
    intro h
    have : q ≤ 0 := hle 0 (by simp [h])
    omega
  refine ⟨word_isNum _ hqi, by rw [fv_word_abs _ hqi]; exact rv_le hq, fun a => ?_, fun a => ?_, fun b hb hs => ?_, fun b hb h1 h2 => ?_⟩
  · rw [fv_word _ hqs]
    by_cases c : S = 0
    · rw [h0 c, rv_zero]; simp
    · rw [hpos (by omega)]; simp
  · rw [fv_word _ hqs]
    by_cases c : S = 0
    · rw [h0 c, rv_zero]; simp
    · rw [hneg (by omega)]; simp
  · have h3 : b ≤ q := hge b (Nat.le_of_lt hb) (by omega)
    have h4 := rv_le (f := k.format) h3
    rw [fv_word _ hqs]
    by_cases c : S = 0
    · have := h0 c
      subst this
      rw [rv_zero] at h4 ⊢
      simp
      omega
    · rw [hpos (by omega)]
      simp only [Bool.false_eq_true, if_false]
      omega
  · have h3 : q ≤ b := hle b (by omega)
    have h4 := rv_le (f := k.format) h3
    rw [fv_word _ hqs]
    by_cases c : S = 0
    · rw [h0 c, rv_zero]
      cases s <;> simp
    · rw [hpos (by omega)]
      simp only [Bool.false_eq_true, if_false]
      omega
theorem addB {k : FloatKind} {x y z : Nat} (hx : isNum k x = true) (hy : isNum k y = true) (hz : (fv k x + fv k y).natAbs ≤ rv k.format z) (hi : z < k.format.infRung) : SumB k (fop .add k x y) (fv k x + fv k y) z := addsub (fop_add hx hy) hz hi
theorem subB {k : FloatKind} {x y z : Nat} (hx : isNum k x = true) (hy : isNum k y = true) (hz : (fv k x - fv k y).natAbs ≤ rv k.format z) (hi : z < k.format.infRung) : SumB k (fop .sub k x y) (fv k x - fv k y) z := addsub (fop_sub hx hy) hz hi
def U : Nat := 2 ^ lp .f64
theorem U_eq : 2 ^ lp .f64 = U := rfl
theorem U_pos : 0 < U := Nat.two_pow_pos _
def one64 : Nat := 4607182418800017408
theorem rv_one : rv FloatKind.f64.format one64 = U := by decide +kernel
theorem fv_one : fv .f64 one64 = (U : Int) := by decide +kernel
theorem one_num : isNum .f64 one64 = true := by decide +kernel
theorem one_inf : one64 < FloatKind.f64.format.infRung := by decide +kernel
theorem narrow_some {c : Nat} (h : isNum .f64 c = true) (hb : (fv .f64 c).natAbs ≤ rv FloatKind.f64.format 5179139571476070400) : ∃ r, fconv .f64 .f32 c = some r := by
  obtain ⟨m, e, h1, h2⟩ := isNum_spell h
  have hn : isN .f64 c = false := by
    show (FloatKind.f64.format.read c).isNaN = false
    rw [h1]
    rfl
  have hr : nrung FloatKind.f32.format m (FloatKind.f64.format.leastPlace + (e : Int)) ≤ 2130706432 := by
    refine nrung_le (k1 := e) (k2 := 925) (by have a1 := lp_eq .f64; have a2 := lp_eq .f32; have a3 : lp .f64 = 1074 := by decide
                                              have a4 : lp .f32 = 149 := by decide
                                              omega) ?_
    have e1 : rv FloatKind.f32.format 2130706432 * 2 ^ 925 = rv FloatKind.f64.format 5179139571476070400 := by decide +kernel
    rw [e1, ← h2]
    exact hb
  have hlt : nrung FloatKind.f32.format m (FloatKind.f64.format.leastPlace + (e : Int)) < FloatKind.f32.format.infRung := Nat.lt_of_le_of_lt hr (by decide)
  have hnum : isNum .f32 (FloatKind.f32.format.nearest (sgn .f64 c) m (FloatKind.f64.format.leastPlace + (e : Int))) = true := by
    rw [nearest_eq]
    exact word_isNum _ hlt
  refine ⟨FloatKind.f32.format.nearest (sgn .f64 c) m (FloatKind.f64.format.leastPlace + (e : Int)), ?_⟩
  unfold fconv
  rw [hn]
  show floatToFloatBits .f64 c .f32 = _
  unfold floatToFloatBits
  rw [if_neg (by decide)]
  have hd : FloatKind.f64.decode c = .number (sgn .f64 c) m (FloatKind.f64.format.leastPlace + (e : Int)) := h1
  rw [hd]
  have hinf : (FloatKind.f32.decode (FloatKind.f32.encode (.number (sgn .f64 c) m (FloatKind.f64.format.leastPlace + (e : Int))))).isInfinity = false := by
    obtain ⟨m', e', h3, _⟩ := isNum_read hnum
    show (FloatKind.f32.format.read (FloatKind.f32.format.nearest (sgn .f64 c) m (FloatKind.f64.format.leastPlace + (e : Int)))).isInfinity = false
    rw [h3]
    rfl
  simp only [hinf, Bool.false_eq_true, if_false]
  rfl
theorem word_kind (k : FloatKind) (c : Nat) : isNum k c = true ∨ (∃ s, k.format.read c = .infinity s) ∨ isN k c = true := by
  unfold isNum isN FloatKind.decode
  cases k.format.read c with
  | number s m e => exact .inl rfl
  | infinity s => exact .inr (.inl ⟨s, rfl⟩)
  | nan s t => exact .inr (.inr rfl)
theorem narrow_nan {c : Nat} (h : isN .f64 c = true) : fconv .f64 .f32 c = some (nanOf .f32) := by unfold fconv; rw [h]; rfl
def expStep (t : Nat) (p kk : Nat) : Nat := fop .add .f64 one64 (fop .quo .f64 (fop .mul .f64 t p) kk)
def expKs : List Nat := [4622945017495814144, 4622382067542392832, 4621819117588971520, 4621256167635550208, 4620693217682128896, 4619567317775286272, 4618441417868443648, 4617315517961601024, 4616189618054758400, 4613937818241073152, 4611686018427387904, 4607182418800017408]
def expPoly (t p : Nat) : Nat := expKs.foldl (expStep t) p
def sqn : Nat → Nat → Nat
  | 0, p => p
  | n + 1, p => sqn n (fop .mul .f64 p p)
def inf64 : Nat := 9218868437227405312
def expI (y : Nat) : Nat := bif fcmp .gtr .f64 y 4641240890982006784 then inf64 else bif fcmp .lss .f64 y 13864612927836782592 then 0 else sqn 8 (expPoly (fop .quo .f64 y 4643211215818981376) one64)
def expS (y : Nat) : Nat := bif fcmp .neq .f64 y y then y else expI y
def expF (z : Nat) : Nat := (fconv .f64 .f32 (expI (wid z))).getD 0
def expOk (z : Nat) : Bool := isN .f32 z || fcmp .leq .f32 z 0
theorem expStep_in {t p kk : Nat} (ht : isNum .f64 t = true) (ht1 : -(U : Int) ≤ fv .f64 t) (ht2 : fv .f64 t ≤ 0) (hp : isNum .f64 p = true) (hp1 : 0 ≤ fv .f64 p) (hp2 : fv .f64 p ≤ (U : Int)) (hk : isNum .f64 kk = true) (hk1 : (U : Int) ≤ fv .f64 kk) :
    isNum .f64 (expStep t p kk) = true ∧ 0 ≤ fv .f64 (expStep t p kk) ∧ fv .f64 (expStep t p kk) ≤ (U : Int) := by
  have hU : 0 < U := U_pos
  obtain ⟨m1, m2, _, m4⟩ := mulB (z := one64) (X := U) (Y := U) ht hp (by omega) (by omega) (by rw [rv_one, U_eq]; exact Nat.le_refl _) one_inf
  have m4 := m4 ht2 hp1
  rw [rv_one] at m2
  obtain ⟨q1, q2, _, q4⟩ := quoB (z := one64) m1 hk (by omega) (by
    rw [rv_one, U_eq, Nat.mul_comm]
    exact Nat.mul_le_mul_left _ (by omega)) one_inf
  have q4 := q4 m4
  rw [rv_one] at q2
  have a := addB (z := one64) one_num q1 (by rw [rv_one, fv_one]; omega) one_inf
  obtain ⟨a1, a2, a3, _⟩ := a
  rw [rv_one] at a2
  rw [fv_one] at a3
  have a3 := a3 (by omega)
  exact ⟨a1, a3, by unfold expStep; omega⟩
theorem expKs_ok : expKs.all (fun kk => isNum .f64 kk && decide ((U : Int) ≤ fv .f64 kk)) = true := by decide +kernel
theorem expFold_in {t : Nat} (ht : isNum .f64 t = true) (ht1 : -(U : Int) ≤ fv .f64 t) (ht2 : fv .f64 t ≤ 0) : ∀ (l : List Nat), l.all (fun kk => isNum .f64 kk && decide ((U : Int) ≤ fv .f64 kk)) = true → ∀ p, isNum .f64 p = true → 0 ≤ fv .f64 p → fv .f64 p ≤ (U : Int) →
    isNum .f64 (l.foldl (expStep t) p) = true ∧ 0 ≤ fv .f64 (l.foldl (expStep t) p) ∧ fv .f64 (l.foldl (expStep t) p) ≤ (U : Int)
  | [], _, p, h1, h2, h3 => ⟨h1, h2, h3⟩
  | kk :: l, h, p, h1, h2, h3 => by
    rw [List.all_cons, Bool.and_eq_true, Bool.and_eq_true, decide_eq_true_eq] at h
    obtain ⟨a, b, c⟩ := expStep_in ht ht1 ht2 h1 h2 h3 h.1.1 h.1.2
    exact expFold_in ht ht1 ht2 l h.2 _ a b c
theorem sqn_in : ∀ (n p : Nat), isNum .f64 p = true → 0 ≤ fv .f64 p → fv .f64 p ≤ (U : Int) → isNum .f64 (sqn n p) = true ∧ 0 ≤ fv .f64 (sqn n p) ∧ fv .f64 (sqn n p) ≤ (U : Int)
  | 0, p, h1, h2, h3 => ⟨h1, h2, h3⟩
  | n + 1, p, h1, h2, h3 => by
    obtain ⟨m1, m2, m3, _⟩ := mulB (z := one64) (X := U) (Y := U) h1 h1 (by omega) (by omega) (by rw [rv_one, U_eq]; exact Nat.le_refl _) one_inf
    rw [rv_one] at m2
    have m3 := m3 h2 h2
    exact sqn_in n _ m1 m3 (by omega)
theorem fcmp_num_lss {k : FloatKind} {x y : Nat} (hx : isNum k x = true) (hy : isNum k y = true) : fcmp .lss k x y = decide (fv k x < fv k y) := by
  unfold fcmp
  rw [order_fv hx hy]
  exact cmp_lss _ _
theorem fcmp_num_leq {k : FloatKind} {x y : Nat} (hx : isNum k x = true) (hy : isNum k y = true) : fcmp .leq k x y = decide (fv k x ≤ fv k y) := by
  unfold fcmp
  rw [order_fv hx hy]
  exact cmp_leq _ _
theorem fcmp_num_geq {k : FloatKind} {x y : Nat} (hx : isNum k x = true) (hy : isNum k y = true) : fcmp .geq k x y = decide (fv k y ≤ fv k x) := by
  unfold fcmp
  rw [order_fv hx hy]
  exact cmp_geq _ _
theorem expI_in {y : Nat} (hy : isNum .f64 y = true) (h0 : fv .f64 y ≤ 0) : isNum .f64 (expI y) = true ∧ 0 ≤ fv .f64 (expI y) ∧ fv .f64 (expI y) ≤ (U : Int) := by
  have hU : 0 < U := U_pos
  have c1 : isNum .f64 4641240890982006784 = true := by decide +kernel
  have c2 : isNum .f64 13864612927836782592 = true := by decide +kernel
  have v1 : fv .f64 4641240890982006784 = 200 * (U : Int) := by decide +kernel
  have v2 : fv .f64 13864612927836782592 = -(200 * (U : Int)) := by decide +kernel
  have g1 : fcmp .gtr .f64 y 4641240890982006784 = false := by rw [gtr_fv hy c1, v1]; exact decide_eq_false (by omega)
  unfold expI
  rw [g1, cond_false, fcmp_num_lss hy c2, v2]
  by_cases h : fv .f64 y < -(200 * (U : Int))
  · rw [decide_eq_true h]
    have z1 : isNum .f64 0 = true := by decide +kernel
    have z2 : fv .f64 0 = 0 := by decide +kernel
    simp only [cond_true]
    exact ⟨z1, by rw [z2]; exact Int.le_refl _, by rw [z2]; omega⟩
  · rw [decide_eq_false h]
    simp only [cond_false]
    have c3 : isNum .f64 4643211215818981376 = true := by decide +kernel
    have v3 : fv .f64 4643211215818981376 = 256 * (U : Int) := by decide +kernel
    obtain ⟨q1, q2, _, q4⟩ := quoB (z := one64) hy c3 (by rw [v3]; omega) (by
      rw [rv_one, v3, U_eq, Nat.mul_comm]
      exact Nat.mul_le_mul_left _ (by omega)) one_inf
    rw [rv_one] at q2
    have q4 := q4 h0
    obtain ⟨p1, p2, p3⟩ := expFold_in q1 (by omega) q4 expKs expKs_ok one64 one_num (by rw [fv_one]; omega) (by rw [fv_one]; omega)
    exact sqn_in 8 _ p1 p2 p3
theorem wid_num {z : Nat} (h : isNum .f32 z = true) : isNum .f64 (wid z) = true ∧ (fv .f32 z ≤ 0 → fv .f64 (wid z) ≤ 0) ∧ (0 ≤ fv .f32 z → 0 ≤ fv .f64 (wid z)) ∧ (fv .f64 (wid z)).natAbs ≤ rv FloatKind.f64.format (5179139571476070400 + 4503599627370496) := by
  obtain ⟨m, e, h1, h2⟩ := isNum_spell h
  have hn : isN .f32 z = false := by
    show (FloatKind.f32.format.read z).isNaN = false
    rw [h1]
    rfl
  have hb := isNum_lt h
  have hr : nrung FloatKind.f64.format m (FloatKind.f32.format.leastPlace + (e : Int)) ≤ 5179139571476070400 + 4503599627370496 := by
    refine nrung_le (k1 := e + 925) (k2 := 0) (by have a1 := lp_eq .f64; have a2 := lp_eq .f32; have a3 : lp .f64 = 1074 := by decide
                                                  have a4 : lp .f32 = 149 := by decide
                                                  omega) ?_
    have e1 : rv FloatKind.f32.format 2139095040 * 2 ^ 925 = rv FloatKind.f64.format (5179139571476070400 + 4503599627370496) := by decide +kernel
    rw [Nat.pow_zero, Nat.mul_one, ← e1, Nat.pow_add, ← Nat.mul_assoc, ← h2]
    refine Nat.mul_le_mul_right _ ?_
    have e2 : (fv .f32 z).natAbs = rv FloatKind.f32.format (z % FloatKind.f32.format.signWeight) := by unfold fv; cases sgn .f32 z <;> simp
    rw [e2]
    exact rv_le (Nat.le_of_lt hb)
  have hlt : nrung FloatKind.f64.format m (FloatKind.f32.format.leastPlace + (e : Int)) < FloatKind.f64.format.infRung := Nat.lt_of_le_of_lt hr (by decide)
  have hw : wid z = FloatKind.f64.format.word (sgn .f32 z) (nrung FloatKind.f64.format m (FloatKind.f32.format.leastPlace + (e : Int))) := by
    rw [← nearest_eq]
    unfold wid fconv
    rw [hn]
    show (floatToFloatBits .f32 z .f64).getD 0 = _
    unfold floatToFloatBits
    rw [if_neg (by decide)]
    have hd : FloatKind.f32.decode z = .number (sgn .f32 z) m (FloatKind.f32.format.leastPlace + (e : Int)) := h1
    rw [hd]
    have hinf : (FloatKind.f64.decode (FloatKind.f64.encode (.number (sgn .f32 z) m (FloatKind.f32.format.leastPlace + (e : Int))))).isInfinity = false := by
      have hnum : isNum .f64 (FloatKind.f64.format.nearest (sgn .f32 z) m (FloatKind.f32.format.leastPlace + (e : Int))) = true := by
        rw [nearest_eq]
        exact word_isNum _ hlt
      obtain ⟨m', e', h3, _⟩ := isNum_read hnum
      show (FloatKind.f64.format.read (FloatKind.f64.format.nearest (sgn .f32 z) m (FloatKind.f32.format.leastPlace + (e : Int)))).isInfinity = false
      rw [h3]
      rfl
    simp only [hinf, Bool.false_eq_true, if_false]
    rfl
  have hs := Nat.lt_trans hlt FloatKind.f64.format.infRung_lt
  have h0 : fv .f32 z = 0 → nrung FloatKind.f64.format m (FloatKind.f32.format.leastPlace + (e : Int)) = 0 := by
    intro h
    rw [h] at h2
    have : m = 0 := by
      rcases Nat.mul_eq_zero.1 h2.symm with h3 | h3
      · exact h3
      · have := Nat.two_pow_pos e; omega
    subst this
    rfl
  rw [hw]
  refine ⟨word_isNum _ hlt, fun a => ?_, fun a => ?_, by rw [fv_word_abs _ hlt]; exact rv_le hr⟩
  · rw [fv_word _ hs]
    by_cases c : fv .f32 z = 0
    · rw [h0 c, rv_zero]; simp
    · rw [sgn_neg (w := z) (by omega)]; simp
  · rw [fv_word _ hs]
    by_cases c : fv .f32 z = 0
    · rw [h0 c, rv_zero]; simp
    · rw [sgn_pos (w := z) (by omega)]; simp
theorem wid_nan {z : Nat} (h : isN .f32 z = true) : wid z = nanOf .f64 := by unfold wid fconv; rw [h]; rfl
theorem wid_inf {z : Nat} {s : Bool} (h : FloatKind.f32.format.read z = .infinity s) : FloatKind.f64.format.read (wid z) = .infinity s := by
  have hn : isN .f32 z = false := by
    show (FloatKind.f32.format.read z).isNaN = false
    rw [h]
    rfl
  have hw : wid z = FloatKind.f64.format.word s FloatKind.f64.format.infRung := by
    unfold wid fconv
    rw [hn]
    show (floatToFloatBits .f32 z .f64).getD 0 = _
    unfold floatToFloatBits
    rw [if_neg (by decide)]
    have hd : FloatKind.f32.decode z = .infinity s := h
    rw [hd]
    rfl
  rw [hw]
  cases s <;> decide +kernel
theorem fcmp_nan_l {op : BinOp} {k : FloatKind} {x y : Nat} (h : isN k x = true) : fcmp op k x y = (match op with
    | .neq => true
    | _ => false) := by
  unfold fcmp Format.order
  rw [order_nan_left (show (k.format.read x).isNaN = true from h)]
  cases op <;> rfl
theorem expPoly_nan {t : Nat} (h : isN .f64 t = true) (p : Nat) : isN .f64 (expPoly t p) = true := by
  have key : ∀ (l : List Nat) (q : Nat), (l ≠ [] ∨ isN .f64 q = true) → isN .f64 (l.foldl (expStep t) q) = true := by
    intro l
    induction l with
    | nil => intro q hq; rcases hq with hq | hq
             · exact absurd rfl hq
             · exact hq
    | cons kk l ih =>
      intro q _
      refine ih _ (.inr ?_)
      unfold expStep
      rw [fop_nan_l (op := .mul) h, fop_nan_l (op := .quo) (isN_nanOf .f64), fop_nan_r (op := .add) (isN_nanOf .f64)]
      exact isN_nanOf .f64
  exact key expKs p (.inl (by decide))
theorem sqn_nan : ∀ (n p : Nat), isN .f64 p = true → isN .f64 (sqn n p) = true
  | 0, _, h => h
  | n + 1, p, h => sqn_nan n _ (by rw [fop_nan_l h]; exact isN_nanOf .f64)
theorem expI_nan {y : Nat} (h : isN .f64 y = true) : isN .f64 (expI y) = true := by
  have h1 : fcmp .gtr .f64 y 4641240890982006784 = false := fcmp_nan_l h
  have h2 : fcmp .lss .f64 y 13864612927836782592 = false := fcmp_nan_l h
  unfold expI
  rw [h1, h2]
  simp only [cond_false]
  refine sqn_nan 8 _ (expPoly_nan ?_ _)
  rw [fop_nan_l h]
  exact isN_nanOf .f64
theorem fcmp_neq_self {k : FloatKind} (x : Nat) : fcmp .neq k x x = isN k x := by
  cases h : isN k x with
  | true => exact fcmp_nan_l h
  | false =>
    rcases order_self k x with h1 | h1
    · rcases order_none h1 with h2 | h2 <;> (rw [h] at h2; cases h2)
    · simp [fcmp, h1]
theorem exp_narrow {z : Nat} (h : expOk z = true) : fconv .f64 .f32 (expI (wid z)) = some (expF z) ∧ fconv .f64 .f32 (expS (wid z)) = some (expF z) := by
  have key : fconv .f64 .f32 (expI (wid z)) = some (expF z) := by
    have hsome : ∃ r, fconv .f64 .f32 (expI (wid z)) = some r := by
      rcases word_kind .f32 z with h1 | ⟨s, h1⟩ | h1
      · obtain ⟨w1, w2, _⟩ := wid_num h1
        have hz : fv .f32 z ≤ 0 := by
          have z1 : isNum .f32 0 = true := by decide
          have z2 : fv .f32 0 = 0 := by decide
          unfold expOk at h
          rw [Bool.or_eq_true] at h
          rcases h with h | h
          · exfalso
            obtain ⟨m, e, h3, _⟩ := isNum_read h1
            have : (FloatKind.f32.format.read z).isNaN = true := h
            rw [h3] at this
            cases this
          · rw [fcmp_num_leq h1 z1, z2] at h
            exact of_decide_eq_true h
        obtain ⟨e1, e2, e3⟩ := expI_in w1 (w2 hz)
        refine narrow_some e1 ?_
        have : U ≤ rv FloatKind.f64.format 5179139571476070400 := by decide +kernel
        omega
      · have hw := wid_inf h1
        have hs : s = true := by
          cases s with
          | true => rfl
          | false =>
            exfalso
            unfold expOk at h
            have a1 : isN .f32 z = false := by
              show (FloatKind.f32.format.read z).isNaN = false
              rw [h1]
              rfl
            have a2 : fcmp .leq .f32 z 0 = false := by
              unfold fcmp Format.order
              rw [h1]
              rfl
            rw [a1, a2] at h
            cases h
        subst hs
        have b1 : fcmp .gtr .f64 (wid z) 4641240890982006784 = false := by
          unfold fcmp Format.order
          rw [hw]
          rfl
        have b2 : fcmp .lss .f64 (wid z) 13864612927836782592 = true := by
          unfold fcmp Format.order
          rw [hw]
          rfl
        unfold expI
        rw [b1, b2]
        simp only [cond_false, cond_true]
        exact ⟨0, by decide +kernel⟩
      · rw [wid_nan h1]
        exact ⟨_, narrow_nan (expI_nan (isN_nanOf .f64))⟩
    obtain ⟨r, hr⟩ := hsome
    unfold expF
    rw [hr]
    rfl
  refine ⟨key, ?_⟩
  unfold expS
  rw [fcmp_neq_self]
  cases hn : isN .f64 (wid z) with
  | false => exact key
  | true =>
    rw [narrow_nan (expI_nan hn)] at key
    rw [cond_true, narrow_nan hn]
    exact key
end Go.Sm
namespace Go.Sm
open Go Ieee
def whole (y : Nat) : Nat := bif fcmp .eql .f64 (fround .zero y) 0 then 0 else fround .zero y
def part (y : Nat) : Nat := bif fcmp .lss .f64 (fop .sub .f64 y (whole y)) 0 then fop .add .f64 (fop .sub .f64 y (whole y)) one64 else fop .sub .f64 y (whole y)
theorem fneg_fv {k : FloatKind} {w : Nat} (h : isNum k w = true) : isNum k (fneg k w) = true ∧ (fv k (fneg k w)).natAbs = (fv k w).natAbs := by
  have hn : isN k w = false := by
    obtain ⟨m, e, h1, _⟩ := isNum_read h
    show (k.format.read w).isNaN = false
    rw [h1]
    rfl
  have e1 : fneg k w = w ^^^ k.format.signWeight := by unfold fneg; rw [hn]; rfl
  have hm : fneg k w % k.format.signWeight = w % k.format.signWeight := by rw [e1]; exact negFloat_mod _ _
  have hlt := isNum_lt h
  refine ⟨isNum_of_lt (by rw [hm]; exact hlt), ?_⟩
  have key : ∀ x : Nat, (fv k x).natAbs = rv k.format (x % k.format.signWeight) := by
    intro x
    unfold fv
    cases sgn k x <;> simp
  rw [key, key, hm]
end Go.Sm
namespace Go.Sm
open Go
def infOf (n : Int) : Nat := bif decide (n ≥ 0) then 9218868437227405312 else 18442240474082181120
theorem neg_sq_ok (u : Nat) : expOk (fop .sub .f32 0 (fop .mul .f32 u u)) = true := by
  have z1 : isNum .f32 0 = true := by decide
  have z2 : fv .f32 0 = 0 := by decide
  unfold expOk
  rcases word_kind .f32 u with h | ⟨s, h⟩ | h
  · obtain ⟨q, e, hi, _, _⟩ := fop_mul h h
    rw [Bool.xor_self] at e
    rw [e]
    rcases Nat.lt_or_ge q FloatKind.f32.format.infRung with hq | hq
    · have n1 : isNum .f32 (FloatKind.f32.format.word false q) = true := word_isNum _ hq
      have v1 : fv .f32 (FloatKind.f32.format.word false q) = (rv FloatKind.f32.format q : Int) := by rw [fv_word _ (Nat.lt_trans hq FloatKind.f32.format.infRung_lt)]; rfl
      obtain ⟨a1, _, _, a4, _⟩ := subB (z := q) z1 n1 (by rw [z2, v1]; omega) hq
      rw [fcmp_num_leq a1 z1, z2, decide_eq_true (a4 (by rw [z2, v1]; omega)), Bool.or_true]
    · have : q = FloatKind.f32.format.infRung := Nat.le_antisymm hi hq
      subst this
      decide +kernel
  · have e : fop .mul .f32 u u = 2139095040 := by
      have h2 : floatBits .mul .f32 u u = some 2139095040 := by
        show FloatKind.f32.format.mul u u = _
        unfold Ieee.Format.mul
        rw [h]
        cases s <;> decide +kernel
      exact fop_some h2
    rw [e]
    decide +kernel
  · rw [fop_nan_l h, fop_nan_r (isN_nanOf .f32), isN_nanOf]
    rfl
def lineU (l : LineV) (x : Nat) : Nat := fop .quo .f32 (fop .sub .f32 x l.p) l.w
def bellV (l : LineV) (x : Nat) : Nat := fop .mul .f32 l.h (expF (fop .sub .f32 0 (fop .mul .f32 (lineU l x) (lineU l x))))
def hillV (l : LineV) (x : Nat) : Nat := fop .quo .f32 l.h (fop .add .f32 1065353216 (fop .mul .f32 (lineU l x) (lineU l x)))
def lineV (l : LineV) (x : Nat) : Nat :=
  bif l.k == 0 then bellV l x else bif l.k == 1 then hillV l x else bif l.k == 2 then fop .mul .f32 1056964608 (fop .add .f32 (bellV l x) (hillV l x))
  else bif fcmp .gtr .f32 (mag (lineU l x)) 1065353216 then 0 else fop .mul .f32 l.h (fop .sub .f32 1065353216 (mag (lineU l x)))
def lineOk (l : LineV) (x : Nat) : Bool := okLine l && (fin x && fin (lineV l x))
def slice (xs : List Nat) (a b : Int) : List Nat := (xs.drop a.toNat).take (b.toNat - a.toNat)
end Go.Sm
namespace Go.Sm
open Go
instance : Inhabited LineV := ⟨⟨0, 0, 0, 0⟩⟩
def noLine : LineV := ⟨0, 0, 0, 0⟩
def notLine (l : LineV) : Bool := !okLine l
theorem notLine_fun : notLine = fun l => !okLine l := rfl
def linesIn (xs : List LineV) (a b : Int) : Bool := decide ((xs.length : Int) ≥ a) && (decide ((xs.length : Int) ≤ b) && xs.all okLine)
def linesOk (xs : List LineV) : Bool := decide (xs.length ≤ 12) && xs.all okLine
theorem linesIn_12 (xs : List LineV) : linesIn xs 0 12 = linesOk xs := by
  unfold linesIn linesOk
  have h1 : ((xs.length : Int) ≥ 0) := by omega
  have h2 : ((xs.length : Int) ≤ 12) ↔ xs.length ≤ 12 := by omega
  simp [h1, h2]
theorem fin_add {a b : Nat} (h : fin (fop .add .f32 a b) = true) : fin a = true ∧ fin b = true := by
  have nan : fop .add .f32 a b = nanOf .f32 → False := by
    intro e
    rw [e] at h
    revert h
    decide +kernel
  have key : ∀ (s : Bool), FloatKind.f32.format.read (fop .add .f32 a b) = .infinity s → False := by
    intro s e
    rw [fin_isNum] at h
    unfold isNum at h
    rw [e] at h
    cases h
  rw [fin_isNum a, fin_isNum b]
  rcases word_kind .f32 a with ha | ⟨s, ha⟩ | ha
  · rcases word_kind .f32 b with hb | ⟨t, hb⟩ | hb
    · exact ⟨ha, hb⟩
    · exfalso
      obtain ⟨m, e, h1, _⟩ := isNum_read ha
      have h2 : floatBits .add .f32 a b = some (FloatKind.f32.format.word t FloatKind.f32.format.infRung) := by
        show FloatKind.f32.format.add a b = _
        unfold Ieee.Format.add
        rw [h1, hb]
        rfl
      refine key t ?_
      rw [fop_some h2]
      cases t <;> decide +kernel
    · exact absurd (fop_nan_r hb) nan
  · exfalso
    rcases word_kind .f32 b with hb | ⟨t, hb⟩ | hb
    · obtain ⟨m, e, h1, _⟩ := isNum_read hb
      have h2 : floatBits .add .f32 a b = some (FloatKind.f32.format.word s FloatKind.f32.format.infRung) := by
        show FloatKind.f32.format.add a b = _
        unfold Ieee.Format.add
        rw [h1, ha]
        rfl
      refine key s ?_
      rw [fop_some h2]
      cases s <;> decide +kernel
    · cases hst : (s == t) with
      | true =>
        have hst2 : s = t := eq_of_beq hst
        subst hst2
        have h2 : floatBits .add .f32 a b = some (FloatKind.f32.format.word s FloatKind.f32.format.infRung) := by
          show FloatKind.f32.format.add a b = _
          unfold Ieee.Format.add
          rw [ha, hb]
          cases s <;> decide +kernel
        refine key s ?_
        rw [fop_some h2]
        cases s <;> decide +kernel
      | false =>
        have h2 : floatBits .add .f32 a b = none := by
          show FloatKind.f32.format.add a b = _
          unfold Ieee.Format.add
          rw [ha, hb]
          cases s <;> cases t <;> first | rfl | (cases hst)
        exact nan (by unfold fop; rw [h2]; rfl)
    · exact nan (fop_nan_r hb)
  · exact absurd (fop_nan_l ha) nan
theorem fin_fold {α : Type} (g : α → Nat) : ∀ (xs : List α) (s : Nat), fin (xs.foldl (fun a x => fop .add .f32 a (g x)) s) = true → fin s = true ∧ xs.all (fun x => fin (g x)) = true
  | [], s, h => ⟨h, rfl⟩
  | x :: xs, s, h => by
    obtain ⟨h1, h2⟩ := fin_fold g xs _ h
    obtain ⟨h3, h4⟩ := fin_add h1
    refine ⟨h3, ?_⟩
    rw [List.all_cons, h4, h2]
    rfl
theorem repE_list {α σ : Type} (d : α) (p : α → Bool) (f : σ → α → σ) (xs : List α) : ∀ (m j : Nat) (s : σ), j + m = xs.length → repE (fun j s => bif p (xs.getD j d) then some (f s (xs.getD j d)) else none) m j s = bif (xs.drop j).all p then some ((xs.drop j).foldl f s) else none := by
  intro m
  induction m with
  | zero =>
    intro j s h
    rw [List.drop_of_length_le (by omega)]
    rfl
  | succ m ih =>
    intro j s h
    have hlt : j < xs.length := by omega
    have e : xs.getD j d = xs[j] := by simp [List.getD, hlt]
    rw [repE_succ, List.drop_eq_getElem_cons hlt, List.all_cons, List.foldl_cons, e]
    cases hp : p xs[j] with
    | false => rfl
    | true => exact ih (j + 1) _ (by omega)
def linesSum (xs : List LineV) (x : Nat) : Nat := xs.foldl (fun a l => fop .add .f32 a (lineV l x)) 0
def linesAtOk (xs : List LineV) (x : Nat) : Bool := linesOk xs && (fin x && fin (linesSum xs x))
theorem lineOk_all {xs : List LineV} {x : Nat} (h : xs.all okLine = true) (hx : fin x = true) : xs.all (fun l => lineOk l x) = xs.all (fun l => fin (lineV l x)) := by
  induction xs with
  | nil => rfl
  | cons l xs ih =>
    rw [List.all_cons, Bool.and_eq_true] at h
    rw [List.all_cons, List.all_cons, ih h.2]
    unfold lineOk
    rw [h.1, hx]
    rfl
theorem sum_notFin {xs : List LineV} {x : Nat} (h : xs.all okLine = true) (hx : fin x = true) (ha : xs.all (fun l => lineOk l x) = false) : fin (linesSum xs x) = false := by
  cases hs : fin (linesSum xs x) with
  | false => rfl
  | true =>
    have := (fin_fold (fun l => lineV l x) xs 0 hs).2
    rw [lineOk_all h hx] at ha
    rw [this] at ha
    cases ha
end Go.Sm
namespace Go.Sm
open Go
theorem repE_gen {σ : Type} (p : Nat → Bool) (f : Nat → σ → σ) : ∀ (m j : Nat) (s : σ), repE (fun j s => bif p j then some (f j s) else none) m j s = bif (fromTo j m).all p then some (rep f m j s) else none := by
  intro m
  induction m with
  | zero => intro j s; rfl
  | succ m ih =>
    intro j s
    rw [repE_succ, fromTo_succ, List.all_cons, rep_succ]
    cases hp : p j with
    | false => rfl
    | true => exact ih (j + 1) _
theorem fromTo_get {α : Type} (g : Nat → α) (d : α) {n j : Nat} (h : j < n) : ((fromTo 0 n).map g).getD j d = g j := by
  have h2 : j < ((fromTo 0 n).map g).length := by rw [List.length_map, fromTo_len]; exact h
  rw [List.getD_eq_getElem?_getD, List.getElem?_eq_getElem h2, Option.getD_some, List.getElem_map]
  unfold fromTo
  rw [List.getElem_range']
  congr 1
  omega
def placeAt (b d : Nat) (j : Int) : Nat := fop .add .f32 b (fop .mul .f32 (fint .f32 j) d)
def spAll (xs : List LineV) (b d : Nat) (n : Nat) : Bool := (fromTo 0 n).all fun j => linesAtOk xs (placeAt b d (j : Int))
def spAt (xs : List LineV) (b d : Nat) (j : Nat) : Nat := linesSum xs (placeAt b d (j : Int))
def spX (xs : List LineV) (b d : Nat) (n : Int) : List Nat := (fromTo 0 n.toNat).map (spAt xs b d)
def spOk (xs : List LineV) (b d : Nat) (n : Int) : Bool := linesOk xs && (fin b && (fin d && (within n 1 128 && spAll xs b d n.toNat)))
theorem spX_len (xs : List LineV) (b d : Nat) (n : Int) : (spX xs b d n).length = n.toNat := by simp [spX, fromTo_len]
theorem sp_run (xs : List LineV) (b d : Nat) (n : Nat) : repE (fun j zs => bif linesAtOk xs (placeAt b d (j : Int)) then some (zs ++ [spAt xs b d j]) else none) n 0 [] = bif spAll xs b d n then some ((fromTo 0 n).map (spAt xs b d)) else none := by
  rw [repE_gen (fun j => linesAtOk xs (placeAt b d (j : Int))) (fun j zs => zs ++ [spAt xs b d j]), rep_map, List.nil_append]
  rfl
def sqTo (y z a : Nat) : Nat := fop .add .f32 a (fop .mul .f32 (fop .sub .f32 y z) (fop .sub .f32 y z))
def restSum (xs : List LineV) (ys : List Nat) (b d : Nat) : Nat := rep (fun j a => sqTo (ys.getD j 0) (spAt xs b d j) a) ys.length 0 0
def restOk (xs : List LineV) (ys : List Nat) (b d : Nat) : Bool := linesOk xs && (listOk ys 1 && (fin b && (fin d && (spAll xs b d ys.length && fin (restSum xs ys b d)))))
theorem rest_run (xs : List LineV) (ys : List Nat) (b d : Nat) : repE (fun j a => bif linesAtOk xs (placeAt b d (j : Int)) then some (sqTo (ys.getD j 0) (spAt xs b d j) a) else none) ys.length 0 0 = bif spAll xs b d ys.length then some (restSum xs ys b d) else none :=
  repE_gen (fun j => linesAtOk xs (placeAt b d (j : Int))) (fun j a => sqTo (ys.getD j 0) (spAt xs b d j) a) ys.length 0 0
theorem rest_made (xs : List LineV) (ys : List Nat) (b d : Nat) {n : Nat} (h : n = ys.length) : rep (fun j a => sqTo (ys.getD j 0) (((fromTo 0 n).map (spAt xs b d)).getD j 0) a) ys.length 0 0 = restSum xs ys b d := by
  unfold restSum
  refine rep_congr (lo := 0) (hi := ys.length) (fun j s _ hj => ?_) ys.length 0 0 (Nat.le_refl 0) (by omega)
  rw [fromTo_get _ _ (show j < n by omega)]
end Go.Sm
namespace Go.Sm
open Go
def BB : Nat := 4503599627370496
def c15 : Nat := 4609434218613702656
end Go.Sm
namespace Go.Sm
open Go
def PP (i : Nat) : Nat := 4607182418800017408 + i * BB
def bd (i w : Nat) : Prop := isNum .f64 w = true ∧ (fv .f64 w).natAbs ≤ rv FloatKind.f64.format (PP i)
end Go.Sm
namespace Go.Sm
open Go
theorem zero32 : isNum .f32 0 = true ∧ fv .f32 0 = 0 := by decide
end Go.Sm
namespace Go.Sm
open Go
def small (z : Nat) : Prop := isNum .f32 z = true ∧ (fv .f32 z).natAbs ≤ rv FloatKind.f32.format 1073741824
end Go.Sm
namespace Go.Sm
open Go Ieee
def wide : Nat := 140737488351232
end Go.Sm
namespace Go.Sm
open Go
def half (td : List Bool) (e : EdgeV) : Bool := !(td.getD e.f.toNat false == td.getD e.t.toNat false)
def tell (s : List Nat × List Bool) (e : EdgeV) : List Nat × List Bool := match s.2.getD e.f.toNat false with
  | true => (s.1.set e.t.toNat (fop .add .f32 (s.1.getD e.f.toNat 0) e.p), s.2.set e.t.toNat true)
  | false => (s.1.set e.f.toNat (fop .sub .f32 (s.1.getD e.t.toNat 0) e.p), s.2.set e.f.toNat true)
def rounds (es : List EdgeV) : Nat → List Nat × List Bool → Option (List Nat × List Bool)
  | 0, s => some s
  | n + 1, s => match es.find? (half s.2) with
    | some e => rounds es n (tell s e)
    | none => none
end Go.Sm
namespace Go.Sm
open Go
theorem mag_num {c : Nat} (h : isNum .f32 c = true) : isNum .f32 (mag c) = true ∧ (fv .f32 (mag c)) = ((fv .f32 c).natAbs : Int) := by
  have z := zero32
  unfold mag
  have hl : fcmp .lss .f32 c 0 = decide (fv .f32 c < 0) := by
    unfold fcmp
    dsimp only
    rw [order_fv h z.1, z.2]
    exact cmp_lss _ _
  rw [hl]
  cases hd : decide (fv .f32 c < 0) with
  | true =>
    have h1 := of_decide_eq_true hd
    obtain ⟨a, b⟩ := fneg_fv h
    refine ⟨a, ?_⟩
    have hn : isN .f32 c = false := by
      obtain ⟨m, e, h1, _⟩ := isNum_read h
      show (FloatKind.f32.format.read c).isNaN = false
      rw [h1]
      rfl
    have hr := read_neg hn
    obtain ⟨m, e, h2, _⟩ := isNum_read h
    obtain ⟨m', e', h3, _⟩ := isNum_read a
    have h2' : Ieee.single.read c = .number (sgn .f32 c) m (FloatKind.f32.format.leastPlace + (e : Int)) := h2
    have h3' : Ieee.single.read (fneg .f32 c) = .number (sgn .f32 (fneg .f32 c)) m' (FloatKind.f32.format.leastPlace + (e' : Int)) := h3
    rw [h2', h3'] at hr
    have hs : sgn .f32 (fneg .f32 c) = !sgn .f32 c := by
      unfold Ieee.Datum.opposite at hr
      injection hr
    have hsc : sgn .f32 c = true := by
      cases hb : sgn .f32 c with
      | true => rfl
      | false =>
        have h5 := h1
        unfold fv at h5
        rw [hb] at h5
        simp at h5
        omega
    have hpos : 0 ≤ fv .f32 (fneg .f32 c) := by
      unfold fv
      rw [hs, hsc]
      simp
    dsimp only
    omega
  | false =>
    have h1 := of_decide_eq_false hd
    refine ⟨h, ?_⟩
    dsimp only
    omega
def gtM (a b : Nat) : Bool := fcmp .gtr .f32 (mag a) (mag b)
def sb (a q b : Nat) : Nat := fop .sub .f32 a (fop .mul .f32 q b)
theorem three {l : List Nat} (h : l.length = 3) : ∃ a b c, l = [a, b, c] := by
  match l, h with
  | [a, b, c], _ => exact ⟨a, b, c, rfl⟩
end Go.Sm
