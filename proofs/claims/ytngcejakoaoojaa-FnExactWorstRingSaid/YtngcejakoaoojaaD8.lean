/- What the functions hand back: level 7. -/
import Derived.Test.YtngcejakoaoojaaD7
namespace Go.Sm.Ytngcejakoaoojaa
open Go Go.Sm Go.RowKit Go.Proofs

/-! impl.WorstRing -/
def a29 : Ann := ann [(6, [6, 8, 19, 20, 21], [8])] [4, 5] 0
def lp29 : St → (Ex → St → R) → R := fun s k => match s with
  | ⟨[(6, .fv (.own 0)), (8, .fv (.el (.sc (.fl .f32 wo)))), (19, .fv (.vw (some 1) ⟨.edge, es⟩)), (20, .fv (.el (.sc (.int .i64 n)))), (21, .fv (.el (.sc (.int .i64 i))))], [some ⟨29, ⟨.f32, out⟩⟩]⟩ => (match ((decide (n = (es.length : Int)) && (decide (i = 0) && (Nat.ble es.length big && es.all (edgeIn (out : List Nat).length)))) : Bool) with
    | true => k (.exit 0) ⟨[(8, .fv (.el (.sc (.fl .f32 (ringW (out : List Nat) es wo)))))], []⟩
    | false => none)
  | _ => none
def l29 : Loops := fun key s k => bif Nat.beq key 6 then lp29 s k else none
theorem st29 (wo : Nat) (es : List EdgeV) (n : Int) (i : Int) (out : List Nat) (m : Nat) (k : Ex → St → R) : iterK a29 [6, 8, 19, 20, 21] [8] (codeK T7 a29 l29 Try.f29.ntmps (loopAt Try.f29 0)) (m + 1) ⟨[(6, .fv (.own 0)), (8, .fv (.el (.sc (.fl .f32 wo)))), (19, .fv (.vw (some 1) ⟨.edge, es⟩)), (20, .fv (.el (.sc (.int .i64 n)))), (21, .fv (.el (.sc (.int .i64 i))))], [some ⟨29, ⟨.f32, out⟩⟩]⟩ k = (match (decide ((i : Int) < n) : Bool) with
  | true => (match (decide (0 ≤ (i : Int) ∧ (i : Int) < (es.length : Int)) && true : Bool) with
    | true => (match (es : List EdgeV)[Int.toNat i]? with
      | some x1 => (match (decide (0 ≤ (x1.t : Int) ∧ (x1.t : Int) < (out.length : Int)) && true : Bool) with
        | true => (match (out : List Nat)[Int.toNat x1.t]? with
          | some x2 => (match (decide (0 ≤ (x1.f : Int) ∧ (x1.f : Int) < (out.length : Int)) && true : Bool) with
            | true => (match (out : List Nat)[Int.toNat x1.f]? with
              | some x3 => iterK a29 [6, 8, 19, 20, 21] [8] (codeK T7 a29 l29 Try.f29.ntmps (loopAt Try.f29 0)) m ⟨[(6, .fv (.own 0)), (8, .fv (.el (.sc (.fl .f32 (fmax .f32 wo (mag (fop .sub .f32 (fop .sub .f32 x2 x3) x1.p))))))), (19, .fv (.vw (some 1) ⟨.edge, es⟩)), (20, .fv (.el (.sc (.int .i64 n)))), (21, .fv (.el (.sc (.int .i64 (IntKind.i64.wrap (i + 1))))))], [some ⟨29, ⟨.f32, out⟩⟩]⟩ k
              | none => none)
            | false => none)
          | none => none)
        | false => none)
      | none => none)
    | false => none)
  | false => k (.exit 0) ⟨[(8, .fv (.el (.sc (.fl .f32 wo))))], []⟩) := by kernel_rfl
theorem ind29 (es : List EdgeV) (out : List Nat) (hall : es.all (edgeIn out.length) = true) (hx : Nat.ble es.length big = true) (k : Ex → St → R) : ∀ (q j wo : Nat), j + q = es.length → iterK a29 [6, 8, 19, 20, 21] [8] (codeK T7 a29 l29 Try.f29.ntmps (loopAt Try.f29 0)) (q + 1) ⟨[(6, .fv (.own 0)), (8, .fv (.el (.sc (.fl .f32 wo)))), (19, .fv (.vw (some 1) ⟨.edge, es⟩)), (20, .fv (.el (.sc (.int .i64 (es.length : Int))))), (21, .fv (.el (.sc (.int .i64 (j : Int)))))], [some ⟨29, ⟨.f32, out⟩⟩]⟩ k =
    k (.exit 0) ⟨[(8, .fv (.el (.sc (.fl .f32 (ringW out (es.drop j) wo)))))], []⟩ := by
  intro q
  induction q with
  | zero =>
    intro j wo hj
    have h1 : ¬ ((j : Int) < (es.length : Int)) := by omega
    rw [st29, List.drop_of_length_le (show es.length ≤ j by omega)]
    simp only [h1, decide_false]
    rfl
  | succ q ih =>
    intro j wo hj
    have hlt : j < es.length := by omega
    have h1 : ((j : Int) < (es.length : Int)) := by omega
    have h2 : (0 : Int) ≤ (j : Int) := by omega
    rw [st29, wrap_succ hlt hx]
    have h3 : es[Int.toNat (j : Int)]? = some es[j] := by simp [hlt]
    have hq : edgeIn out.length es[j] = true := List.all_eq_true.1 hall es[j] (List.getElem_mem hlt)
    obtain ⟨f0, f1⟩ := edgeIn_f hq
    obtain ⟨t0, t1⟩ := edgeIn_t hq
    have o1 : out[Int.toNat es[j].f]? = some (out.getD es[j].f.toNat 0) := getq (by omega)
    have o2 : out[Int.toNat es[j].t]? = some (out.getD es[j].t.toNat 0) := getq (by omega)
    have hs := ih (j + 1) (fmax .f32 wo (ringD out es[j])) (by omega)
    rw [List.drop_eq_getElem_cons hlt]
    simp only [h1, h2, h3, f0, f1, t0, t1, o1, o2, and_self, decide_true, Bool.and_true]
    exact hs

theorem lk29 : LOK T7 a29 l29 Try.f29.ntmps (loopAt Try.f29 0) := by
  intro ins outs hA s k out h
  have hA' : ([6, 8, 19, 20, 21], [8]) = (ins, outs) := Option.some.inj ((show a29.lp (firstRegion (loopAt Try.f29 0)) = some ([6, 8, 19, 20, 21], [8]) by kernel_rfl).symm.trans hA)
  cases hA'
  have hk : firstRegion (loopAt Try.f29 0) = 6 := by kernel_rfl
  rw [hk] at h
  change lp29 s k = some out at h
  unfold lp29 at h
  split at h
  · rename_i wo es n i out
    cases hg : (decide (n = (es.length : Int)) && (decide (i = 0) && (Nat.ble es.length big && es.all (edgeIn out.length)))) with
    | false => rw [hg] at h; cases h
    | true =>
      rw [hg] at h
      simp only [Bool.and_eq_true, decide_eq_true_eq] at hg
      obtain ⟨rfl, rfl, hx, hall⟩ := hg
      refine ⟨es.length + 1, ?_⟩
      have hh := ind29 es out hall hx k es.length 0 wo (by omega)
      simp only [List.drop_zero] at hh
      exact hh.trans h
  · cases h
theorem e29 (v : Int) (es : List EdgeV) : runFn T7 a29 l29 Try.f29 [.el (.sc (.int .i64 v)), .vw none ⟨.edge, es⟩] = (match (!(elOk v es) : Bool) with
  | true => some ⟨[.el (.sc (.fl .f32 0)), .el (.sc (.bo false))], none⟩
  | false => (match ((decide ((es.length : Int) = (es.length : Int)) && (decide (0 = 0) && (Nat.ble es.length big && es.all (edgeIn (orNil (elOk v es) (elList v es) : List Nat).length)))) : Bool) with
    | true => some ⟨[.el (.sc (.fl .f32 (numOf (ringW (orNil (elOk v es) (elList v es) : List Nat) es 0)))), .el (.sc (.bo (fin (ringW (orNil (elOk v es) (elList v es) : List Nat) es 0))))], none⟩
    | false => none)) := by kernel_rfl
theorem s29 (v : Int) (es : List EdgeV) : runFn T7 a29 l29 Try.f29 [.el (.sc (.int .i64 v)), .vw none ⟨.edge, es⟩] = some ⟨[.el (.sc (.fl .f32 (orZero (wrOk v es) (wrX v es)))), .el (.sc (.bo (wrOk v es)))], none⟩ := by
  rw [e29]
  unfold wrOk
  cases ho : elOk v es with
  | false => rfl
  | true =>
    obtain ⟨hin, hl⟩ := elList_in ho
    have hb : Nat.ble es.length big = true := big_of (by omega)
    have ho2 : orNil true (elList v es) = elList v es := rfl
    simp only [ho2, hb, hin, decide_true, Bool.and_self, Bool.true_and, Bool.not_true]
    have hf := ring_fin (elList v es) es 0 (by unfold nn; decide)
    rw [show fin 0 = true by decide +kernel, Bool.true_and] at hf
    have hf2 : fin (ringW (elList v es) es 0) = es.all (ringF (elList v es)) := hf
    unfold wrX
    rw [← hf2]
    rfl
theorem c29 (v : Int) (es : List EdgeV) (k : List RV → R) (out : Out) (h : k [.el (.sc (.fl .f32 (orZero (wrOk v es) (wrX v es)))), .el (.sc (.bo (wrOk v es)))] = some out) : ∃ rs, Real Try.prog 29 ∧ COK Try.prog 29 [.el (.sc (.int .i64 v)), .vw none ⟨.edge, es⟩] rs ∧ k rs = some out := by
  exact ⟨_, real Try.func29 (by kernel_rfl), fn_ok tok7 (A := a29) (L := l29) (r := none) Try.func29 (by kernel_rfl) (by kernel_rfl) (loops1 (by kernel_rfl) lk29) (by rw [s29]), h⟩

def S8 : SFn := fun f args k => match f, args with
  | 29, [.el (.sc (.int .i64 v)), .vw none ⟨.edge, es⟩] => k [.el (.sc (.fl .f32 (orZero (wrOk v es) (wrX v es)))), .el (.sc (.bo (wrOk v es)))]
  | _, _ => S7 f args k
abbrev M8 : MFn := M7
def T8 : TT := tab.T S8 muts M8
theorem tok8 : TOK Try.prog T8 := by
  refine (tab_ok tabok).tok (fun f args k out h => ?_) (fun f vec args k out h => ?_)
  · change S8 f args k = some out at h
    unfold S8 at h
    split at h
    · exact (fun k out h => cok_call (c29 _ _ k out h)) k out h
    · exact tok7.S f args k out h
  · exact tok7.M f vec args k out h

end Go.Sm.Ytngcejakoaoojaa
