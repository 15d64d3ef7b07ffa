/- What the functions hand back: level 3. -/
import Derived.Test.YtngcejakoaoojaaD3
namespace Go.Sm.Ytngcejakoaoojaa
open Go Go.Sm Go.RowKit Go.Proofs

/-! spec.WorstRing -/
def a28 : Ann := ann [(6, [1, 6, 8, 20, 21], [8])] [4, 5] 0
def lp28 : St → (Ex → St → R) → R := fun s k => match s with
  | ⟨[(1, .fv (.vw (some 1) ⟨.edge, es⟩)), (6, .fv (.own 0)), (8, .fv (.el (.sc (.fl .f32 wo)))), (20, .fv (.el (.sc (.int .i64 n)))), (21, .fv (.el (.sc (.int .i64 i))))], [some ⟨29, ⟨.f32, out⟩⟩]⟩ => (match ((decide (n = (es.length : Int)) && (decide (i = 0) && (Nat.ble es.length big && es.all (edgeIn (out : List Nat).length)))) : Bool) with
    | true => (match (es.all (ringF (out : List Nat)) : Bool) with
      | true => k (.exit 0) ⟨[(8, .fv (.el (.sc (.fl .f32 (ringW (out : List Nat) es wo)))))], []⟩
      | false => k .ret ⟨[(4, .fv (.el (.sc (.fl .f32 0)))), (5, .fv (.el (.sc (.bo false))))], []⟩)
    | false => none)
  | _ => none
def l28 : Loops := fun key s k => bif Nat.beq key 6 then lp28 s k else none
theorem st28 (es : List EdgeV) (wo : Nat) (n : Int) (i : Int) (out : List Nat) (m : Nat) (k : Ex → St → R) : iterK a28 [1, 6, 8, 20, 21] [8] (codeK T3 a28 l28 Try.f28.ntmps (loopAt Try.f28 0)) (m + 1) ⟨[(1, .fv (.vw (some 1) ⟨.edge, es⟩)), (6, .fv (.own 0)), (8, .fv (.el (.sc (.fl .f32 wo)))), (20, .fv (.el (.sc (.int .i64 n)))), (21, .fv (.el (.sc (.int .i64 i))))], [some ⟨29, ⟨.f32, out⟩⟩]⟩ k = (match (decide ((i : Int) < n) : Bool) with
  | true => (match (decide (0 ≤ (i : Int) ∧ (i : Int) < (es.length : Int)) && true : Bool) with
    | true => (match (es : List EdgeV)[Int.toNat i]? with
      | some x1 => (match (decide (0 ≤ (x1.t : Int) ∧ (x1.t : Int) < (out.length : Int)) && true : Bool) with
        | true => (match (out : List Nat)[Int.toNat x1.t]? with
          | some x2 => (match (decide (0 ≤ (i : Int) ∧ (i : Int) < (es.length : Int)) && true : Bool) with
            | true => (match (es : List EdgeV)[Int.toNat i]? with
              | some x3 => (match (decide (0 ≤ (x3.f : Int) ∧ (x3.f : Int) < (out.length : Int)) && true : Bool) with
                | true => (match (out : List Nat)[Int.toNat x3.f]? with
                  | some x4 => (match (decide (0 ≤ (i : Int) ∧ (i : Int) < (es.length : Int)) && true : Bool) with
                    | true => (match (es : List EdgeV)[Int.toNat i]? with
                      | some x5 => (match (!(fin (mag (fop .sub .f32 (fop .sub .f32 x2 x4) x5.p))) : Bool) with
                        | true => k .ret ⟨[(4, .fv (.el (.sc (.fl .f32 0)))), (5, .fv (.el (.sc (.bo false))))], []⟩
                        | false => iterK a28 [1, 6, 8, 20, 21] [8] (codeK T3 a28 l28 Try.f28.ntmps (loopAt Try.f28 0)) m ⟨[(1, .fv (.vw (some 1) ⟨.edge, es⟩)), (6, .fv (.own 0)), (8, .fv (.el (.sc (.fl .f32 (fmax .f32 wo (mag (fop .sub .f32 (fop .sub .f32 x2 x4) x5.p))))))), (20, .fv (.el (.sc (.int .i64 n)))), (21, .fv (.el (.sc (.int .i64 (IntKind.i64.wrap (i + 1))))))], [some ⟨29, ⟨.f32, out⟩⟩]⟩ k)
                      | none => none)
                    | false => none)
                  | none => none)
                | false => none)
              | none => none)
            | false => none)
          | none => none)
        | false => none)
      | none => none)
    | false => none)
  | false => k (.exit 0) ⟨[(8, .fv (.el (.sc (.fl .f32 wo))))], []⟩) := by kernel_rfl
theorem ind28 (es : List EdgeV) (out : List Nat) (hall : es.all (edgeIn out.length) = true) (hx : Nat.ble es.length big = true) (k : Ex → St → R) : ∀ (q j wo : Nat), j + q = es.length → iterK a28 [1, 6, 8, 20, 21] [8] (codeK T3 a28 l28 Try.f28.ntmps (loopAt Try.f28 0)) (q + 1) ⟨[(1, .fv (.vw (some 1) ⟨.edge, es⟩)), (6, .fv (.own 0)), (8, .fv (.el (.sc (.fl .f32 wo)))), (20, .fv (.el (.sc (.int .i64 (es.length : Int))))), (21, .fv (.el (.sc (.int .i64 (j : Int)))))], [some ⟨29, ⟨.f32, out⟩⟩]⟩ k =
    (match (es.drop j).all (ringF out) with
    | true => k (.exit 0) ⟨[(8, .fv (.el (.sc (.fl .f32 (ringW out (es.drop j) wo)))))], []⟩
    | false => k .ret ⟨[(4, .fv (.el (.sc (.fl .f32 0)))), (5, .fv (.el (.sc (.bo false))))], []⟩) := by
  intro q
  induction q with
  | zero =>
    intro j wo hj
    have h1 : ¬ ((j : Int) < (es.length : Int)) := by omega
    rw [st28, List.drop_of_length_le (show es.length ≤ j by omega)]
    simp only [h1, decide_false]
    rfl
  | succ q ih =>
    intro j wo hj
    have hlt : j < es.length := by omega
    have h1 : ((j : Int) < (es.length : Int)) := by omega
    have h2 : (0 : Int) ≤ (j : Int) := by omega
    rw [st28, wrap_succ hlt hx]
    have h3 : es[Int.toNat (j : Int)]? = some es[j] := by simp [hlt]
    have hq : edgeIn out.length es[j] = true := List.all_eq_true.1 hall es[j] (List.getElem_mem hlt)
    obtain ⟨f0, f1⟩ := edgeIn_f hq
    obtain ⟨t0, t1⟩ := edgeIn_t hq
    have o1 : out[Int.toNat es[j].f]? = some (out.getD es[j].f.toNat 0) := getq (by omega)
    have o2 : out[Int.toNat es[j].t]? = some (out.getD es[j].t.toNat 0) := getq (by omega)
    have hs := ih (j + 1) (fmax .f32 wo (ringD out es[j])) (by omega)
    rw [List.drop_eq_getElem_cons hlt]
    simp only [h1, h2, h3, f0, f1, t0, t1, o1, o2, and_self, decide_true, Bool.and_true]
    rw [List.all_cons]
    show (match !fin (ringD out es[j]) with
      | true => _
      | false => _) = _
    unfold ringF
    cases hf : fin (ringD out es[j]) with
    | false => rfl
    | true =>
      simp only [Bool.not_true, Bool.true_and]
      exact hs

theorem lk28 : LOK T3 a28 l28 Try.f28.ntmps (loopAt Try.f28 0) := by
  intro ins outs hA s k out h
  have hA' : ([1, 6, 8, 20, 21], [8]) = (ins, outs) := Option.some.inj ((show a28.lp (firstRegion (loopAt Try.f28 0)) = some ([1, 6, 8, 20, 21], [8]) by kernel_rfl).symm.trans hA)
  cases hA'
  have hk : firstRegion (loopAt Try.f28 0) = 6 := by kernel_rfl
  rw [hk] at h
  change lp28 s k = some out at h
  unfold lp28 at h
  split at h
  · rename_i es wo n i out
    cases hg : (decide (n = (es.length : Int)) && (decide (i = 0) && (Nat.ble es.length big && es.all (edgeIn out.length)))) with
    | false => rw [hg] at h; cases h
    | true =>
      rw [hg] at h
      simp only [Bool.and_eq_true, decide_eq_true_eq] at hg
      obtain ⟨rfl, rfl, hx, hall⟩ := hg
      refine ⟨es.length + 1, ?_⟩
      have hh := ind28 es out hall hx k es.length 0 wo (by omega)
      simp only [List.drop_zero] at hh
      exact hh.trans h
  · cases h
theorem e28 (v : Int) (es : List EdgeV) : runFn T3 a28 l28 Try.f28 [.el (.sc (.int .i64 v)), .vw none ⟨.edge, es⟩] = (match (!(elOk v es) : Bool) with
  | true => some ⟨[.el (.sc (.fl .f32 0)), .el (.sc (.bo false))], none⟩
  | false => (match ((decide ((es.length : Int) = (es.length : Int)) && (decide (0 = 0) && (Nat.ble es.length big && es.all (edgeIn (orNil (elOk v es) (elList v es) : List Nat).length)))) : Bool) with
    | true => (match (es.all (ringF (orNil (elOk v es) (elList v es) : List Nat)) : Bool) with
      | true => some ⟨[.el (.sc (.fl .f32 (ringW (orNil (elOk v es) (elList v es) : List Nat) es 0))), .el (.sc (.bo true))], none⟩
      | false => some ⟨[.el (.sc (.fl .f32 0)), .el (.sc (.bo false))], none⟩)
    | false => none)) := by kernel_rfl
theorem s28 (v : Int) (es : List EdgeV) : runFn T3 a28 l28 Try.f28 [.el (.sc (.int .i64 v)), .vw none ⟨.edge, es⟩] = some ⟨[.el (.sc (.fl .f32 (orZero (wrOk v es) (wrX v es)))), .el (.sc (.bo (wrOk v es)))], none⟩ := by
  rw [e28]
  unfold wrOk
  cases ho : elOk v es with
  | false => rfl
  | true =>
    obtain ⟨hin, hl⟩ := elList_in ho
    have hb : Nat.ble es.length big = true := big_of (by omega)
    have ho2 : orNil true (elList v es) = elList v es := rfl
    simp only [ho2, hb, hin, decide_true, Bool.and_self, Bool.true_and, Bool.not_true]
    cases es.all (ringF (elList v es)) <;> rfl
theorem c28 (v : Int) (es : List EdgeV) (k : List RV → R) (out : Out) (h : k [.el (.sc (.fl .f32 (orZero (wrOk v es) (wrX v es)))), .el (.sc (.bo (wrOk v es)))] = some out) : ∃ rs, Real Try.prog 28 ∧ COK Try.prog 28 [.el (.sc (.int .i64 v)), .vw none ⟨.edge, es⟩] rs ∧ k rs = some out := by
  exact ⟨_, real Try.func28 (by kernel_rfl), fn_ok tok3 (A := a28) (L := l28) (r := none) Try.func28 (by kernel_rfl) (by kernel_rfl) (loops1 (by kernel_rfl) lk28) (by rw [s28]), h⟩

/-! slices.ContainsFunc[[]impl.Edge,impl.Edge] -/
theorem e65 (xs : List EdgeV) (v : Int) : runFn T3 none0 noL Try.f65 [.vw none ⟨.edge, xs⟩, .fn 66 [⟨.v ⟨.i64, [v]⟩, 1, 0, 0⟩]] = (match (Nat.ble xs.length big : Bool) with
  | true => some ⟨[.el (.sc (.bo (decide ((firstAt (notEdge v) xs : Int) ≥ 0))))], none⟩
  | false => none) := by kernel_rfl
theorem s65 (xs : List EdgeV) (v : Int) : runFn T3 none0 noL Try.f65 [.vw none ⟨.edge, xs⟩, .fn 66 [⟨.v ⟨.i64, [v]⟩, 1, 0, 0⟩]] = (match (Nat.ble xs.length big : Bool) with
  | true => some ⟨[.el (.sc (.bo (xs.any (notEdge v))))], none⟩
  | false => none) := by
  rw [e65]
  rw [any_firstAt]
theorem c65 (xs : List EdgeV) (v : Int) (k : List RV → R) (out : Out) (h : (match (Nat.ble xs.length big : Bool) with
  | true => k [.el (.sc (.bo (xs.any (notEdge v))))]
  | false => none) = some out) : ∃ rs, Real Try.prog 65 ∧ COK Try.prog 65 [.vw none ⟨.edge, xs⟩, .fn 66 [⟨.v ⟨.i64, [v]⟩, 1, 0, 0⟩]] rs ∧ k rs = some out := by
  cases g0 : (Nat.ble xs.length big : Bool) with
  | true =>
    rw [g0] at h
    exact ⟨_, real Try.func65 (by kernel_rfl), fn_ok tok3 (A := none0) (L := noL) (r := none) Try.func65 (by kernel_rfl) (by kernel_rfl) (loops0 (by kernel_rfl)) (by rw [s65, g0]), h⟩
  | false =>
    rw [g0] at h
    cases h

/-! slices.ContainsFunc[[]float32,float32] -/
theorem e72 (xs : List Nat) : runFn T3 none0 noL Try.f72 [.vw none ⟨.f32, xs⟩, .fn 73 []] = (match (Nat.ble xs.length big : Bool) with
  | true => some ⟨[.el (.sc (.bo (decide ((firstAt notFin xs : Int) ≥ 0))))], none⟩
  | false => none) := by kernel_rfl
theorem s72 (xs : List Nat) : runFn T3 none0 noL Try.f72 [.vw none ⟨.f32, xs⟩, .fn 73 []] = (match (Nat.ble xs.length big : Bool) with
  | true => some ⟨[.el (.sc (.bo (xs.any notFin)))], none⟩
  | false => none) := by
  rw [e72]
  rw [any_firstAt]
theorem c72 (xs : List Nat) (k : List RV → R) (out : Out) (h : (match (Nat.ble xs.length big : Bool) with
  | true => k [.el (.sc (.bo (xs.any notFin)))]
  | false => none) = some out) : ∃ rs, Real Try.prog 72 ∧ COK Try.prog 72 [.vw none ⟨.f32, xs⟩, .fn 73 []] rs ∧ k rs = some out := by
  cases g0 : (Nat.ble xs.length big : Bool) with
  | true =>
    rw [g0] at h
    exact ⟨_, real Try.func72 (by kernel_rfl), fn_ok tok3 (A := none0) (L := noL) (r := none) Try.func72 (by kernel_rfl) (by kernel_rfl) (loops0 (by kernel_rfl)) (by rw [s72, g0]), h⟩
  | false =>
    rw [g0] at h
    cases h

def S4 : SFn := fun f args k => match f, args with
  | 28, [.el (.sc (.int .i64 v)), .vw none ⟨.edge, es⟩] => k [.el (.sc (.fl .f32 (orZero (wrOk v es) (wrX v es)))), .el (.sc (.bo (wrOk v es)))]
  | 65, [.vw none ⟨.edge, xs⟩, .fn 66 [⟨.v ⟨.i64, [v]⟩, 1, 0, 0⟩]] => (match (Nat.ble xs.length big : Bool) with
    | true => k [.el (.sc (.bo (xs.any (notEdge v))))]
    | false => none)
  | 72, [.vw none ⟨.f32, xs⟩, .fn 73 []] => (match (Nat.ble xs.length big : Bool) with
    | true => k [.el (.sc (.bo (xs.any notFin)))]
    | false => none)
  | _, _ => S3 f args k
abbrev M4 : MFn := M3
def T4 : TT := tab.T S4 muts M4
theorem tok4 : TOK Try.prog T4 := by
  refine (tab_ok tabok).tok (fun f args k out h => ?_) (fun f vec args k out h => ?_)
  · change S4 f args k = some out at h
    unfold S4 at h
    split at h
    · exact (fun k out h => cok_call (c28 _ _ k out h)) k out h
    · exact (fun k out h => cok_call (c65 _ _ k out h)) k out h
    · exact (fun k out h => cok_call (c72 _ k out h)) k out h
    · exact tok3.S f args k out h
  · exact tok3.M f vec args k out h

end Go.Sm.Ytngcejakoaoojaa
