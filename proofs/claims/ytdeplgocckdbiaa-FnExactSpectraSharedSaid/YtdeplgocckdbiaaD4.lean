/- What the functions hand back: level 3. -/
import Derived.Test.YtdeplgocckdbiaaD3
namespace Go.Sm.Ytdeplgocckdbiaa
open Go Go.Sm Go.RowKit Go.Proofs

/-! laws.eqLineSS -/
def a42 : Ann := ann [(4, [0, 1, 5], [])] [4] 0
def lp42 : St → (Ex → St → R) → R := fun s k => match s with
  | ⟨[(0, .fv (.vv none .line xss)), (1, .fv (.vv none .line yss)), (5, .fv (.el (.sc (.int .i64 i))))], []⟩ => (match ((decide (i = 0) && (Nat.beq xss.length yss.length && (Nat.ble xss.length big && xss.all (fun l => Nat.ble l.length big)))) : Bool) with
    | true => (match (all2 eqLL xss yss : Bool) with
      | true => k (.exit 0) ⟨[], []⟩
      | false => k .ret ⟨[(4, .fv (.el (.sc (.bo false))))], []⟩)
    | false => none)
  | _ => none
def l42 : Loops := fun key s k => bif Nat.beq key 4 then lp42 s k else none
theorem st42 (xss : List (List LineV)) (yss : List (List LineV)) (i : Int) (m : Nat) (k : Ex → St → R) : iterK a42 [0, 1, 5] [] (codeK T3 a42 l42 Try.f42.ntmps (loopAt Try.f42 0)) (m + 1) ⟨[(0, .fv (.vv none .line xss)), (1, .fv (.vv none .line yss)), (5, .fv (.el (.sc (.int .i64 i))))], []⟩ k = (match (decide ((i : Int) < (xss.length : Int)) : Bool) with
  | true => (match (decide (0 ≤ (i : Int) ∧ (i : Int) < (xss.length : Int)) : Bool) with
    | true => (match (xss : List (List LineV))[Int.toNat i]? with
      | some x1 => (match (decide (0 ≤ (i : Int) ∧ (i : Int) < (yss.length : Int)) : Bool) with
        | true => (match (yss : List (List LineV))[Int.toNat i]? with
          | some x2 => (match (Nat.beq x1.length x2.length : Bool) with
            | true => (match (Nat.ble x1.length big : Bool) with
              | true => (match (!(all2 eqLineF x1 x2) : Bool) with
                | true => k .ret ⟨[(4, .fv (.el (.sc (.bo false))))], []⟩
                | false => iterK a42 [0, 1, 5] [] (codeK T3 a42 l42 Try.f42.ntmps (loopAt Try.f42 0)) m ⟨[(0, .fv (.vv none .line xss)), (1, .fv (.vv none .line yss)), (5, .fv (.el (.sc (.int .i64 (IntKind.i64.wrap (i + 1))))))], []⟩ k)
              | false => none)
            | false => k .ret ⟨[(4, .fv (.el (.sc (.bo false))))], []⟩)
          | none => none)
        | false => none)
      | none => none)
    | false => none)
  | false => k (.exit 0) ⟨[], []⟩) := by kernel_rfl
theorem ind42 (xss yss : List (List LineV)) (hl : xss.length = yss.length) (hx : Nat.ble xss.length big = true) (hall : xss.all (fun l => Nat.ble l.length big) = true) (k : Ex → St → R) : ∀ (m j : Nat), j + m = xss.length → iterK a42 [0, 1, 5] [] (codeK T3 a42 l42 Try.f42.ntmps (loopAt Try.f42 0)) (m + 1) ⟨[(0, .fv (.vv none .line xss)), (1, .fv (.vv none .line yss)), (5, .fv (.el (.sc (.int .i64 (j : Int)))))], []⟩ k =
    (match all2 eqLL (xss.drop j) (yss.drop j) with
    | true => k (.exit 0) ⟨[], []⟩
    | false => k .ret ⟨[(4, .fv (.el (.sc (.bo false))))], []⟩) := by
  intro m
  induction m with
  | zero =>
    intro j hj
    have h1 : ¬ ((j : Int) < (xss.length : Int)) := by omega
    rw [st42, List.drop_of_length_le (by omega)]
    simp [h1, all2]
  | succ m ih =>
    intro j hj
    have hlt : j < xss.length := by omega
    have hlt2 : j < yss.length := by omega
    have h1 : ((j : Int) < (xss.length : Int)) := by omega
    have h12 : ((j : Int) < (yss.length : Int)) := by omega
    have h2 : (0 : Int) ≤ (j : Int) := by omega
    rw [st42, wrap_succ hlt hx]
    have h3 : xss[Int.toNat (j : Int)]? = some xss[j] := by simp [hlt]
    have h4 : yss[Int.toNat (j : Int)]? = some yss[j] := by simp [hlt2]
    have hb : Nat.ble xss[j].length big = true := List.all_eq_true.1 hall xss[j] (List.getElem_mem hlt)
    rw [List.drop_eq_getElem_cons hlt, List.drop_eq_getElem_cons hlt2, ih (j + 1) (by omega)]
    simp only [h1, h12, h2, h3, h4, hb, and_self, decide_true, Bool.and_true, all2]
    unfold eqLL
    cases Nat.beq xss[j].length yss[j].length <;> cases all2 eqLineF xss[j] yss[j] <;> simp

theorem lk42 : LOK T3 a42 l42 Try.f42.ntmps (loopAt Try.f42 0) := by
  intro ins outs hA s k out h
  have hA' : ([0, 1, 5], []) = (ins, outs) := Option.some.inj ((show a42.lp (firstRegion (loopAt Try.f42 0)) = some ([0, 1, 5], []) by kernel_rfl).symm.trans hA)
  cases hA'
  have hk : firstRegion (loopAt Try.f42 0) = 4 := by kernel_rfl
  rw [hk] at h
  change lp42 s k = some out at h
  unfold lp42 at h
  split at h
  · rename_i xss yss i
    cases hg : (decide (i = 0) && (Nat.beq xss.length yss.length && (Nat.ble xss.length big && xss.all (fun l => Nat.ble l.length big)))) with
    | false => rw [hg] at h; cases h
    | true =>
      rw [hg] at h
      simp only [Bool.and_eq_true, decide_eq_true_eq] at hg
      obtain ⟨rfl, hl, hx, hall⟩ := hg
      refine ⟨xss.length + 1, ?_⟩
      exact (ind42 xss yss (Nat.eq_of_beq_eq_true hl) hx hall k xss.length 0 (by omega)).trans h
  · cases h
theorem e42 (xss : List (List LineV)) (yss : List (List LineV)) : runFn T3 a42 l42 Try.f42 [.vv none .line xss, .vv none .line yss] = (match (!(((xss.length : Int) : Int) == (yss.length : Int)) : Bool) with
  | true => some ⟨[.el (.sc (.bo false))], none⟩
  | false => (match ((decide (0 = 0) && (Nat.beq xss.length yss.length && (Nat.ble xss.length big && xss.all (fun l => Nat.ble l.length big)))) : Bool) with
    | true => (match (all2 eqLL xss yss : Bool) with
      | true => some ⟨[.el (.sc (.bo true))], none⟩
      | false => some ⟨[.el (.sc (.bo false))], none⟩)
    | false => none)) := by kernel_rfl
theorem s42 (xss : List (List LineV)) (yss : List (List LineV)) (hg : (Nat.ble xss.length big && xss.all (fun l => Nat.ble l.length big)) = true) : runFn T3 a42 l42 Try.f42 [.vv none .line xss, .vv none .line yss] = (match (Nat.beq xss.length yss.length : Bool) with
  | true => some ⟨[.el (.sc (.bo (all2 eqLL xss yss)))], none⟩
  | false => some ⟨[.el (.sc (.bo false))], none⟩) := by
  rw [e42]
  rw [Bool.and_eq_true] at hg
  cases hl : Nat.beq xss.length yss.length with
  | false =>
    have h1 : xss.length ≠ yss.length := fun e => by rw [e, Nat.beq_refl] at hl; cases hl
    have h2 : ((xss.length : Int) == (yss.length : Int)) = false := beq_false_of_ne (by omega)
    simp only [h2, Bool.not_false]
  | true =>
    have h1 := Nat.eq_of_beq_eq_true hl
    have h2 : ((xss.length : Int) == (yss.length : Int)) = true := beq_iff_eq.2 (by omega)
    simp only [h2, hl, hg.1, hg.2, Bool.not_true, decide_true, Bool.and_self]
    cases all2 eqLL xss yss <;> rfl
theorem c42 (xss : List (List LineV)) (yss : List (List LineV)) (k : List RV → R) (out : Out) (h : (match (Nat.ble xss.length big && xss.all (fun l => Nat.ble l.length big) : Bool) with
  | true => (match (Nat.beq xss.length yss.length : Bool) with
    | true => k [.el (.sc (.bo (all2 eqLL xss yss)))]
    | false => k [.el (.sc (.bo false))])
  | false => none) = some out) : ∃ rs, Real Try.prog 42 ∧ COK Try.prog 42 [.vv none .line xss, .vv none .line yss] rs ∧ k rs = some out := by
  cases g0 : (Nat.ble xss.length big && xss.all (fun l => Nat.ble l.length big) : Bool) with
  | true =>
    rw [g0] at h
    cases g1 : (Nat.beq xss.length yss.length : Bool) with
    | true =>
      rw [g1] at h
      exact ⟨_, real Try.func42 (by kernel_rfl), fn_ok tok3 (A := a42) (L := l42) (r := none) Try.func42 (by kernel_rfl) (by kernel_rfl) (loops1 (by kernel_rfl) lk42) (by rw [s42 _ _ g0, g1]), h⟩
    | false =>
      rw [g1] at h
      exact ⟨_, real Try.func42 (by kernel_rfl), fn_ok tok3 (A := a42) (L := l42) (r := none) Try.func42 (by kernel_rfl) (by kernel_rfl) (loops1 (by kernel_rfl) lk42) (by rw [s42 _ _ g0, g1]), h⟩
  | false =>
    rw [g0] at h
    cases h

/-! slices.ContainsFunc[[]float32,float32] -/
theorem e156 (xs : List Nat) : runFn T3 none0 noL Try.f156 [.vw none ⟨.f32, xs⟩, .fn 157 []] = (match (Nat.ble xs.length big : Bool) with
  | true => some ⟨[.el (.sc (.bo (decide ((firstAt notFin xs : Int) ≥ 0))))], none⟩
  | false => none) := by kernel_rfl
theorem s156 (xs : List Nat) : runFn T3 none0 noL Try.f156 [.vw none ⟨.f32, xs⟩, .fn 157 []] = (match (Nat.ble xs.length big : Bool) with
  | true => some ⟨[.el (.sc (.bo (xs.any notFin)))], none⟩
  | false => none) := by
  rw [e156]
  rw [any_firstAt]
theorem c156 (xs : List Nat) (k : List RV → R) (out : Out) (h : (match (Nat.ble xs.length big : Bool) with
  | true => k [.el (.sc (.bo (xs.any notFin)))]
  | false => none) = some out) : ∃ rs, Real Try.prog 156 ∧ COK Try.prog 156 [.vw none ⟨.f32, xs⟩, .fn 157 []] rs ∧ k rs = some out := by
  cases g0 : (Nat.ble xs.length big : Bool) with
  | true =>
    rw [g0] at h
    exact ⟨_, real Try.func156 (by kernel_rfl), fn_ok tok3 (A := none0) (L := noL) (r := none) Try.func156 (by kernel_rfl) (by kernel_rfl) (loops0 (by kernel_rfl)) (by rw [s156, g0]), h⟩
  | false =>
    rw [g0] at h
    cases h

/-! slices.ContainsFunc[[]float32,float32] -/
theorem e156b (xs : List Nat) : runFn T3 none0 noL Try.f156 [.vw none ⟨.f32, xs⟩, .fn 201 []] = (match (Nat.ble xs.length big : Bool) with
  | true => some ⟨[.el (.sc (.bo (decide ((firstAt notPos xs : Int) ≥ 0))))], none⟩
  | false => none) := by kernel_rfl
theorem s156b (xs : List Nat) : runFn T3 none0 noL Try.f156 [.vw none ⟨.f32, xs⟩, .fn 201 []] = (match (Nat.ble xs.length big : Bool) with
  | true => some ⟨[.el (.sc (.bo (xs.any notPos)))], none⟩
  | false => none) := by
  rw [e156b]
  rw [any_firstAt]
theorem c156b (xs : List Nat) (k : List RV → R) (out : Out) (h : (match (Nat.ble xs.length big : Bool) with
  | true => k [.el (.sc (.bo (xs.any notPos)))]
  | false => none) = some out) : ∃ rs, Real Try.prog 156 ∧ COK Try.prog 156 [.vw none ⟨.f32, xs⟩, .fn 201 []] rs ∧ k rs = some out := by
  cases g0 : (Nat.ble xs.length big : Bool) with
  | true =>
    rw [g0] at h
    exact ⟨_, real Try.func156 (by kernel_rfl), fn_ok tok3 (A := none0) (L := noL) (r := none) Try.func156 (by kernel_rfl) (by kernel_rfl) (loops0 (by kernel_rfl)) (by rw [s156b, g0]), h⟩
  | false =>
    rw [g0] at h
    cases h

/-! spec.l01Exp -/
theorem e176 (z : Nat) : runFn T3 none0 noL Try.f176 [.el (.sc (.fl .f32 z))] = (match fconv .f64 .f32 (expS (wid z)) with
  | some rn3 => some ⟨[.el (.sc (.fl .f32 rn3))], none⟩
  | none => none) := by kernel_rfl
theorem s176 (z : Nat) (hg : (expOk z) = true) : runFn T3 none0 noL Try.f176 [.el (.sc (.fl .f32 z))] = some ⟨[.el (.sc (.fl .f32 (expF z)))], none⟩ := by
  rw [e176]
  rw [(exp_narrow hg).2]
theorem c176 (z : Nat) (k : List RV → R) (out : Out) (h : (match (expOk z : Bool) with
  | true => k [.el (.sc (.fl .f32 (expF z)))]
  | false => none) = some out) : ∃ rs, Real Try.prog 176 ∧ COK Try.prog 176 [.el (.sc (.fl .f32 z))] rs ∧ k rs = some out := by
  cases g0 : (expOk z : Bool) with
  | true =>
    rw [g0] at h
    exact ⟨_, real Try.func176 (by kernel_rfl), fn_ok tok3 (A := none0) (L := noL) (r := none) Try.func176 (by kernel_rfl) (by kernel_rfl) (loops0 (by kernel_rfl)) (by rw [s176 _ g0]), h⟩
  | false =>
    rw [g0] at h
    cases h

/-! impl.ExpNumber -/
theorem e220 (z : Nat) : runFn T3 none0 noL Try.f220 [.el (.sc (.fl .f32 z))] = (match fconv .f64 .f32 (expI (wid z)) with
  | some r1 => some ⟨[.el (.sc (.fl .f32 r1))], none⟩
  | none => none) := by kernel_rfl
theorem s220 (z : Nat) (hg : (expOk z) = true) : runFn T3 none0 noL Try.f220 [.el (.sc (.fl .f32 z))] = some ⟨[.el (.sc (.fl .f32 (expF z)))], none⟩ := by
  rw [e220]
  rw [(exp_narrow hg).1]
theorem c220 (z : Nat) (k : List RV → R) (out : Out) (h : (match (expOk z : Bool) with
  | true => k [.el (.sc (.fl .f32 (expF z)))]
  | false => none) = some out) : ∃ rs, Real Try.prog 220 ∧ COK Try.prog 220 [.el (.sc (.fl .f32 z))] rs ∧ k rs = some out := by
  cases g0 : (expOk z : Bool) with
  | true =>
    rw [g0] at h
    exact ⟨_, real Try.func220 (by kernel_rfl), fn_ok tok3 (A := none0) (L := noL) (r := none) Try.func220 (by kernel_rfl) (by kernel_rfl) (loops0 (by kernel_rfl)) (by rw [s220 _ g0]), h⟩
  | false =>
    rw [g0] at h
    cases h

def S4 : SFn := fun f args k => match f, args with
  | 42, [.vv none .line xss, .vv none .line yss] => (match (Nat.ble xss.length big && xss.all (fun l => Nat.ble l.length big) : Bool) with
    | true => (match (Nat.beq xss.length yss.length : Bool) with
      | true => k [.el (.sc (.bo (all2 eqLL xss yss)))]
      | false => k [.el (.sc (.bo false))])
    | false => none)
  | 156, [.vw none ⟨.f32, xs⟩, .fn 157 []] => (match (Nat.ble xs.length big : Bool) with
    | true => k [.el (.sc (.bo (xs.any notFin)))]
    | false => none)
  | 156, [.vw none ⟨.f32, xs⟩, .fn 201 []] => (match (Nat.ble xs.length big : Bool) with
    | true => k [.el (.sc (.bo (xs.any notPos)))]
    | false => none)
  | 176, [.el (.sc (.fl .f32 z))] => (match (expOk z : Bool) with
    | true => k [.el (.sc (.fl .f32 (expF z)))]
    | false => none)
  | 220, [.el (.sc (.fl .f32 z))] => (match (expOk z : Bool) with
    | true => k [.el (.sc (.fl .f32 (expF z)))]
    | false => none)
  | _, _ => S3 f args k
abbrev M4 : MFn := M3
def T4 : TT := tab.T S4 muts M4
theorem tok4 : TOK Try.prog T4 := by
  refine (tab_ok tabok).tok (fun f args k out h => ?_) (fun f vec args k out h => ?_)
  · change S4 f args k = some out at h
    unfold S4 at h
    split at h
    · exact (fun k out h => cok_call (c42 _ _ k out h)) k out h
    · exact (fun k out h => cok_call (c156 _ k out h)) k out h
    · exact (fun k out h => cok_call (c156b _ k out h)) k out h
    · exact (fun k out h => cok_call (c176 _ k out h)) k out h
    · exact (fun k out h => cok_call (c220 _ k out h)) k out h
    · exact tok3.S f args k out h
  · exact tok3.M f vec args k out h

end Go.Sm.Ytdeplgocckdbiaa
