/- What the functions hand back: level 3. -/
import Derived.Test.YtdeplgocckdbiaaD3
namespace Go.Sm.Ytdeplgocckdbiaa
open Go Go.Sm Go.RowKit Go.Proofs

/-! laws.eqLineSS -/
def a42 : Ann := ann [(4, [0, 1, 5], [])] [4] 0
def lp42 : St → (Ex → St → R) → R := fun s k => match s with
  | ⟨[(0, .fv (.vv none .line xss)), (1, .fv (.vv none .line yss)), (5, .fv (.el (.sc (.int .i64 i))))], []⟩ => (match ((decide (i = 0) && (Nat.beq xss.length yss.length && (Nat.ble xss.length big && xss.all (fun l => Nat.ble l.length big)))) : Bool) with
    | true => (match (all2 eqLL xss yss : Bool) with
      | true => k (.exit 0) ⟨[], []⟩
      | false => k .ret ⟨[(4, .fv (.el (.sc (.bo false))))], []⟩)
    | false => none)
  | _ => none
def l42 : Loops := fun key s k => bif Nat.beq key 4 then lp42 s k else none
theorem st42 (xss : List (List LineV)) (yss : List (List LineV)) (i : Int) (m : Nat) (k : Ex → St → R) : iterK a42 [0, 1, 5] [] (codeK T3 a42 l42 Try.f42.ntmps (loopAt Try.f42 0)) (m + 1) ⟨[(0, .fv (.vv none .line xss)), (1, .fv (.vv none .line yss)), (5, .fv (.el (.sc (.int .i64 i))))], []⟩ k = (match (decide ((i : Int) < (xss.length : Int)) : Bool) with
  | true => (match (decide (0 ≤ (i : Int) ∧ (i : Int) < (xss.length : Int)) : Bool) with
    | true => (match (xss : List (List LineV))[Int.toNat i]? with
      | some x1 => (match (decide (0 ≤ (i : Int) ∧ (i : Int) < (yss.length : Int)) : Bool) with
        | true => (match (yss : List (List LineV))[Int.toNat i]? with
          | some x2 => (match (Nat.beq x1.length x2.length : Bool) with
            | true => (match (Nat.ble x1.length big : Bool) with
              | true => (match (!(all2 eqLineF x1 x2) : Bool) with
                | true => k .ret ⟨[(4, .fv (.el (.sc (.bo false))))], []⟩
                | false => iterK a42 [0, 1, 5] [] (codeK T3 a42 l42 Try.f42.ntmps (loopAt Try.f42 0)) m ⟨[(0, .fv (.vv none .line xss)), (1, .fv (.vv none .line yss)), (5, .fv (.el (.sc (.int .i64 (IntKind.i64.wrap (i + 1))))))], []⟩ k)
              | false => none)
            | false => k .ret ⟨[(4, .fv (.el (.sc (.bo false))))], []⟩)
          | none => none)
        | false => none)
      | none => none)
    | false => none)
  | false => k (.exit 0) ⟨[], []⟩) := by kernel_rfl
theorem ind42 (xss yss : List (List LineV)) (hl : xss.length = yss.length) (hx : Nat.ble xss.length big = true) (hall : xss.all (fun l => Nat.ble l.length big) = true) (k : Ex → St → R) : ∀ (m j : Nat), j + m = xss.length → iterK a42 [0, 1, 5] [] (codeK T3 a42 l42 Try.f42.ntmps (loopAt Try.f42 0)) (m + 1) ⟨[(0, .fv (.vv none .line xss)), (1, .fv (.vv none .line yss)), (5, .fv (.el (.sc (.int .i64 (j : Int)))))], []⟩ k =
    (match all2 eqLL (xss.drop j) (yss.drop j) with
    | true => k (.exit 0) ⟨[], []⟩
    | false => k .ret ⟨[(4, .fv (.el (.sc (.bo false))))], []⟩) := by
  intro m
  induction m with
  | zero =>
    intro j hj
    have h1 : ¬ ((j : Int) < (xss.length : Int)) := by omega
    rw [st42, List.drop_of_length_le (by omega)]
    simp [h1, all2]
  | succ m ih =>
    intro j hj
    have hlt : j < xss.length := by omega
    have hlt2 : j < yss.length := by omega
    have h1 : ((j : Int) < (xss.length : Int)) := by omega
    have h12 : ((j : Int) < (yss.length : Int)) := by omega
    have h2 : (0 : Int) ≤ (j : Int) := by omega
    rw [st42, wrap_succ hlt hx]
    have h3 : xss[Int.toNat (j : Int)]? = some xss[j] := by simp [hlt]
    have h4 : yss[Int.toNat (j : Int)]? = some yss[j] := by simp [hlt2]
    have hb : Nat.ble xss[j].length big = true := List.all_eq_true.1 hall xss[j] (List.getElem_mem hlt)
    rw [List.drop_eq_getElem_cons hlt, List.drop_eq_getElem_cons hlt2, ih (j + 1) (by omega)]
    simp only [h1, h12, h2, h3, h4, hb, and_self, decide_true, Bool.and_true, all2]
    unfold eqLL
    cases Nat.beq xss[j].length yss[j].length <;> cases all2 eqLineF xss[j] yss[j] <;> simp

theorem lk42 : LOK T3 a42 l42 Try.f42.ntmps (loopAt Try.f42 0) := by
  intro ins outs hA s k out h
  have hA' : ([0, 1, 5], []) = (ins, outs) := Option.some.inj ((show a42.lp (firstRegion (loopAt Try.f42 0)) = some ([0, 1, 5], []) by kernel_rfl).symm.trans hA)
  cases hA'
  have hk : firstRegion (loopAt Try.f42 0) = 4 := by kernel_rfl
  rw [hk] at h
  change lp42 s k = some out at h
  unfold lp42 at h
  split at h
  · rename_i xss yss i
    cases hg : (decide (i = 0) && (Nat.beq xss.length yss.length && (Nat.ble xss.length big && xss.all (fun l => Nat.ble l.length big)))) with
    | false => rw [hg] at h; cases h
    | true =>
      rw [hg] at h
      simp only [Bool.and_eq_true, decide_eq_true_eq] at hg
      obtain ⟨rfl, hl, hx, hall⟩ := hg
      refine ⟨xss.length + 1, ?_⟩
      exact (ind42 xss yss (Nat.eq_of_beq_eq_true hl) hx hall k xss.length 0 (by omega)).trans h
  · cases h
theorem e42 (xss : List (List LineV)) (yss : List (List LineV)) : runFn T3 a42 l42 Try.f42 [.vv none .line xss, .vv none .line yss] = (match (!(((xss.length : Int) : Int) == (yss.length : Int)) : Bool) with
  | true => some ⟨[.el (.sc (.bo false))], none⟩
  | false => (match ((decide (0 = 0) && (Nat.beq xss.length yss.length && (Nat.ble xss.length big && xss.all (fun l => Nat.ble l.length big)))) : Bool) with
    | true => (match (all2 eqLL xss yss : Bool) with
      | true => some ⟨[.el (.sc (.bo true))], none⟩
      | false => some ⟨[.el (.sc (.bo false))], none⟩)
    | false => none)) := by kernel_rfl
theorem s42 (xss : List (List LineV)) (yss : List (List LineV)) (hg : (Nat.ble xss.length big && xss.all (fun l => Nat.ble l.length big)) = true) : runFn T3 a42 l42 Try.f42 [.vv none .line xss, .vv none .line yss] = (match (Nat.beq xss.length yss.length : Bool) with
  | true => some ⟨[.el (.sc (.bo (all2 eqLL xss yss)))], none⟩
  | false => some ⟨[.el (.sc (.bo false))], none⟩) := by
  rw [e42]
  rw [Bool.and_eq_true] at hg
  cases hl : Nat.beq xss.length yss.length with
  | false =>
    have h1 : xss.length ≠ yss.length := fun e => by rw [e, Nat.beq_refl] at hl; cases hl
    have h2 : ((xss.length : Int) == (yss.length : Int)) = false := beq_false_of_ne (by omega)
    simp only [h2, Bool.not_false]
  | true =>
    have h1 := Nat.eq_of_beq_eq_true hl
    have h2 : ((xss.length : Int) == (yss.length : Int)) = true := beq_iff_eq.2 (by omega)
    simp only [h2, hl, hg.1, hg.2, Bool.not_true, decide_true, Bool.and_self]
    cases all2 eqLL xss yss <;> rfl
theorem c42 (xss : List (List LineV)) (yss : List (List LineV)) (k : List RV → R) (out : Out) (h : (match (Nat.ble xss.length big && xss.all (fun l => Nat.ble l.length big) : Bool) with
  | true => (match (Nat.beq xss.length yss.length : Bool) with
    | true => k [.el (.sc (.bo (all2 eqLL xss yss)))]
    | false => k [.el (.sc (.bo false))])
  | false => none) = some out) : ∃ rs, Real Try.prog 42 ∧ COK Try.prog 42 [.vv none .line xss, .vv none .line yss] rs ∧ k rs = some out := by
  cases g0 : (Nat.ble xss.length big && xss.all (fun l => Nat.ble l.length big) : Bool) with
  | true =>
    rw [g0] at h
    cases g1 : (Nat.beq xss.length yss.length : Bool) with
    | true =>
      rw [g1] at h
      exact ⟨_, real Try.func42 (by kernel_rfl), fn_ok tok3 (A := a42) (L := l42) (r := none) Try.func42 (by kernel_rfl) (by kernel_rfl) (loops1 (by kernel_rfl) lk42) (by rw [s42 _ _ g0, g1]), h⟩
    | false =>
      rw [g1] at h
      exact ⟨_, real Try.func42 (by kernel_rfl), fn_ok tok3 (A := a42) (L := l42) (r := none) Try.func42 (by kernel_rfl) (by kernel_rfl) (loops1 (by kernel_rfl) lk42) (by rw [s42 _ _ g0, g1]), h⟩
  | false =>
    rw [g0] at h
    cases h

/-! spec.l05Fit -/
theorem e87 (xs : List LineV) (ys : List Nat) (b : Nat) (d : Nat) : runFn T3 none0 noL Try.f87 [.vw none ⟨.line, xs⟩, .vw none ⟨.f32, ys⟩, .el (.sc (.fl .f32 b)), .el (.sc (.fl .f32 d))] = (match (Nat.ble xs.length big : Bool) with
  | true => (match (linesOk xs : Bool) with
    | true => (match (Nat.ble ys.length big : Bool) with
      | true => (match (listOk ys 1 : Bool) with
        | true => (match (fin b : Bool) with
          | true => some ⟨[.el (.sc (.bo (fin d)))], none⟩
          | false => some ⟨[.el (.sc (.bo false))], none⟩)
        | false => some ⟨[.el (.sc (.bo false))], none⟩)
      | false => none)
    | false => some ⟨[.el (.sc (.bo false))], none⟩)
  | false => none) := by kernel_rfl
theorem s87 (xs : List LineV) (ys : List Nat) (b : Nat) (d : Nat) (hg : (Nat.ble xs.length big && Nat.ble ys.length big) = true) : runFn T3 none0 noL Try.f87 [.vw none ⟨.line, xs⟩, .vw none ⟨.f32, ys⟩, .el (.sc (.fl .f32 b)), .el (.sc (.fl .f32 d))] = some ⟨[.el (.sc (.bo (linesOk xs && (listOk ys 1 && (fin b && fin d)))))], none⟩ := by
  rw [e87]
  rw [Bool.and_eq_true] at hg
  rw [hg.1, hg.2]
  cases linesOk xs <;> cases listOk ys 1 <;> cases fin b <;> cases fin d <;> simp
theorem c87 (xs : List LineV) (ys : List Nat) (b : Nat) (d : Nat) (k : List RV → R) (out : Out) (h : (match (Nat.ble xs.length big && Nat.ble ys.length big : Bool) with
  | true => k [.el (.sc (.bo (linesOk xs && (listOk ys 1 && (fin b && fin d)))))]
  | false => none) = some out) : ∃ rs, Real Try.prog 87 ∧ COK Try.prog 87 [.vw none ⟨.line, xs⟩, .vw none ⟨.f32, ys⟩, .el (.sc (.fl .f32 b)), .el (.sc (.fl .f32 d))] rs ∧ k rs = some out := by
  cases g0 : (Nat.ble xs.length big && Nat.ble ys.length big : Bool) with
  | true =>
    rw [g0] at h
    exact ⟨_, real Try.func87 (by kernel_rfl), fn_ok tok3 (A := none0) (L := noL) (r := none) Try.func87 (by kernel_rfl) (by kernel_rfl) (loops0 (by kernel_rfl)) (by rw [s87 _ _ _ _ g0]), h⟩
  | false =>
    rw [g0] at h
    cases h

/-! slices.ContainsFunc[[]float32,float32] -/
theorem e156 (xs : List Nat) : runFn T3 none0 noL Try.f156 [.vw none ⟨.f32, xs⟩, .fn 157 []] = (match (Nat.ble xs.length big : Bool) with
  | true => some ⟨[.el (.sc (.bo (decide ((firstAt notFin xs : Int) ≥ 0))))], none⟩
  | false => none) := by kernel_rfl
theorem s156 (xs : List Nat) : runFn T3 none0 noL Try.f156 [.vw none ⟨.f32, xs⟩, .fn 157 []] = (match (Nat.ble xs.length big : Bool) with
  | true => some ⟨[.el (.sc (.bo (xs.any notFin)))], none⟩
  | false => none) := by
  rw [e156]
  rw [any_firstAt]
theorem c156 (xs : List Nat) (k : List RV → R) (out : Out) (h : (match (Nat.ble xs.length big : Bool) with
  | true => k [.el (.sc (.bo (xs.any notFin)))]
  | false => none) = some out) : ∃ rs, Real Try.prog 156 ∧ COK Try.prog 156 [.vw none ⟨.f32, xs⟩, .fn 157 []] rs ∧ k rs = some out := by
  cases g0 : (Nat.ble xs.length big : Bool) with
  | true =>
    rw [g0] at h
    exact ⟨_, real Try.func156 (by kernel_rfl), fn_ok tok3 (A := none0) (L := noL) (r := none) Try.func156 (by kernel_rfl) (by kernel_rfl) (loops0 (by kernel_rfl)) (by rw [s156, g0]), h⟩
  | false =>
    rw [g0] at h
    cases h

/-! slices.ContainsFunc[[]float32,float32] -/
theorem e156b (xs : List Nat) : runFn T3 none0 noL Try.f156 [.vw none ⟨.f32, xs⟩, .fn 201 []] = (match (Nat.ble xs.length big : Bool) with
  | true => some ⟨[.el (.sc (.bo (decide ((firstAt notPos xs : Int) ≥ 0))))], none⟩
  | false => none) := by kernel_rfl
theorem s156b (xs : List Nat) : runFn T3 none0 noL Try.f156 [.vw none ⟨.f32, xs⟩, .fn 201 []] = (match (Nat.ble xs.length big : Bool) with
  | true => some ⟨[.el (.sc (.bo (xs.any notPos)))], none⟩
  | false => none) := by
  rw [e156b]
  rw [any_firstAt]
theorem c156b (xs : List Nat) (k : List RV → R) (out : Out) (h : (match (Nat.ble xs.length big : Bool) with
  | true => k [.el (.sc (.bo (xs.any notPos)))]
  | false => none) = some out) : ∃ rs, Real Try.prog 156 ∧ COK Try.prog 156 [.vw none ⟨.f32, xs⟩, .fn 201 []] rs ∧ k rs = some out := by
  cases g0 : (Nat.ble xs.length big : Bool) with
  | true =>
    rw [g0] at h
    exact ⟨_, real Try.func156 (by kernel_rfl), fn_ok tok3 (A := none0) (L := noL) (r := none) Try.func156 (by kernel_rfl) (by kernel_rfl) (loops0 (by kernel_rfl)) (by rw [s156b, g0]), h⟩
  | false =>
    rw [g0] at h
    cases h

/-! spec.l01Exp -/
theorem e176 (z : Nat) : runFn T3 none0 noL Try.f176 [.el (.sc (.fl .f32 z))] = (match fconv .f64 .f32 (expS (wid z)) with
  | some rn3 => some ⟨[.el (.sc (.fl .f32 rn3))], none⟩
  | none => none) := by kernel_rfl
theorem s176 (z : Nat) (hg : (expOk z) = true) : runFn T3 none0 noL Try.f176 [.el (.sc (.fl .f32 z))] = some ⟨[.el (.sc (.fl .f32 (expF z)))], none⟩ := by
  rw [e176]
  rw [(exp_narrow hg).2]
theorem c176 (z : Nat) (k : List RV → R) (out : Out) (h : (match (expOk z : Bool) with
  | true => k [.el (.sc (.fl .f32 (expF z)))]
  | false => none) = some out) : ∃ rs, Real Try.prog 176 ∧ COK Try.prog 176 [.el (.sc (.fl .f32 z))] rs ∧ k rs = some out := by
  cases g0 : (expOk z : Bool) with
  | true =>
    rw [g0] at h
    exact ⟨_, real Try.func176 (by kernel_rfl), fn_ok tok3 (A := none0) (L := noL) (r := none) Try.func176 (by kernel_rfl) (by kernel_rfl) (loops0 (by kernel_rfl)) (by rw [s176 _ g0]), h⟩
  | false =>
    rw [g0] at h
    cases h

/-! impl.ExpNumber -/
theorem e220 (z : Nat) : runFn T3 none0 noL Try.f220 [.el (.sc (.fl .f32 z))] = (match fconv .f64 .f32 (expI (wid z)) with
  | some r1 => some ⟨[.el (.sc (.fl .f32 r1))], none⟩
  | none => none) := by kernel_rfl
theorem s220 (z : Nat) (hg : (expOk z) = true) : runFn T3 none0 noL Try.f220 [.el (.sc (.fl .f32 z))] = some ⟨[.el (.sc (.fl .f32 (expF z)))], none⟩ := by
  rw [e220]
  rw [(exp_narrow hg).1]
theorem c220 (z : Nat) (k : List RV → R) (out : Out) (h : (match (expOk z : Bool) with
  | true => k [.el (.sc (.fl .f32 (expF z)))]
  | false => none) = some out) : ∃ rs, Real Try.prog 220 ∧ COK Try.prog 220 [.el (.sc (.fl .f32 z))] rs ∧ k rs = some out := by
  cases g0 : (expOk z : Bool) with
  | true =>
    rw [g0] at h
    exact ⟨_, real Try.func220 (by kernel_rfl), fn_ok tok3 (A := none0) (L := noL) (r := none) Try.func220 (by kernel_rfl) (by kernel_rfl) (loops0 (by kernel_rfl)) (by rw [s220 _ g0]), h⟩
  | false =>
    rw [g0] at h
    cases h

/-! spec.l01LogWide -/
def a222 : Ann := ann [(8, [0, 3], [0, 3]), (11, [0, 3], [0, 3]), (18, [3, 4, 5, 6, 7], [3, 4, 6])] [2] 0
def lp222 : St → (Ex → St → R) → R := fun s k => match s with
  | ⟨[(0, .fv (.el (.sc (.fl .f64 y)))), (3, .fv (.el (.sc (.int .i64 e))))], []⟩ => (match ((!fcmp .geq .f64 (lgUp 200 y).1 4609434218613702656 && (decide (-5000 ≤ e ∧ e ≤ 5000) && Nat.ble (lgUp 200 y).2 400)) : Bool) with
    | true => k (.exit 1) ⟨[(0, .fv (.el (.sc (.fl .f64 ((lgUp 200 y).1))))), (3, .fv (.el (.sc (.int .i64 (e + ((lgUp 200 y).2 : Int))))))], []⟩
    | false => none)
  | _ => none
def lp222_1 : St → (Ex → St → R) → R := fun s k => match s with
  | ⟨[(0, .fv (.el (.sc (.fl .f64 y)))), (3, .fv (.el (.sc (.int .i64 e))))], []⟩ => (match ((!fcmp .lss .f64 (lgDn 200 y).1 4604930618986332160 && (decide (-5000 ≤ e ∧ e ≤ 5000) && Nat.ble (lgDn 200 y).2 400)) : Bool) with
    | true => k (.exit 3) ⟨[(0, .fv (.el (.sc (.fl .f64 ((lgDn 200 y).1))))), (3, .fv (.el (.sc (.int .i64 (e - ((lgDn 200 y).2 : Int))))))], []⟩
    | false => none)
  | _ => none
def lp222_2 : St → (Ex → St → R) → R := fun s k => match s with
  | ⟨[(3, .fv (.el (.sc (.int .i64 e)))), (4, .fv (.el (.sc (.fl .f64 z)))), (5, .fv (.el (.sc (.fl .f64 u)))), (6, .fv (.el (.sc (.fl .f64 q)))), (7, .fv (.el (.sc (.int .i64 i))))], []⟩ => (match (decide (i = 25) : Bool) with
    | true => k (.exit 5) ⟨[(3, .fv (.el (.sc (.int .i64 e)))), (4, .fv (.el (.sc (.fl .f64 z)))), (6, .fv (.el (.sc (.fl .f64 (lgPoly u q)))))], []⟩
    | false => none)
  | _ => none
def l222 : Loops := fun key s k => bif Nat.beq key 8 then lp222 s k else bif Nat.beq key 11 then lp222_1 s k else bif Nat.beq key 18 then lp222_2 s k else none
theorem st222 (y : Nat) (e : Int) (m : Nat) (k : Ex → St → R) : iterK a222 [0, 3] [0, 3] (codeK T3 a222 l222 Try.f222.ntmps (loopAt Try.f222 0)) (m + 1) ⟨[(0, .fv (.el (.sc (.fl .f64 y)))), (3, .fv (.el (.sc (.int .i64 e))))], []⟩ k = (match (fcmp .geq .f64 y 4609434218613702656 : Bool) with
  | true => iterK a222 [0, 3] [0, 3] (codeK T3 a222 l222 Try.f222.ntmps (loopAt Try.f222 0)) m ⟨[(0, .fv (.el (.sc (.fl .f64 (fop .quo .f64 y 4611686018427387904))))), (3, .fv (.el (.sc (.int .i64 (IntKind.i64.wrap (e + 1))))))], []⟩ k
  | false => k (.exit 1) ⟨[(0, .fv (.el (.sc (.fl .f64 y)))), (3, .fv (.el (.sc (.int .i64 e))))], []⟩) := by kernel_rfl
theorem ind222 (k : Ex → St → R) : ∀ (m y : Nat) (e : Int), -8000 ≤ e - m → e + m ≤ 8000 → fcmp .geq .f64 (lgUp m y).1 4609434218613702656 = false → iterK a222 [0, 3] [0, 3] (codeK T3 a222 l222 Try.f222.ntmps (loopAt Try.f222 0)) (m + 1) ⟨[(0, .fv (.el (.sc (.fl .f64 y)))), (3, .fv (.el (.sc (.int .i64 e))))], []⟩ k = k (.exit 1) ⟨[(0, .fv (.el (.sc (.fl .f64 ((lgUp m y).1))))), (3, .fv (.el (.sc (.int .i64 (e + ((lgUp m y).2 : Int))))))], []⟩ := by
  intro m
  induction m with
  | zero =>
    intro y e h0 hq hd
    rw [st222]
    have hd2 : fcmp .geq .f64 y 4609434218613702656 = false := hd
    rw [hd2]
    have he : e + ((lgUp 0 y).2 : Int) = e := by show e + ((0 : Nat) : Int) = e; omega
    rw [he]
    rfl
  | succ m ih =>
    intro y e h0 hq hd
    have hw : IntKind.i64.wrap (e + 1) = e + 1 := wrap64 (by omega) (by omega)
    rw [st222, hw]
    unfold lgUp at hd ⊢
    cases hg : fcmp .geq .f64 y 4609434218613702656 with
    | true =>
      rw [hg] at hd
      refine (ih (fop .quo .f64 y 4611686018427387904) (e + 1) (by omega) (by omega) hd).trans ?_
      have he : ∀ c : Nat, e + 1 + (c : Int) = e + ((c + 1 : Nat) : Int) := by intro c; omega
      rw [he]
      rfl
    | false =>
      have he : e + ((0 : Nat) : Int) = e := by omega
      show _ = k (.exit 1) ⟨[(0, .fv (.el (.sc (.fl .f64 y)))), (3, .fv (.el (.sc (.int .i64 (e + ((0 : Nat) : Int))))))], []⟩
      rw [he]

theorem lk222 : LOK T3 a222 l222 Try.f222.ntmps (loopAt Try.f222 0) := by
  intro ins outs hA s k out h
  have hA' : ([0, 3], [0, 3]) = (ins, outs) := Option.some.inj ((show a222.lp (firstRegion (loopAt Try.f222 0)) = some ([0, 3], [0, 3]) by kernel_rfl).symm.trans hA)
  cases hA'
  have hk : firstRegion (loopAt Try.f222 0) = 8 := by kernel_rfl
  rw [hk] at h
  change lp222 s k = some out at h
  unfold lp222 at h
  split at h
  · rename_i y e
    cases hg : (!fcmp .geq .f64 (lgUp 200 y).1 4609434218613702656 && (decide (-5000 ≤ e ∧ e ≤ 5000) && Nat.ble (lgUp 200 y).2 400)) with
    | false => rw [hg] at h; cases h
    | true =>
      rw [hg] at h
      simp only [Bool.and_eq_true, decide_eq_true_eq] at hg
      obtain ⟨hd, he, hm⟩ := hg
      refine ⟨201, ?_⟩
      rw [Bool.not_eq_true'] at hd
      exact (ind222 k 200 y e (by omega) (by omega) hd).trans h
  · cases h
theorem st222_1 (y : Nat) (e : Int) (m : Nat) (k : Ex → St → R) : iterK a222 [0, 3] [0, 3] (codeK T3 a222 l222 Try.f222.ntmps (loopAt Try.f222 1)) (m + 1) ⟨[(0, .fv (.el (.sc (.fl .f64 y)))), (3, .fv (.el (.sc (.int .i64 e))))], []⟩ k = (match (fcmp .lss .f64 y 4604930618986332160 : Bool) with
  | true => iterK a222 [0, 3] [0, 3] (codeK T3 a222 l222 Try.f222.ntmps (loopAt Try.f222 1)) m ⟨[(0, .fv (.el (.sc (.fl .f64 (fop .mul .f64 y 4611686018427387904))))), (3, .fv (.el (.sc (.int .i64 (IntKind.i64.wrap (e - 1))))))], []⟩ k
  | false => k (.exit 3) ⟨[(0, .fv (.el (.sc (.fl .f64 y)))), (3, .fv (.el (.sc (.int .i64 e))))], []⟩) := by kernel_rfl
theorem ind222_1 (k : Ex → St → R) : ∀ (m y : Nat) (e : Int), -8000 ≤ e - m → e + m ≤ 8000 → fcmp .lss .f64 (lgDn m y).1 4604930618986332160 = false → iterK a222 [0, 3] [0, 3] (codeK T3 a222 l222 Try.f222.ntmps (loopAt Try.f222 1)) (m + 1) ⟨[(0, .fv (.el (.sc (.fl .f64 y)))), (3, .fv (.el (.sc (.int .i64 e))))], []⟩ k = k (.exit 3) ⟨[(0, .fv (.el (.sc (.fl .f64 ((lgDn m y).1))))), (3, .fv (.el (.sc (.int .i64 (e - ((lgDn m y).2 : Int))))))], []⟩ := by
  intro m
  induction m with
  | zero =>
    intro y e h0 hq hd
    rw [st222_1]
    have hd2 : fcmp .lss .f64 y 4604930618986332160 = false := hd
    rw [hd2]
    have he : e - ((lgDn 0 y).2 : Int) = e := by show e - ((0 : Nat) : Int) = e; omega
    rw [he]
    rfl
  | succ m ih =>
    intro y e h0 hq hd
    have hw : IntKind.i64.wrap (e - 1) = e - 1 := wrap64 (by omega) (by omega)
    rw [st222_1, hw]
    unfold lgDn at hd ⊢
    cases hg : fcmp .lss .f64 y 4604930618986332160 with
    | true =>
      rw [hg] at hd
      refine (ih (fop .mul .f64 y 4611686018427387904) (e - 1) (by omega) (by omega) hd).trans ?_
      have he : ∀ c : Nat, e - 1 - (c : Int) = e - ((c + 1 : Nat) : Int) := by intro c; omega
      rw [he]
      rfl
    | false =>
      have he : e - ((0 : Nat) : Int) = e := by omega
      show _ = k (.exit 3) ⟨[(0, .fv (.el (.sc (.fl .f64 y)))), (3, .fv (.el (.sc (.int .i64 (e - ((0 : Nat) : Int))))))], []⟩
      rw [he]

theorem lk222_1 : LOK T3 a222 l222 Try.f222.ntmps (loopAt Try.f222 1) := by
  intro ins outs hA s k out h
  have hA' : ([0, 3], [0, 3]) = (ins, outs) := Option.some.inj ((show a222.lp (firstRegion (loopAt Try.f222 1)) = some ([0, 3], [0, 3]) by kernel_rfl).symm.trans hA)
  cases hA'
  have hk : firstRegion (loopAt Try.f222 1) = 11 := by kernel_rfl
  rw [hk] at h
  change lp222_1 s k = some out at h
  unfold lp222_1 at h
  split at h
  · rename_i y e
    cases hg : (!fcmp .lss .f64 (lgDn 200 y).1 4604930618986332160 && (decide (-5000 ≤ e ∧ e ≤ 5000) && Nat.ble (lgDn 200 y).2 400)) with
    | false => rw [hg] at h; cases h
    | true =>
      rw [hg] at h
      simp only [Bool.and_eq_true, decide_eq_true_eq] at hg
      obtain ⟨hd, he, hm⟩ := hg
      refine ⟨201, ?_⟩
      rw [Bool.not_eq_true'] at hd
      exact (ind222_1 k 200 y e (by omega) (by omega) hd).trans h
  · cases h
theorem st222_2 (e : Int) (z : Nat) (u : Nat) (q : Nat) (i : Int) (m : Nat) (k : Ex → St → R) : iterK a222 [3, 4, 5, 6, 7] [3, 4, 6] (codeK T3 a222 l222 Try.f222.ntmps (loopAt Try.f222 2)) (m + 1) ⟨[(3, .fv (.el (.sc (.int .i64 e)))), (4, .fv (.el (.sc (.fl .f64 z)))), (5, .fv (.el (.sc (.fl .f64 u)))), (6, .fv (.el (.sc (.fl .f64 q)))), (7, .fv (.el (.sc (.int .i64 i))))], []⟩ k = (match (decide ((i : Int) ≥ 1) : Bool) with
  | true => iterK a222 [3, 4, 5, 6, 7] [3, 4, 6] (codeK T3 a222 l222 Try.f222.ntmps (loopAt Try.f222 2)) m ⟨[(3, .fv (.el (.sc (.int .i64 e)))), (4, .fv (.el (.sc (.fl .f64 z)))), (5, .fv (.el (.sc (.fl .f64 u)))), (6, .fv (.el (.sc (.fl .f64 (fop .add .f64 (fop .quo .f64 4607182418800017408 (fint .f64 i)) (fop .mul .f64 u q)))))), (7, .fv (.el (.sc (.int .i64 (IntKind.i64.wrap (i - 2))))))], []⟩ k
  | false => k (.exit 5) ⟨[(3, .fv (.el (.sc (.int .i64 e)))), (4, .fv (.el (.sc (.fl .f64 z)))), (6, .fv (.el (.sc (.fl .f64 q))))], []⟩) := by kernel_rfl
theorem un222_2 (e : Int) (z : Nat) (u : Nat) (q : Nat) (k : Ex → St → R) : iterK a222 [3, 4, 5, 6, 7] [3, 4, 6] (codeK T3 a222 l222 Try.f222.ntmps (loopAt Try.f222 2)) 14 ⟨[(3, .fv (.el (.sc (.int .i64 e)))), (4, .fv (.el (.sc (.fl .f64 z)))), (5, .fv (.el (.sc (.fl .f64 u)))), (6, .fv (.el (.sc (.fl .f64 q)))), (7, .fv (.el (.sc (.int .i64 25))))], []⟩ k = k (.exit 5) ⟨[(3, .fv (.el (.sc (.int .i64 e)))), (4, .fv (.el (.sc (.fl .f64 z)))), (6, .fv (.el (.sc (.fl .f64 (lgPoly u q)))))], []⟩ := by kernel_rfl

theorem lk222_2 : LOK T3 a222 l222 Try.f222.ntmps (loopAt Try.f222 2) := by
  intro ins outs hA s k out h
  have hA' : ([3, 4, 5, 6, 7], [3, 4, 6]) = (ins, outs) := Option.some.inj ((show a222.lp (firstRegion (loopAt Try.f222 2)) = some ([3, 4, 5, 6, 7], [3, 4, 6]) by kernel_rfl).symm.trans hA)
  cases hA'
  have hk : firstRegion (loopAt Try.f222 2) = 18 := by kernel_rfl
  rw [hk] at h
  change lp222_2 s k = some out at h
  unfold lp222_2 at h
  split at h
  · rename_i e z u q i
    cases hg : decide (i = 25) with
    | false => rw [hg] at h; cases h
    | true =>
      rw [hg] at h
      replace hg := of_decide_eq_true hg
      subst hg
      refine ⟨14, ?_⟩
      exact (un222_2 e z u q k).trans h
  · cases h
theorem e222 (y : Nat) : runFn T3 a222 l222 Try.f222 [.el (.sc (.fl .f64 y))] = (match (fcmp .neq .f64 y y : Bool) with
  | true => some ⟨[.el (.sc (.fl .f64 (nanOf .f64)))], none⟩
  | false => (match (fcmp .lss .f64 y 0 : Bool) with
    | true => some ⟨[.el (.sc (.fl .f64 (nanOf .f64)))], none⟩
    | false => (match (fcmp .eql .f64 y 0 : Bool) with
      | true => some ⟨[.el (.sc (.fl .f64 (infOf ((-1)))))], none⟩
      | false => (match (1 == (1 : Int) : Bool) with
        | true => (match (fcmp .gtr .f64 y 9218868437227405311 : Bool) with
          | true => some ⟨[.el (.sc (.fl .f64 y))], none⟩
          | false => (match ((!fcmp .geq .f64 (lgUp 200 y).1 4609434218613702656 && (decide (-5000 ≤ 0 ∧ 0 ≤ 5000) && Nat.ble (lgUp 200 y).2 400)) : Bool) with
            | true => (match ((!fcmp .lss .f64 (lgDn 200 ((lgUp 200 y).1)).1 4604930618986332160 && (decide (-5000 ≤ (0 + ((lgUp 200 y).2 : Int)) ∧ (0 + ((lgUp 200 y).2 : Int)) ≤ 5000) && Nat.ble (lgDn 200 ((lgUp 200 y).1)).2 400)) : Bool) with
              | true => (match (decide (25 = 25) : Bool) with
                | true => some ⟨[.el (.sc (.fl .f64 (fop .add .f64 (fop .mul .f64 4611686018427387904 (fop .mul .f64 ((fop .quo .f64 (fop .sub .f64 ((lgDn 200 ((lgUp 200 y).1)).1) 4607182418800017408) (fop .add .f64 ((lgDn 200 ((lgUp 200 y).1)).1) 4607182418800017408))) (lgPoly (fop .mul .f64 (fop .quo .f64 (fop .sub .f64 ((lgDn 200 ((lgUp 200 y).1)).1) 4607182418800017408) (fop .add .f64 ((lgDn 200 ((lgUp 200 y).1)).1) 4607182418800017408)) (fop .quo .f64 (fop .sub .f64 ((lgDn 200 ((lgUp 200 y).1)).1) 4607182418800017408) (fop .add .f64 ((lgDn 200 ((lgUp 200 y).1)).1) 4607182418800017408))) 0))) (fop .mul .f64 (fint .f64 ((((0 + ((lgUp 200 y).2 : Int))) - ((lgDn 200 ((lgUp 200 y).1)).2 : Int)))) 4604418534313441775))))], none⟩
                | false => none)
              | false => none)
            | false => none))
        | false => none)))) := by kernel_rfl
theorem s222 (y : Nat) (hg : ((fcmp .neq .f64 y y || fcmp .lss .f64 y 0) || (fcmp .eql .f64 y 0 || (fcmp .gtr .f64 y 9218868437227405311 || lgIn y))) = true) : runFn T3 a222 l222 Try.f222 [.el (.sc (.fl .f64 y))] = (match (fcmp .neq .f64 y y || fcmp .lss .f64 y 0 : Bool) with
  | true => some ⟨[.el (.sc (.fl .f64 (nanOf .f64)))], none⟩
  | false => (match (fcmp .eql .f64 y 0 : Bool) with
    | true => some ⟨[.el (.sc (.fl .f64 (infOf (-1))))], none⟩
    | false => (match (fcmp .gtr .f64 y 9218868437227405311 : Bool) with
      | true => some ⟨[.el (.sc (.fl .f64 y))], none⟩
      | false => some ⟨[.el (.sc (.fl .f64 (logV y)))], none⟩))) := by
  rw [e222]
  cases h1 : fcmp .neq .f64 y y with
  | true => rfl
  | false =>
    cases h2 : fcmp .lss .f64 y 0 with
    | true => rfl
    | false =>
      cases h3 : fcmp .eql .f64 y 0 with
      | true => rfl
      | false =>
        cases h4 : fcmp .gtr .f64 y 9218868437227405311 with
        | true => rfl
        | false =>
          cases h5 : lgIn y with
          | false => (rw [h1, h2, h3, h4, h5] at hg; cases hg)
          | true =>
            obtain ⟨f1, f2, f3, f4, f5, f6, f7, f8, f9, f10, f11, f12, f13, f14⟩ := lg_all (lgIn_of h5).1 (lgIn_of h5).2
            have b1 : Nat.ble (lgUp 200 y).2 400 = true := Nat.ble_eq_true_of_le (by omega)
            have b2 : Nat.ble (lgDn 200 y).2 400 = true := Nat.ble_eq_true_of_le (by omega)
            have b3 : Nat.ble (lgUp 200 (lgDn 200 y).1).2 400 = true := Nat.ble_eq_true_of_le (by omega)
            have hN1 : (0 : Int) + ((lgUp 200 y).2 : Int) = ((lgUp 200 y).2 : Int) := Int.zero_add _
            have hN2 : ((lgUp 200 y).2 : Int) - ((lgDn 200 (lgUp 200 y).1).2 : Int) = lgN y := rfl
            have hX : (lgDn 200 (lgUp 200 y).1).1 = lgX y := rfl
            have i1 : (-5000 : Int) ≤ ((lgUp 200 y).2 : Int) ∧ ((lgUp 200 y).2 : Int) ≤ 5000 := by omega
            have b4 : Nat.ble (lgDn 200 (lgUp 200 y).1).2 400 = true := Nat.ble_eq_true_of_le (by unfold lgN at f10; omega)
            rw [hX] at f2
            simp only [f1, f2, hN1, hN2, hX, i1, b1, b4, and_self, decide_true, Bool.not_false, Bool.and_self, Bool.true_and, Bool.and_true]
            rfl
theorem c222 (y : Nat) (k : List RV → R) (out : Out) (h : (match ((fcmp .neq .f64 y y || fcmp .lss .f64 y 0) || (fcmp .eql .f64 y 0 || (fcmp .gtr .f64 y 9218868437227405311 || lgIn y)) : Bool) with
  | true => (match (fcmp .neq .f64 y y || fcmp .lss .f64 y 0 : Bool) with
    | true => k [.el (.sc (.fl .f64 (nanOf .f64)))]
    | false => (match (fcmp .eql .f64 y 0 : Bool) with
      | true => k [.el (.sc (.fl .f64 (infOf (-1))))]
      | false => (match (fcmp .gtr .f64 y 9218868437227405311 : Bool) with
        | true => k [.el (.sc (.fl .f64 y))]
        | false => k [.el (.sc (.fl .f64 (logV y)))])))
  | false => none) = some out) : ∃ rs, Real Try.prog 222 ∧ COK Try.prog 222 [.el (.sc (.fl .f64 y))] rs ∧ k rs = some out := by
  cases g0 : ((fcmp .neq .f64 y y || fcmp .lss .f64 y 0) || (fcmp .eql .f64 y 0 || (fcmp .gtr .f64 y 9218868437227405311 || lgIn y)) : Bool) with
  | true =>
    rw [g0] at h
    cases g1 : (fcmp .neq .f64 y y || fcmp .lss .f64 y 0 : Bool) with
    | true =>
      rw [g1] at h
      exact ⟨_, real Try.func222 (by kernel_rfl), fn_ok tok3 (A := a222) (L := l222) (r := none) Try.func222 (by kernel_rfl) (by kernel_rfl) (loops3 (by kernel_rfl) lk222 lk222_1 lk222_2) (by rw [s222 _ g0, g1]), h⟩
    | false =>
      rw [g1] at h
      cases g2 : (fcmp .eql .f64 y 0 : Bool) with
      | true =>
        rw [g2] at h
        exact ⟨_, real Try.func222 (by kernel_rfl), fn_ok tok3 (A := a222) (L := l222) (r := none) Try.func222 (by kernel_rfl) (by kernel_rfl) (loops3 (by kernel_rfl) lk222 lk222_1 lk222_2) (by rw [s222 _ g0, g1, g2]), h⟩
      | false =>
        rw [g2] at h
        cases g3 : (fcmp .gtr .f64 y 9218868437227405311 : Bool) with
        | true =>
          rw [g3] at h
          exact ⟨_, real Try.func222 (by kernel_rfl), fn_ok tok3 (A := a222) (L := l222) (r := none) Try.func222 (by kernel_rfl) (by kernel_rfl) (loops3 (by kernel_rfl) lk222 lk222_1 lk222_2) (by rw [s222 _ g0, g1, g2, g3]), h⟩
        | false =>
          rw [g3] at h
          exact ⟨_, real Try.func222 (by kernel_rfl), fn_ok tok3 (A := a222) (L := l222) (r := none) Try.func222 (by kernel_rfl) (by kernel_rfl) (loops3 (by kernel_rfl) lk222 lk222_1 lk222_2) (by rw [s222 _ g0, g1, g2, g3]), h⟩
  | false =>
    rw [g0] at h
    cases h

def S4 : SFn := fun f args k => match f, args with
  | 42, [.vv none .line xss, .vv none .line yss] => (match (Nat.ble xss.length big && xss.all (fun l => Nat.ble l.length big) : Bool) with
    | true => (match (Nat.beq xss.length yss.length : Bool) with
      | true => k [.el (.sc (.bo (all2 eqLL xss yss)))]
      | false => k [.el (.sc (.bo false))])
    | false => none)
  | 87, [.vw none ⟨.line, xs⟩, .vw none ⟨.f32, ys⟩, .el (.sc (.fl .f32 b)), .el (.sc (.fl .f32 d))] => (match (Nat.ble xs.length big && Nat.ble ys.length big : Bool) with
    | true => k [.el (.sc (.bo (linesOk xs && (listOk ys 1 && (fin b && fin d)))))]
    | false => none)
  | 156, [.vw none ⟨.f32, xs⟩, .fn 157 []] => (match (Nat.ble xs.length big : Bool) with
    | true => k [.el (.sc (.bo (xs.any notFin)))]
    | false => none)
  | 156, [.vw none ⟨.f32, xs⟩, .fn 201 []] => (match (Nat.ble xs.length big : Bool) with
    | true => k [.el (.sc (.bo (xs.any notPos)))]
    | false => none)
  | 176, [.el (.sc (.fl .f32 z))] => (match (expOk z : Bool) with
    | true => k [.el (.sc (.fl .f32 (expF z)))]
    | false => none)
  | 220, [.el (.sc (.fl .f32 z))] => (match (expOk z : Bool) with
    | true => k [.el (.sc (.fl .f32 (expF z)))]
    | false => none)
  | 222, [.el (.sc (.fl .f64 y))] => (match ((fcmp .neq .f64 y y || fcmp .lss .f64 y 0) || (fcmp .eql .f64 y 0 || (fcmp .gtr .f64 y 9218868437227405311 || lgIn y)) : Bool) with
    | true => (match (fcmp .neq .f64 y y || fcmp .lss .f64 y 0 : Bool) with
      | true => k [.el (.sc (.fl .f64 (nanOf .f64)))]
      | false => (match (fcmp .eql .f64 y 0 : Bool) with
        | true => k [.el (.sc (.fl .f64 (infOf (-1))))]
        | false => (match (fcmp .gtr .f64 y 9218868437227405311 : Bool) with
          | true => k [.el (.sc (.fl .f64 y))]
          | false => k [.el (.sc (.fl .f64 (logV y)))])))
    | false => none)
  | _, _ => S3 f args k
abbrev M4 : MFn := M3
def T4 : TT := tab.T S4 muts M4
theorem tok4 : TOK Try.prog T4 := by
  refine (tab_ok tabok).tok (fun f args k out h => ?_) (fun f vec args k out h => ?_)
  · change S4 f args k = some out at h
    unfold S4 at h
    split at h
    · exact (fun k out h => cok_call (c42 _ _ k out h)) k out h
    · exact (fun k out h => cok_call (c87 _ _ _ _ k out h)) k out h
    · exact (fun k out h => cok_call (c156 _ k out h)) k out h
    · exact (fun k out h => cok_call (c156b _ k out h)) k out h
    · exact (fun k out h => cok_call (c176 _ k out h)) k out h
    · exact (fun k out h => cok_call (c220 _ k out h)) k out h
    · exact (fun k out h => cok_call (c222 _ k out h)) k out h
    · exact tok3.S f args k out h
  · exact tok3.M f vec args k out h

end Go.Sm.Ytdeplgocckdbiaa
