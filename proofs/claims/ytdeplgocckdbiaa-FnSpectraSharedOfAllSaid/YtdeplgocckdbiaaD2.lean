/- What the functions hand back: level 1. -/
import Derived.Test.YtdeplgocckdbiaaD1
namespace Go.Sm.Ytdeplgocckdbiaa
open Go Go.Sm Go.RowKit Go.Proofs

/-! laws.sameAll32 -/
def a58 : Ann := ann [(4, [0, 1, 5], [])] [4] 0
def lp58 : St → (Ex → St → R) → R := fun s k => match s with
  | ⟨[(0, .fv (.vw (some 0) ⟨.f32, xs⟩)), (1, .fv (.vw (some 1) ⟨.f32, ys⟩)), (5, .fv (.el (.sc (.int .i64 i))))], []⟩ => (match (decide (i = 0) && (Nat.beq xs.length ys.length && Nat.ble xs.length big) : Bool) with
    | true => (match (all2 same32 xs ys : Bool) with
      | true => k (.exit 0) ⟨[], []⟩
      | false => k .ret ⟨[(4, .fv (.el (.sc (.bo false))))], []⟩)
    | false => none)
  | _ => none
def l58 : Loops := fun key s k => bif Nat.beq key 4 then lp58 s k else none
theorem st58 (xs : List Nat) (ys : List Nat) (i : Int) (m : Nat) (k : Ex → St → R) : iterK a58 [0, 1, 5] [] (codeK T1 a58 l58 Try.f58.ntmps (loopAt Try.f58 0)) (m + 1) ⟨[(0, .fv (.vw (some 0) ⟨.f32, xs⟩)), (1, .fv (.vw (some 1) ⟨.f32, ys⟩)), (5, .fv (.el (.sc (.int .i64 i))))], []⟩ k = (match (decide ((i : Int) < (xs.length : Int)) : Bool) with
  | true => (match (decide (0 ≤ (i : Int) ∧ (i : Int) < (xs.length : Int)) && true : Bool) with
    | true => (match (xs : List Nat)[Int.toNat i]? with
      | some x1 => (match (decide (0 ≤ (i : Int) ∧ (i : Int) < (ys.length : Int)) && true : Bool) with
        | true => (match (ys : List Nat)[Int.toNat i]? with
          | some x2 => (match (!(same32 x1 x2) : Bool) with
            | true => k .ret ⟨[(4, .fv (.el (.sc (.bo false))))], []⟩
            | false => iterK a58 [0, 1, 5] [] (codeK T1 a58 l58 Try.f58.ntmps (loopAt Try.f58 0)) m ⟨[(0, .fv (.vw (some 0) ⟨.f32, xs⟩)), (1, .fv (.vw (some 1) ⟨.f32, ys⟩)), (5, .fv (.el (.sc (.int .i64 (IntKind.i64.wrap (i + 1))))))], []⟩ k)
          | none => none)
        | false => none)
      | none => none)
    | false => none)
  | false => k (.exit 0) ⟨[], []⟩) := by kernel_rfl
theorem ind58 (xs ys : List Nat) (hl : xs.length = ys.length) (hx : Nat.ble xs.length big = true) (k : Ex → St → R) : ∀ (m j : Nat), j + m = xs.length → iterK a58 [0, 1, 5] [] (codeK T1 a58 l58 Try.f58.ntmps (loopAt Try.f58 0)) (m + 1) ⟨[(0, .fv (.vw (some 0) ⟨.f32, xs⟩)), (1, .fv (.vw (some 1) ⟨.f32, ys⟩)), (5, .fv (.el (.sc (.int .i64 (j : Int)))))], []⟩ k =
    (match all2 same32 (xs.drop j) (ys.drop j) with
    | true => k (.exit 0) ⟨[], []⟩
    | false => k .ret ⟨[(4, .fv (.el (.sc (.bo false))))], []⟩) := by
  intro m
  induction m with
  | zero =>
    intro j hj
    have h1 : ¬ ((j : Int) < (xs.length : Int)) := by omega
    rw [st58, List.drop_of_length_le (by omega)]
    simp [h1, all2]
  | succ m ih =>
    intro j hj
    have hlt : j < xs.length := by omega
    have hlt2 : j < ys.length := by omega
    have h1 : ((j : Int) < (xs.length : Int)) := by omega
    have h12 : ((j : Int) < (ys.length : Int)) := by omega
    have h2 : (0 : Int) ≤ (j : Int) := by omega
    rw [st58, wrap_succ hlt hx]
    have h3 : xs[Int.toNat (j : Int)]? = some xs[j] := by simp [hlt]
    have h4 : ys[Int.toNat (j : Int)]? = some ys[j] := by simp [hlt2]
    rw [List.drop_eq_getElem_cons hlt, List.drop_eq_getElem_cons hlt2, ih (j + 1) (by omega)]
    simp only [h1, h12, h2, h3, h4, and_self, decide_true, Bool.and_true, all2]
    cases hp : same32 xs[j] ys[j] <;> simp

theorem lk58 : LOK T1 a58 l58 Try.f58.ntmps (loopAt Try.f58 0) := by
  intro ins outs hA s k out h
  have hA' : ([0, 1, 5], []) = (ins, outs) := Option.some.inj ((show a58.lp (firstRegion (loopAt Try.f58 0)) = some ([0, 1, 5], []) by kernel_rfl).symm.trans hA)
  cases hA'
  have hk : firstRegion (loopAt Try.f58 0) = 4 := by kernel_rfl
  rw [hk] at h
  change lp58 s k = some out at h
  unfold lp58 at h
  split at h
  · rename_i xs ys i
    cases hg : (decide (i = 0) && (Nat.beq xs.length ys.length && Nat.ble xs.length big)) with
    | false => rw [hg] at h; cases h
    | true =>
      rw [hg] at h
      simp only [Bool.and_eq_true, decide_eq_true_eq] at hg
      obtain ⟨rfl, hl, hx⟩ := hg
      refine ⟨xs.length + 1, ?_⟩
      exact (ind58 xs ys (Nat.eq_of_beq_eq_true hl) hx k xs.length 0 (by omega)).trans h
  · cases h
theorem e58 (xs : List Nat) (ys : List Nat) : runFn T1 a58 l58 Try.f58 [.vw none ⟨.f32, xs⟩, .vw none ⟨.f32, ys⟩] = (match (!(((xs.length : Int) : Int) == (ys.length : Int)) : Bool) with
  | true => some ⟨[.el (.sc (.bo false))], none⟩
  | false => (match (decide (0 = 0) && (Nat.beq xs.length ys.length && Nat.ble xs.length big) : Bool) with
    | true => (match (all2 same32 xs ys : Bool) with
      | true => some ⟨[.el (.sc (.bo true))], none⟩
      | false => some ⟨[.el (.sc (.bo false))], none⟩)
    | false => none)) := by kernel_rfl
theorem s58 (xs : List Nat) (ys : List Nat) : runFn T1 a58 l58 Try.f58 [.vw none ⟨.f32, xs⟩, .vw none ⟨.f32, ys⟩] = (match (Nat.beq xs.length ys.length : Bool) with
  | true => (match (Nat.ble xs.length big : Bool) with
    | true => some ⟨[.el (.sc (.bo (all2 same32 xs ys)))], none⟩
    | false => none)
  | false => some ⟨[.el (.sc (.bo false))], none⟩) := by
  rw [e58]
  cases hl : Nat.beq xs.length ys.length with
  | false =>
    have h1 : xs.length ≠ ys.length := fun e => by rw [e, Nat.beq_refl] at hl; cases hl
    have h2 : ((xs.length : Int) == (ys.length : Int)) = false := beq_false_of_ne (by omega)
    simp only [h2, Bool.not_false]
  | true =>
    have h1 := Nat.eq_of_beq_eq_true hl
    have h2 : ((xs.length : Int) == (ys.length : Int)) = true := beq_iff_eq.2 (by omega)
    simp only [h2, Bool.not_true]
    cases h : Nat.ble xs.length big with
    | false => simp
    | true => cases h3 : all2 same32 xs ys <;> simp
theorem c58 (xs : List Nat) (ys : List Nat) (k : List RV → R) (out : Out) (h : (match (Nat.beq xs.length ys.length : Bool) with
  | true => (match (Nat.ble xs.length big : Bool) with
    | true => k [.el (.sc (.bo (all2 same32 xs ys)))]
    | false => none)
  | false => k [.el (.sc (.bo false))]) = some out) : ∃ rs, Real Try.prog 58 ∧ COK Try.prog 58 [.vw none ⟨.f32, xs⟩, .vw none ⟨.f32, ys⟩] rs ∧ k rs = some out := by
  cases g0 : (Nat.beq xs.length ys.length : Bool) with
  | true =>
    rw [g0] at h
    cases g1 : (Nat.ble xs.length big : Bool) with
    | true =>
      rw [g1] at h
      exact ⟨_, real Try.func58 (by kernel_rfl), fn_ok tok1 (A := a58) (L := l58) (r := none) Try.func58 (by kernel_rfl) (by kernel_rfl) (loops1 (by kernel_rfl) lk58) (by rw [s58, g0, g1]), h⟩
    | false =>
      rw [g1] at h
      cases h
  | false =>
    rw [g0] at h
    exact ⟨_, real Try.func58 (by kernel_rfl), fn_ok tok1 (A := a58) (L := l58) (r := none) Try.func58 (by kernel_rfl) (by kernel_rfl) (loops1 (by kernel_rfl) lk58) (by rw [s58, g0]), h⟩

/-! impl.checked -/
theorem e90 (c : Nat) : runFn T1 none0 noL Try.f90 [.el (.sc (.fl .f32 c))] = (match (!(fin c) : Bool) with
  | true => some ⟨[.el (.sc (.fl .f32 0)), .el (.sc (.bo false))], none⟩
  | false => some ⟨[.el (.sc (.fl .f32 c)), .el (.sc (.bo true))], none⟩) := by kernel_rfl
theorem s90 (c : Nat) : runFn T1 none0 noL Try.f90 [.el (.sc (.fl .f32 c))] = some ⟨[.el (.sc (.fl .f32 (numOf c))), .el (.sc (.bo (fin c)))], none⟩ := by
  rw [e90]
  unfold numOf
  cases fin c <;> rfl
theorem c90 (c : Nat) (k : List RV → R) (out : Out) (h : k [.el (.sc (.fl .f32 (numOf c))), .el (.sc (.bo (fin c)))] = some out) : ∃ rs, Real Try.prog 90 ∧ COK Try.prog 90 [.el (.sc (.fl .f32 c))] rs ∧ k rs = some out := by
  exact ⟨_, real Try.func90 (by kernel_rfl), fn_ok tok1 (A := none0) (L := noL) (r := none) Try.func90 (by kernel_rfl) (by kernel_rfl) (loops0 (by kernel_rfl)) (by rw [s90]), h⟩

/-! spec.l05Line -/
theorem e121 (xs : List LineV) (j : Nat) : runFn T1 none0 noL Try.f121 [.pt ⟨.v ⟨.line, xs⟩, 4, j, 0⟩] = (match (xs : List LineV)[j]? with
  | some x1 => (match (fin x1.p : Bool) with
    | true => (match (xs : List LineV)[j]? with
      | some x2 => (match (fin x2.h : Bool) with
        | true => (match (xs : List LineV)[j]? with
          | some x3 => (match (fin x3.w : Bool) with
            | true => (match (xs : List LineV)[j]? with
              | some x4 => (match (fcmp .gtr .f32 x4.w 0 : Bool) with
                | true => (match (xs : List LineV)[j]? with
                  | some x5 => some ⟨[.el (.sc (.bo (within x5.k 0 3)))], none⟩
                  | none => none)
                | false => some ⟨[.el (.sc (.bo false))], none⟩)
              | none => none)
            | false => some ⟨[.el (.sc (.bo false))], none⟩)
          | none => none)
        | false => some ⟨[.el (.sc (.bo false))], none⟩)
      | none => none)
    | false => some ⟨[.el (.sc (.bo false))], none⟩)
  | none => none) := by kernel_rfl
theorem s121 (xs : List LineV) (j : Nat) : runFn T1 none0 noL Try.f121 [.pt ⟨.v ⟨.line, xs⟩, 4, j, 0⟩] = (match xs[j]? with
  | some l => some ⟨[.el (.sc (.bo (okLine l)))], none⟩
  | none => none) := by
  rw [e121]
  cases h : xs[j]? with
  | none => simp [h]
  | some l =>
    obtain ⟨lp, lh, lw, lk⟩ := l
    simp only [h]
    unfold okLine above
    cases fin lp <;> cases fin lh <;> cases fin lw <;> cases fcmp .gtr .f32 lw 0 <;> simp
theorem c121 (xs : List LineV) (j : Nat) (k : List RV → R) (out : Out) (h : (match xs[j]? with
  | some l => k [.el (.sc (.bo (okLine l)))]
  | none => none) = some out) : ∃ rs, Real Try.prog 121 ∧ COK Try.prog 121 [.pt ⟨.v ⟨.line, xs⟩, 4, j, 0⟩] rs ∧ k rs = some out := by
  cases g0 : (xs[j]?) with
  | some l =>
    rw [g0] at h
    exact ⟨_, real Try.func121 (by kernel_rfl), fn_ok tok1 (A := none0) (L := noL) (r := none) Try.func121 (by kernel_rfl) (by kernel_rfl) (loops0 (by kernel_rfl)) (by rw [s121, g0]), h⟩
  | none =>
    rw [g0] at h
    cases h

/-! impl.areWorkers -/
theorem s128 (n : Int) : runFn T1 none0 noL Try.f128 [.el (.sc (.int .i64 n))] = some ⟨[.el (.sc (.bo (within n 1 8)))], none⟩ := by kernel_rfl
theorem c128 (n : Int) (k : List RV → R) (out : Out) (h : k [.el (.sc (.bo (within n 1 8)))] = some out) : ∃ rs, Real Try.prog 128 ∧ COK Try.prog 128 [.el (.sc (.int .i64 n))] rs ∧ k rs = some out := by
  exact ⟨_, real Try.func128 (by kernel_rfl), fn_ok tok1 (A := none0) (L := noL) (r := none) Try.func128 (by kernel_rfl) (by kernel_rfl) (loops0 (by kernel_rfl)) (by rw [s128]), h⟩

/-! impl.areFinite$1 -/
theorem s157 (c : Nat) : runFn T1 none0 noL Try.f157 [.el (.sc (.fl .f32 c))] = some ⟨[.el (.sc (.bo (notFin c)))], none⟩ := by kernel_rfl
theorem c157 (c : Nat) (k : List RV → R) (out : Out) (h : k [.el (.sc (.bo (notFin c)))] = some out) : ∃ rs, Real Try.prog 157 ∧ COK Try.prog 157 [.el (.sc (.fl .f32 c))] rs ∧ k rs = some out := by
  exact ⟨_, real Try.func157 (by kernel_rfl), fn_ok tok1 (A := none0) (L := noL) (r := none) Try.func157 (by kernel_rfl) (by kernel_rfl) (loops0 (by kernel_rfl)) (by rw [s157]), h⟩

/-! spec.l02Number -/
theorem e169 (c : Nat) : runFn T1 none0 noL Try.f169 [.el (.sc (.fl .f32 c))] = (match (!(fin c) : Bool) with
  | true => some ⟨[.el (.sc (.fl .f32 0)), .el (.sc (.bo false))], none⟩
  | false => some ⟨[.el (.sc (.fl .f32 c)), .el (.sc (.bo true))], none⟩) := by kernel_rfl
theorem s169 (c : Nat) : runFn T1 none0 noL Try.f169 [.el (.sc (.fl .f32 c))] = some ⟨[.el (.sc (.fl .f32 (numOf c))), .el (.sc (.bo (fin c)))], none⟩ := by
  rw [e169]
  unfold numOf
  cases fin c <;> rfl
theorem c169 (c : Nat) (k : List RV → R) (out : Out) (h : k [.el (.sc (.fl .f32 (numOf c))), .el (.sc (.bo (fin c)))] = some out) : ∃ rs, Real Try.prog 169 ∧ COK Try.prog 169 [.el (.sc (.fl .f32 c))] rs ∧ k rs = some out := by
  exact ⟨_, real Try.func169 (by kernel_rfl), fn_ok tok1 (A := none0) (L := noL) (r := none) Try.func169 (by kernel_rfl) (by kernel_rfl) (loops0 (by kernel_rfl)) (by rw [s169]), h⟩

/-! impl.arePositive$1 -/
theorem e201 (c : Nat) : runFn T1 none0 noL Try.f201 [.el (.sc (.fl .f32 c))] = (match (!(fin c) : Bool) with
  | true => some ⟨[.el (.sc (.bo true))], none⟩
  | false => some ⟨[.el (.sc (.bo (fcmp .leq .f32 c 0)))], none⟩) := by kernel_rfl
theorem s201 (c : Nat) : runFn T1 none0 noL Try.f201 [.el (.sc (.fl .f32 c))] = some ⟨[.el (.sc (.bo (notPos c)))], none⟩ := by
  rw [e201]
  unfold notPos
  cases fin c <;> rfl
theorem c201 (c : Nat) (k : List RV → R) (out : Out) (h : k [.el (.sc (.bo (notPos c)))] = some out) : ∃ rs, Real Try.prog 201 ∧ COK Try.prog 201 [.el (.sc (.fl .f32 c))] rs ∧ k rs = some out := by
  exact ⟨_, real Try.func201 (by kernel_rfl), fn_ok tok1 (A := none0) (L := noL) (r := none) Try.func201 (by kernel_rfl) (by kernel_rfl) (loops0 (by kernel_rfl)) (by rw [s201]), h⟩

/-! math.Inf -/
theorem e202 (n : Int) : runFn T1 none0 noL Try.f202 [.el (.sc (.int .i64 n))] = (match (decide ((n : Int) ≥ 0) : Bool) with
  | true => some ⟨[.el (.sc (.fl .f64 (cn .f64 (Int.toNat 9218868437227405312))))], none⟩
  | false => some ⟨[.el (.sc (.fl .f64 (cn .f64 (Int.toNat 18442240474082181120))))], none⟩) := by kernel_rfl
theorem s202 (n : Int) : runFn T1 none0 noL Try.f202 [.el (.sc (.int .i64 n))] = some ⟨[.el (.sc (.fl .f64 (infOf n)))], none⟩ := by
  rw [e202]
  unfold infOf
  cases decide (n ≥ 0) <;> rfl
theorem c202 (n : Int) (k : List RV → R) (out : Out) (h : k [.el (.sc (.fl .f64 (infOf n)))] = some out) : ∃ rs, Real Try.prog 202 ∧ COK Try.prog 202 [.el (.sc (.int .i64 n))] rs ∧ k rs = some out := by
  exact ⟨_, real Try.func202 (by kernel_rfl), fn_ok tok1 (A := none0) (L := noL) (r := none) Try.func202 (by kernel_rfl) (by kernel_rfl) (loops0 (by kernel_rfl)) (by rw [s202]), h⟩

def S2 : SFn := fun f args k => match f, args with
  | 58, [.vw none ⟨.f32, xs⟩, .vw none ⟨.f32, ys⟩] => (match (Nat.beq xs.length ys.length : Bool) with
    | true => (match (Nat.ble xs.length big : Bool) with
      | true => k [.el (.sc (.bo (all2 same32 xs ys)))]
      | false => none)
    | false => k [.el (.sc (.bo false))])
  | 90, [.el (.sc (.fl .f32 c))] => k [.el (.sc (.fl .f32 (numOf c))), .el (.sc (.bo (fin c)))]
  | 121, [.pt ⟨.v ⟨.line, xs⟩, 4, j, 0⟩] => (match xs[j]? with
    | some l => k [.el (.sc (.bo (okLine l)))]
    | none => none)
  | 128, [.el (.sc (.int .i64 n))] => k [.el (.sc (.bo (within n 1 8)))]
  | 157, [.el (.sc (.fl .f32 c))] => k [.el (.sc (.bo (notFin c)))]
  | 169, [.el (.sc (.fl .f32 c))] => k [.el (.sc (.fl .f32 (numOf c))), .el (.sc (.bo (fin c)))]
  | 201, [.el (.sc (.fl .f32 c))] => k [.el (.sc (.bo (notPos c)))]
  | 202, [.el (.sc (.int .i64 n))] => k [.el (.sc (.fl .f64 (infOf n)))]
  | _, _ => S1 f args k
abbrev M2 : MFn := M1
def T2 : TT := tab.T S2 muts M2
theorem tok2 : TOK Try.prog T2 := by
  refine (tab_ok tabok).tok (fun f args k out h => ?_) (fun f vec args k out h => ?_)
  · change S2 f args k = some out at h
    unfold S2 at h
    split at h
    · exact (fun k out h => cok_call (c58 _ _ k out h)) k out h
    · exact (fun k out h => cok_call (c90 _ k out h)) k out h
    · exact (fun k out h => cok_call (c121 _ _ k out h)) k out h
    · exact (fun k out h => cok_call (c128 _ k out h)) k out h
    · exact (fun k out h => cok_call (c157 _ k out h)) k out h
    · exact (fun k out h => cok_call (c169 _ k out h)) k out h
    · exact (fun k out h => cok_call (c201 _ k out h)) k out h
    · exact (fun k out h => cok_call (c202 _ k out h)) k out h
    · exact tok1.S f args k out h
  · exact tok1.M f vec args k out h

end Go.Sm.Ytdeplgocckdbiaa
