/- What the functions hand back: level 7. -/
import Derived.Test.YtdnfgoolapikmaaD7
namespace Go.Sm.Ytdnfgoolapikmaa
open Go Go.Sm Go.RowKit Go.Proofs

/-! impl.PlaceOf -/
def a43 : Ann := ann [(11, [0, 1, 16, 17, 71, 72], [16, 17])] [10, 11] 0
def lp43 : St → (Ex → St → R) → R := fun s k => match s with
  | ⟨[(0, .fv (.vw (some 0) ⟨.f32, xs⟩)), (1, .fv (.el (.sc (.fl .f32 w)))), (16, .fv (.el (.sc (.fl .f32 a)))), (17, .fv (.el (.sc (.fl .f32 b)))), (71, .fv (.el (.sc (.int .i64 n)))), (72, .fv (.el (.sc (.int .i64 i))))], []⟩ => (match ((decide (i = 0) && (curveOk xs && decide (n ≤ 1099511627776))) : Bool) with
    | true => (match repE (placeStep xs w) (n.toNat) 0 ((a, b) : Nat × Nat) with
      | some s => k (.exit 0) ⟨[(16, .fv (.el (.sc (.fl .f32 s.1)))), (17, .fv (.el (.sc (.fl .f32 s.2))))], []⟩
      | none => k .ret ⟨[(10, .fv (.el (.sc (.fl .f32 0)))), (11, .fv (.el (.sc (.bo false))))], []⟩)
    | false => none)
  | _ => none
def l43 : Loops := fun key s k => bif Nat.beq key 11 then lp43 s k else none
theorem st43 (xs : List Nat) (w : Nat) (a : Nat) (b : Nat) (n : Int) (i : Int) (m : Nat) (k : Ex → St → R) : iterK a43 [0, 1, 16, 17, 71, 72] [16, 17] (codeK T7 a43 l43 Try.f43.ntmps (loopAt Try.f43 0)) (m + 1) ⟨[(0, .fv (.vw (some 0) ⟨.f32, xs⟩)), (1, .fv (.el (.sc (.fl .f32 w)))), (16, .fv (.el (.sc (.fl .f32 a)))), (17, .fv (.el (.sc (.fl .f32 b)))), (71, .fv (.el (.sc (.int .i64 n)))), (72, .fv (.el (.sc (.int .i64 i))))], []⟩ k = (match (decide ((i : Int) < n) : Bool) with
  | true => (match (!(((xs.all fin && (decide (xs.length ≥ 1) && decide (xs.length ≤ 3))) && fin (fop .mul .f32 1056964608 (fop .add .f32 a b))) && fin (horner (fop .mul .f32 1056964608 (fop .add .f32 a b)) 0 xs)) : Bool) with
    | true => k .ret ⟨[(10, .fv (.el (.sc (.fl .f32 0)))), (11, .fv (.el (.sc (.bo false))))], []⟩
    | false => (match (fcmp .lss .f32 (orZero (((xs.all fin && (decide (xs.length ≥ 1) && decide (xs.length ≤ 3))) && fin (fop .mul .f32 1056964608 (fop .add .f32 a b))) && fin (horner (fop .mul .f32 1056964608 (fop .add .f32 a b)) 0 xs)) (horner (fop .mul .f32 1056964608 (fop .add .f32 a b)) 0 xs)) w : Bool) with
      | true => iterK a43 [0, 1, 16, 17, 71, 72] [16, 17] (codeK T7 a43 l43 Try.f43.ntmps (loopAt Try.f43 0)) m ⟨[(0, .fv (.vw (some 0) ⟨.f32, xs⟩)), (1, .fv (.el (.sc (.fl .f32 w)))), (16, .fv (.el (.sc (.fl .f32 (fop .mul .f32 1056964608 (fop .add .f32 a b)))))), (17, .fv (.el (.sc (.fl .f32 b)))), (71, .fv (.el (.sc (.int .i64 n)))), (72, .fv (.el (.sc (.int .i64 (IntKind.i64.wrap (i + 1))))))], []⟩ k
      | false => iterK a43 [0, 1, 16, 17, 71, 72] [16, 17] (codeK T7 a43 l43 Try.f43.ntmps (loopAt Try.f43 0)) m ⟨[(0, .fv (.vw (some 0) ⟨.f32, xs⟩)), (1, .fv (.el (.sc (.fl .f32 w)))), (16, .fv (.el (.sc (.fl .f32 a)))), (17, .fv (.el (.sc (.fl .f32 (fop .mul .f32 1056964608 (fop .add .f32 a b)))))), (71, .fv (.el (.sc (.int .i64 n)))), (72, .fv (.el (.sc (.int .i64 (IntKind.i64.wrap (i + 1))))))], []⟩ k))
  | false => k (.exit 0) ⟨[(16, .fv (.el (.sc (.fl .f32 a)))), (17, .fv (.el (.sc (.fl .f32 b))))], []⟩) := by kernel_rfl
theorem ind43 (xs : List Nat) (w : Nat) (n : Int) (hc : (curveOk xs) = true) (k : Ex → St → R) : ∀ (m j : Nat) (a : Nat) (b : Nat), n ≤ 1099511627776 → 0 ≤ j → j + m = n.toNat → iterK a43 [0, 1, 16, 17, 71, 72] [16, 17] (codeK T7 a43 l43 Try.f43.ntmps (loopAt Try.f43 0)) (m + 1) ⟨[(0, .fv (.vw (some 0) ⟨.f32, xs⟩)), (1, .fv (.el (.sc (.fl .f32 w)))), (16, .fv (.el (.sc (.fl .f32 a)))), (17, .fv (.el (.sc (.fl .f32 b)))), (71, .fv (.el (.sc (.int .i64 n)))), (72, .fv (.el (.sc (.int .i64 (j : Int)))))], []⟩ k =
    (match repE (placeStep xs w) m j ((a, b) : Nat × Nat) with
    | some s => k (.exit 0) ⟨[(16, .fv (.el (.sc (.fl .f32 s.1)))), (17, .fv (.el (.sc (.fl .f32 s.2))))], []⟩
    | none => k .ret ⟨[(10, .fv (.el (.sc (.fl .f32 0)))), (11, .fv (.el (.sc (.bo false))))], []⟩) := by
  intro m
  induction m with
  | zero =>
    intro j a b hs0 hlo hj
    have h1 : ¬ ((j : Int) < n) := by omega
    rw [st43]
    simp only [h1, repE, decide_false] <;> rfl
  | succ m ih =>
    intro j a b hs0 hlo hj
    have h1 : (j : Int) < n := by omega
    have wn : IntKind.i64.wrap ((j : Int) + 1) = ((j + 1 : Nat) : Int) := wrapN (by omega) (by omega)
    rw [st43]
    simp only [h1, wn, and_self, decide_true, Bool.and_true, Int.le_refl]
    have hc2 := hc
    unfold curveOk at hc2
    have hne : xs ≠ [] := by
      intro e
      subst e
      simp at hc2
    rw [repE_succ]
    unfold placeStep
    dsimp only
    generalize hM : fop .mul .f32 1056964608 (fop .add .f32 a b) = M
    rw [hc2]
    cases h2 : fin (horner M 0 xs) with
    | false => simp [orZero]
    | true =>
      have h3 : fin M = true := by
        cases h4 : fin M with
        | true => rfl
        | false => rw [horner_notFin h4 hne] at h2; cases h2
      rw [h3]
      simp only [Bool.true_and, orZero, cond_true]
      cases h5 : fcmp .lss .f32 (horner M 0 xs) w with
      | true => exact ih (j + 1) M b hs0 (by omega) (by omega)
      | false => exact ih (j + 1) a M hs0 (by omega) (by omega)

theorem lk43 : LOK T7 a43 l43 Try.f43.ntmps (loopAt Try.f43 0) := by
  intro ins outs hA s k out h
  have hA' : ([0, 1, 16, 17, 71, 72], [16, 17]) = (ins, outs) := Option.some.inj ((show a43.lp (firstRegion (loopAt Try.f43 0)) = some ([0, 1, 16, 17, 71, 72], [16, 17]) by kernel_rfl).symm.trans hA)
  cases hA'
  have hk : firstRegion (loopAt Try.f43 0) = 11 := by kernel_rfl
  rw [hk] at h
  change lp43 s k = some out at h
  unfold lp43 at h
  split at h
  · rename_i xs w a b n i
    cases hg : (decide (i = 0) && (curveOk xs && decide (n ≤ 1099511627776))) with
    | false => rw [hg] at h; cases h
    | true =>
      rw [hg] at h
      simp only [Bool.and_eq_true, decide_eq_true_eq] at hg
      obtain ⟨rfl, hc, gs0⟩ := hg
      refine ⟨(n.toNat) + 1, ?_⟩
      exact (ind43 xs w n hc k (n.toNat) 0 a b (by omega) (by omega) (by omega)).trans h
  · cases h
theorem e43 (xs : List Nat) (w : Nat) (a : Nat) (b : Nat) (n : Int) : runFn T7 a43 l43 Try.f43 [.vw none ⟨.f32, xs⟩, .el (.sc (.fl .f32 w)), .el (.sc (.fl .f32 a)), .el (.sc (.fl .f32 b)), .el (.sc (.int .i64 n))] = (match (!(([w, a, b]).all fin) : Bool) with
  | true => some ⟨[.el (.sc (.fl .f32 0)), .el (.sc (.bo false))], none⟩
  | false => (match (fcmp .geq .f32 a b : Bool) with
    | true => some ⟨[.el (.sc (.fl .f32 0)), .el (.sc (.bo false))], none⟩
    | false => (match (!(within n 1 32) : Bool) with
      | true => some ⟨[.el (.sc (.fl .f32 0)), .el (.sc (.bo false))], none⟩
      | false => (match (!(((xs.all fin && (decide (xs.length ≥ 1) && decide (xs.length ≤ 3))) && fin a) && fin (horner a 0 xs)) : Bool) with
        | true => some ⟨[.el (.sc (.fl .f32 0)), .el (.sc (.bo false))], none⟩
        | false => (match (!(((xs.all fin && (decide (xs.length ≥ 1) && decide (xs.length ≤ 3))) && fin b) && fin (horner b 0 xs)) : Bool) with
          | true => some ⟨[.el (.sc (.fl .f32 0)), .el (.sc (.bo false))], none⟩
          | false => (match ((fcmp .lss .f32 (orZero (((xs.all fin && (decide (xs.length ≥ 1) && decide (xs.length ≤ 3))) && fin a) && fin (horner a 0 xs)) (horner a 0 xs)) w) == (fcmp .lss .f32 (orZero (((xs.all fin && (decide (xs.length ≥ 1) && decide (xs.length ≤ 3))) && fin b) && fin (horner b 0 xs)) (horner b 0 xs)) w) : Bool) with
            | true => some ⟨[.el (.sc (.fl .f32 0)), .el (.sc (.bo false))], none⟩
            | false => (match (fcmp .lss .f32 (orZero (((xs.all fin && (decide (xs.length ≥ 1) && decide (xs.length ≤ 3))) && fin b) && fin (horner b 0 xs)) (horner b 0 xs)) w : Bool) with
              | true => (match ((decide (0 = 0) && (curveOk xs && decide (n ≤ 1099511627776))) : Bool) with
                | true => (match repE (placeStep xs w) (n.toNat) 0 ((b, a) : Nat × Nat) with
                  | some s => some ⟨[.el (.sc (.fl .f32 (numOf (fop .mul .f32 1056964608 (fop .add .f32 s.1 s.2))))), .el (.sc (.bo (fin (fop .mul .f32 1056964608 (fop .add .f32 s.1 s.2)))))], none⟩
                  | none => some ⟨[.el (.sc (.fl .f32 0)), .el (.sc (.bo false))], none⟩)
                | false => none)
              | false => (match ((decide (0 = 0) && (curveOk xs && decide (n ≤ 1099511627776))) : Bool) with
                | true => (match repE (placeStep xs w) (n.toNat) 0 ((a, b) : Nat × Nat) with
                  | some s => some ⟨[.el (.sc (.fl .f32 (numOf (fop .mul .f32 1056964608 (fop .add .f32 s.1 s.2))))), .el (.sc (.bo (fin (fop .mul .f32 1056964608 (fop .add .f32 s.1 s.2)))))], none⟩
                  | none => some ⟨[.el (.sc (.fl .f32 0)), .el (.sc (.bo false))], none⟩)
                | false => none)))))))) := by kernel_rfl
theorem s43 (xs : List Nat) (w : Nat) (a : Nat) (b : Nat) (n : Int) : runFn T7 a43 l43 Try.f43 [.vw none ⟨.f32, xs⟩, .el (.sc (.fl .f32 w)), .el (.sc (.fl .f32 a)), .el (.sc (.fl .f32 b)), .el (.sc (.int .i64 n))] = some ⟨[.el (.sc (.fl .f32 (orZero (placeOk xs w a b n) (placeX (placeRun xs w a b n))))), .el (.sc (.bo (placeOk xs w a b n)))], none⟩ := by
  rw [e43]
  have hb : curveOk xs = true → xs.length ≤ 3 := fun h => by
    unfold curveOk at h
    simp only [Bool.and_eq_true, decide_eq_true_eq] at h
    exact h.2.2
  have hcur : (xs.all fin && (decide (xs.length ≥ 1) && decide (xs.length ≤ 3))) = curveOk xs := rfl
  simp only [List.all_cons, List.all_nil, Bool.and_true]
  try rw [hcur]
  unfold placeOk placeAsk
  cases hc : curveOk xs with
  | false => cases fin w <;> cases fin a <;> cases fin b <;> cases fcmp .geq .f32 a b <;> cases within n 1 32 <;> simp [orZero]
  | true =>
    have hx : Nat.ble xs.length big = true := big_of (by have := hb hc; omega)
    cases h1 : fin w with
    | false => simp [orZero]
    | true =>
      cases h2 : fin a with
      | false => simp [orZero]
      | true =>
        cases h3 : fin b with
        | false => simp [orZero]
        | true =>
          cases h4 : fcmp .geq .f32 a b with
          | true => simp [orZero]
          | false =>
            cases h5 : within n 1 32 with
            | false => simp [orZero]
            | true =>
              have h6 := h5
              unfold within at h6
              simp only [Bool.and_eq_true, decide_eq_true_eq] at h6
              have hn : n ≤ 1099511627776 := by omega
              have hn0 : 0 ≤ n := by omega
              simp only [hx, Bool.not_true, Bool.not_false, Bool.true_and, Bool.and_true, orZero, List.all_cons, List.all_nil]
              cases h7 : fin (horner a 0 xs) with
              | false => simp
              | true =>
                cases h8 : fin (horner b 0 xs) with
                | false => simp
                | true =>
                  cases h9 : fcmp .lss .f32 (horner a 0 xs) w <;> cases h10 : fcmp .lss .f32 (horner b 0 xs) w <;> simp [placeRun, h10, hn, orZero]
                  · cases repE (placeStep xs w) n.toNat 0 (b, a) with
                    | none => rfl
                    | some s =>
                      simp only [placeX, Option.isSome_some, Bool.true_and]
                      unfold numOf
                      cases fin (fop .mul .f32 1056964608 (fop .add .f32 s.1 s.2)) <;> rfl
                  · cases repE (placeStep xs w) n.toNat 0 (a, b) with
                    | none => rfl
                    | some s =>
                      simp only [placeX, Option.isSome_some, Bool.true_and]
                      unfold numOf
                      cases fin (fop .mul .f32 1056964608 (fop .add .f32 s.1 s.2)) <;> rfl
theorem c43 (xs : List Nat) (w : Nat) (a : Nat) (b : Nat) (n : Int) (k : List RV → R) (out : Out) (h : k [.el (.sc (.fl .f32 (orZero (placeOk xs w a b n) (placeX (placeRun xs w a b n))))), .el (.sc (.bo (placeOk xs w a b n)))] = some out) : ∃ rs, Real Try.prog 43 ∧ COK Try.prog 43 [.vw none ⟨.f32, xs⟩, .el (.sc (.fl .f32 w)), .el (.sc (.fl .f32 a)), .el (.sc (.fl .f32 b)), .el (.sc (.int .i64 n))] rs ∧ k rs = some out := by
  exact ⟨_, real Try.func43 (by kernel_rfl), fn_ok tok7 (A := a43) (L := l43) (r := none) Try.func43 (by kernel_rfl) (by kernel_rfl) (loops1 (by kernel_rfl) lk43) (by rw [s43]), h⟩

/-! impl.RemoveMarks -/
def a45 : Ann := ann [(6, [0, 8, 21, 22, 23], [8])] [4, 5] 0
def lp45 : St → (Ex → St → R) → R := fun s k => match s with
  | ⟨[(0, .fv (.vw (some 0) ⟨.f32, xs⟩)), (8, .fv (.own 0)), (21, .fv (.own 1)), (22, .fv (.el (.sc (.int .i64 n)))), (23, .fv (.el (.sc (.int .i64 i))))], [some ⟨37, ⟨.f32, zs⟩⟩, some ⟨2, ⟨.i64, is⟩⟩]⟩ => (match ((decide (n = ((is : List Int).length : Int)) && (decide (i = 0) && (Nat.ble xs.length big && (Nat.ble (is : List Int).length big && ((is : List Int).all (fun q => decide (1 ≤ q) && decide (q + 1 < (xs.length : Int))) && Nat.beq (zs : List Nat).length xs.length))))) : Bool) with
    | true => k (.exit 0) ⟨[(8, .fv (.own 0))], [some ⟨37, ⟨.f32, rep (fun j zs => zs.set ((is : List Int).getD j 0).toNat (midOf xs ((is : List Int).getD j 0).toNat)) ((is : List Int).length) 0 ((zs : List Nat) : (List Nat))⟩⟩]⟩
    | false => none)
  | _ => none
def l45 : Loops := fun key s k => bif Nat.beq key 6 then lp45 s k else none
theorem st45 (xs : List Nat) (n : Int) (i : Int) (zs : List Nat) (is : List Int) (m : Nat) (k : Ex → St → R) : iterK a45 [0, 8, 21, 22, 23] [8] (codeK T7 a45 l45 Try.f45.ntmps (loopAt Try.f45 0)) (m + 1) ⟨[(0, .fv (.vw (some 0) ⟨.f32, xs⟩)), (8, .fv (.own 0)), (21, .fv (.own 1)), (22, .fv (.el (.sc (.int .i64 n)))), (23, .fv (.el (.sc (.int .i64 i))))], [some ⟨37, ⟨.f32, zs⟩⟩, some ⟨2, ⟨.i64, is⟩⟩]⟩ k = (match (decide ((i : Int) < n) : Bool) with
  | true => (match (decide (0 ≤ (i : Int) ∧ (i : Int) < (is.length : Int)) && true : Bool) with
    | true => (match (is : List Int)[Int.toNat i]? with
      | some x1 => (match (decide (0 ≤ (IntKind.i64.wrap (x1 - 1) : Int) ∧ (IntKind.i64.wrap (x1 - 1) : Int) < (xs.length : Int)) && true : Bool) with
        | true => (match (xs : List Nat)[Int.toNat (IntKind.i64.wrap (x1 - 1))]? with
          | some x2 => (match (decide (0 ≤ (IntKind.i64.wrap (x1 + 1) : Int) ∧ (IntKind.i64.wrap (x1 + 1) : Int) < (xs.length : Int)) && true : Bool) with
            | true => (match (xs : List Nat)[Int.toNat (IntKind.i64.wrap (x1 + 1))]? with
              | some x3 => (match (decide (0 ≤ (x1 : Int) ∧ (x1 : Int) < (zs.length : Int)) && true : Bool) with
                | true => (match (zs : List Nat)[Int.toNat x1]? with
                  | some x4 => iterK a45 [0, 8, 21, 22, 23] [8] (codeK T7 a45 l45 Try.f45.ntmps (loopAt Try.f45 0)) m ⟨[(0, .fv (.vw (some 0) ⟨.f32, xs⟩)), (8, .fv (.own 0)), (21, .fv (.own 1)), (22, .fv (.el (.sc (.int .i64 n)))), (23, .fv (.el (.sc (.int .i64 (IntKind.i64.wrap (i + 1))))))], [some ⟨37, ⟨.f32, (zs : List Nat).set (Int.toNat x1) (fop .mul .f32 1056964608 (fop .add .f32 x2 x3))⟩⟩, some ⟨2, ⟨.i64, is⟩⟩]⟩ k
                  | none => none)
                | false => none)
              | none => none)
            | false => none)
          | none => none)
        | false => none)
      | none => none)
    | false => none)
  | false => k (.exit 0) ⟨[(8, .fv (.own 0))], [some ⟨37, ⟨.f32, zs⟩⟩]⟩) := by kernel_rfl
theorem ind45 (xs : List Nat) (is : List Int) (hx : (Nat.ble xs.length big) = true) (hs : (Nat.ble is.length big) = true) (hin : (is.all (fun q => decide (1 ≤ q) && decide (q + 1 < (xs.length : Int)))) = true) (k : Ex → St → R) : ∀ (m j : Nat) (zs : List Nat), zs.length = xs.length → 0 ≤ j → j + m = is.length → iterK a45 [0, 8, 21, 22, 23] [8] (codeK T7 a45 l45 Try.f45.ntmps (loopAt Try.f45 0)) (m + 1) ⟨[(0, .fv (.vw (some 0) ⟨.f32, xs⟩)), (8, .fv (.own 0)), (21, .fv (.own 1)), (22, .fv (.el (.sc (.int .i64 (is.length : Int))))), (23, .fv (.el (.sc (.int .i64 (j : Int)))))], [some ⟨37, ⟨.f32, zs⟩⟩, some ⟨2, ⟨.i64, is⟩⟩]⟩ k =
    k (.exit 0) ⟨[(8, .fv (.own 0))], [some ⟨37, ⟨.f32, rep (fun j zs => zs.set (is.getD j 0).toNat (midOf xs (is.getD j 0).toNat)) m j (zs : (List Nat))⟩⟩]⟩ := by
  intro m
  induction m with
  | zero =>
    intro j zs hs0 hlo hj
    have hx_ := big_le hx
    have hs_ := big_le hs
    have h1 : ¬ (((j : Int) < (is.length : Int))) := by omega
    rw [st45]
    simp only [h1, rep, decide_false] <;> rfl
  | succ m ih =>
    intro j zs hs0 hlo hj
    have hx_ := big_le hx
    have hs_ := big_le hs
    have h1 : ((j : Int) < (is.length : Int)) := by omega
    have pb : (0 : Int) ≤ (j : Int) ∧ (j : Int) < (is.length : Int) := by omega
    have pq : is[Int.toNat (j : Int)]? = some (is.getD j 0) := getI (by omega)
    have wn : IntKind.i64.wrap ((j : Int) + 1) = ((j + 1 : Nat) : Int) := wrapN (by omega) (by omega)
    rw [st45]
    simp only [h1, wn, pb, pq, and_self, decide_true, Bool.and_true, Int.le_refl]
    obtain ⟨q, hq, hq1, hq2⟩ := allIn hin (show j < is.length by omega)
    have w2 : IntKind.i64.wrap ((q : Int) + 1) = ((q + 1 : Nat) : Int) := wrapN (by omega) (by omega)
    have w1 : IntKind.i64.wrap ((q : Int) - 1) = ((q - 1 : Nat) : Int) := wrapN (by omega) (by omega)
    have zb : (0 : Int) ≤ (q : Int) ∧ (q : Int) < (zs.length : Int) := by omega
    have zq : zs[Int.toNat (q : Int)]? = some (zs.getD q 0) := getI (by omega)
    have bb : (0 : Int) ≤ ((q - 1 : Nat) : Int) ∧ ((q - 1 : Nat) : Int) < (xs.length : Int) := by omega
    have bq : xs[Int.toNat ((q - 1 : Nat) : Int)]? = some (xs.getD (q - 1) 0) := getI (by omega)
    have bp : xs[q - 1]? = some (xs.getD (q - 1) 0) := getI2 (by omega)
    have cb : (0 : Int) ≤ ((q + 1 : Nat) : Int) ∧ ((q + 1 : Nat) : Int) < (xs.length : Int) := by omega
    have cq : xs[Int.toNat ((q + 1 : Nat) : Int)]? = some (xs.getD (q + 1) 0) := getI (by omega)
    have cp : xs[q + 1]? = some (xs.getD (q + 1) 0) := getI2 (by omega)
    rw [hq]
    simp only [w1, w2, bb, bq, cb, cq, zb, zq, and_self, decide_true, Bool.and_true]
    refine (ih (j + 1) _ (by simpa using hs0) (by omega) (by omega)).trans ?_
    have e : rep (fun j zs => zs.set (is.getD j 0).toNat (midOf xs (is.getD j 0).toNat)) (m + 1) j zs = rep (fun j zs => zs.set (is.getD j 0).toNat (midOf xs (is.getD j 0).toNat)) m (j + 1) (zs.set (is.getD j 0).toNat (midOf xs (is.getD j 0).toNat)) := rfl
    rw [e, hq]
    rfl

theorem lk45 : LOK T7 a45 l45 Try.f45.ntmps (loopAt Try.f45 0) := by
  intro ins outs hA s k out h
  have hA' : ([0, 8, 21, 22, 23], [8]) = (ins, outs) := Option.some.inj ((show a45.lp (firstRegion (loopAt Try.f45 0)) = some ([0, 8, 21, 22, 23], [8]) by kernel_rfl).symm.trans hA)
  cases hA'
  have hk : firstRegion (loopAt Try.f45 0) = 6 := by kernel_rfl
  rw [hk] at h
  change lp45 s k = some out at h
  unfold lp45 at h
  split at h
  · rename_i xs n i zs is
    cases hg : (decide (n = (is.length : Int)) && (decide (i = 0) && (Nat.ble xs.length big && (Nat.ble is.length big && (is.all (fun q => decide (1 ≤ q) && decide (q + 1 < (xs.length : Int))) && Nat.beq zs.length xs.length))))) with
    | false => rw [hg] at h; cases h
    | true =>
      rw [hg] at h
      simp only [Bool.and_eq_true, decide_eq_true_eq] at hg
      obtain ⟨rfl, rfl, hx, hs, hin, gs0⟩ := hg
      refine ⟨(is.length) + 1, ?_⟩
      have hx_ := big_le hx
      have hs_ := big_le hs
      have gs0_ := Nat.eq_of_beq_eq_true gs0
      exact (ind45 xs is hx hs hin k (is.length) 0 zs (by omega) (by omega) (by omega)).trans h
  · cases h
theorem e45 (xs : List Nat) (b : Nat) : runFn T7 a45 l45 Try.f45 [.vw none ⟨.f32, xs⟩, .el (.sc (.fl .f32 b))] = (match (!(markOk xs b) : Bool) with
  | true => some ⟨[.nil, .el (.sc (.bo false))], none⟩
  | false => (match (Nat.ble 1 xs.length && Nat.ble xs.length big : Bool) with
    | true => (match ((decide ((((orNil (markOk xs b) (marksOf xs b)).length : Int)) = ((orNil (markOk xs b) (marksOf xs b) : List Int).length : Int)) && (decide (0 = 0) && (Nat.ble xs.length big && (Nat.ble (orNil (markOk xs b) (marksOf xs b) : List Int).length big && ((orNil (markOk xs b) (marksOf xs b) : List Int).all (fun q => decide (1 ≤ q) && decide (q + 1 < (xs.length : Int))) && Nat.beq (xs : List Nat).length xs.length))))) : Bool) with
      | true => (match (Nat.ble (rep (fun j zs => zs.set ((orNil (markOk xs b) (marksOf xs b) : List Int).getD j 0).toNat (midOf xs ((orNil (markOk xs b) (marksOf xs b) : List Int).getD j 0).toNat)) ((orNil (markOk xs b) (marksOf xs b) : List Int).length) 0 ((xs : List Nat) : (List Nat))).length big : Bool) with
        | true => (match ((rep (fun j zs => zs.set ((orNil (markOk xs b) (marksOf xs b) : List Int).getD j 0).toNat (midOf xs ((orNil (markOk xs b) (marksOf xs b) : List Int).getD j 0).toNat)) ((orNil (markOk xs b) (marksOf xs b) : List Int).length) 0 ((xs : List Nat) : (List Nat))).all fin : Bool) with
          | true => some ⟨[.fresh 37 ⟨.f32, rep (fun j zs => zs.set ((orNil (markOk xs b) (marksOf xs b) : List Int).getD j 0).toNat (midOf xs ((orNil (markOk xs b) (marksOf xs b) : List Int).getD j 0).toNat)) ((orNil (markOk xs b) (marksOf xs b) : List Int).length) 0 ((xs : List Nat) : (List Nat))⟩, .el (.sc (.bo true))], none⟩
          | false => some ⟨[.nil, .el (.sc (.bo false))], none⟩)
        | false => none)
      | false => none)
    | false => none)) := by kernel_rfl
theorem s45 (xs : List Nat) (b : Nat) : runFn T7 a45 l45 Try.f45 [.vw none ⟨.f32, xs⟩, .el (.sc (.fl .f32 b))] = (match (removeOk xs b : Bool) with
  | true => some ⟨[.fresh 37 ⟨.f32, removed xs b⟩, .el (.sc (.bo true))], none⟩
  | false => some ⟨[.nil, .el (.sc (.bo false))], none⟩) := by
  rw [e45]
  have hb : bins xs 3 = true → 3 ≤ xs.length ∧ xs.length ≤ 64 := fun h => by
    unfold bins at h
    simp only [Bool.and_eq_true, decide_eq_true_eq] at h
    omega
  unfold removeOk
  cases hk : markOk xs b with
  | false =>
    simp [hk]
  | true =>
    have hk2 := hk
    unfold markOk at hk2
    rw [Bool.and_eq_true] at hk2
    obtain ⟨h3, h4⟩ := hb hk2.1
    have hx : Nat.ble xs.length big = true := big_of (by omega)
    have hr : Nat.ble (removed xs b).length big = true := big_of (by rw [removed_len]; omega)
    have h1 : Nat.ble 1 xs.length = true := Nat.ble_eq_true_of_le (by omega)
    have hm : Nat.ble (marksOf xs b).length big = true := big_of (by have := marksOf_len xs b; omega)
    have ho : Nat.beq xs.length xs.length = true := Nat.beq_refl _
    have ha := marksOf_in xs b
    have e := removed_eq hk
    simp only [hk, hx, h1, hm, ho, ha, e, hr, orNil, decide_true, Bool.and_self, Bool.not_true, Bool.true_and] <;> cases (removed xs b).all fin <;> rfl
theorem c45 (xs : List Nat) (b : Nat) (k : List RV → R) (out : Out) (h : k [.fresh 37 ⟨.f32, orNil (removeOk xs b) (removed xs b)⟩, .el (.sc (.bo (removeOk xs b)))] = some out) : ∃ rs, Real Try.prog 45 ∧ COK Try.prog 45 [.vw none ⟨.f32, xs⟩, .el (.sc (.fl .f32 b))] rs ∧ k rs = some out := by
  cases g0 : (removeOk xs b : Bool) with
  | true =>
    rw [g0] at h
    exact ⟨_, real Try.func45 (by kernel_rfl), fn_ok tok7 (A := a45) (L := l45) (r := none) Try.func45 (by kernel_rfl) (by kernel_rfl) (loops1 (by kernel_rfl) lk45) (by rw [s45, g0]; rfl), h⟩
  | false =>
    rw [g0] at h
    exact ⟨_, real Try.func45 (by kernel_rfl), COK.nil (fn_ok tok7 (A := a45) (L := l45) (r := none) Try.func45 (by kernel_rfl) (by kernel_rfl) (loops1 (by kernel_rfl) lk45) (by rw [s45, g0])), h⟩

/-! impl.BentPeaks -/
def a47 : Ann := ann [(6, [1, 6, 8, 24, 25, 26], [8])] [4, 5] 0
def lp47 : St → (Ex → St → R) → R := fun s k => match s with
  | ⟨[(1, .fv (.el (.sc (.fl .f32 c)))), (6, .fv (.own 1)), (8, .fv (.own 0)), (24, .fv (.own 1)), (25, .fv (.el (.sc (.int .i64 n)))), (26, .fv (.el (.sc (.int .i64 i))))], [some ⟨2, ⟨.i64, zs⟩⟩, some ⟨37, ⟨.f32, bs⟩⟩]⟩ => (match ((decide (n = ((bs : List Nat).length : Int)) && (decide (i = 0) && (Nat.ble (bs : List Nat).length big && Nat.ble ((zs : List Int).length + (bs : List Nat).length) big))) : Bool) with
    | true => k (.exit 0) ⟨[(8, .fv (.own 0))], [some ⟨2, ⟨.i64, rep (fun j zs => bif bent (bs : List Nat) c j then zs ++ [((j + 1 : Nat) : Int)] else zs) ((bs : List Nat).length) 0 ((zs : List Int) : (List Int))⟩⟩]⟩
    | false => none)
  | _ => none
def l47 : Loops := fun key s k => bif Nat.beq key 6 then lp47 s k else none
theorem st47 (c : Nat) (n : Int) (i : Int) (zs : List Int) (bs : List Nat) (m : Nat) (k : Ex → St → R) : iterK a47 [1, 6, 8, 24, 25, 26] [8] (codeK T7 a47 l47 Try.f47.ntmps (loopAt Try.f47 0)) (m + 1) ⟨[(1, .fv (.el (.sc (.fl .f32 c)))), (6, .fv (.own 1)), (8, .fv (.own 0)), (24, .fv (.own 1)), (25, .fv (.el (.sc (.int .i64 n)))), (26, .fv (.el (.sc (.int .i64 i))))], [some ⟨2, ⟨.i64, zs⟩⟩, some ⟨37, ⟨.f32, bs⟩⟩]⟩ k = (match (decide ((i : Int) < n) : Bool) with
  | true => (match (decide (0 ≤ (i : Int) ∧ (i : Int) < (bs.length : Int)) && true : Bool) with
    | true => (match (bs : List Nat)[Int.toNat i]? with
      | some x1 => (match (fcmp .gtr .f32 x1 c : Bool) with
        | true => (match ((i : Int) == 0 : Bool) with
          | true => (match ((i : Int) == IntKind.i64.wrap (((bs.length : Int)) - 1) : Bool) with
            | true => (match (Nat.beq 2 2 && decide ((zs : List Int).length + ([IntKind.i64.wrap (i + 1)] : List Int).length ≤ 1099511627776) : Bool) with
              | true => iterK a47 [1, 6, 8, 24, 25, 26] [8] (codeK T7 a47 l47 Try.f47.ntmps (loopAt Try.f47 0)) m ⟨[(1, .fv (.el (.sc (.fl .f32 c)))), (6, .fv (.own 1)), (8, .fv (.own 0)), (24, .fv (.own 1)), (25, .fv (.el (.sc (.int .i64 n)))), (26, .fv (.el (.sc (.int .i64 (IntKind.i64.wrap (i + 1))))))], [some ⟨2, ⟨.i64, (zs : List Int) ++ ([IntKind.i64.wrap (i + 1)])⟩⟩, some ⟨37, ⟨.f32, bs⟩⟩]⟩ k
              | false => none)
            | false => (match (decide (0 ≤ (IntKind.i64.wrap (i + 1) : Int) ∧ (IntKind.i64.wrap (i + 1) : Int) < (bs.length : Int)) && true : Bool) with
              | true => (match (bs : List Nat)[Int.toNat (IntKind.i64.wrap (i + 1))]? with
                | some x2 => (match (fcmp .geq .f32 x1 x2 : Bool) with
                  | true => (match (Nat.beq 2 2 && decide ((zs : List Int).length + ([IntKind.i64.wrap (i + 1)] : List Int).length ≤ 1099511627776) : Bool) with
                    | true => iterK a47 [1, 6, 8, 24, 25, 26] [8] (codeK T7 a47 l47 Try.f47.ntmps (loopAt Try.f47 0)) m ⟨[(1, .fv (.el (.sc (.fl .f32 c)))), (6, .fv (.own 1)), (8, .fv (.own 0)), (24, .fv (.own 1)), (25, .fv (.el (.sc (.int .i64 n)))), (26, .fv (.el (.sc (.int .i64 (IntKind.i64.wrap (i + 1))))))], [some ⟨2, ⟨.i64, (zs : List Int) ++ ([IntKind.i64.wrap (i + 1)])⟩⟩, some ⟨37, ⟨.f32, bs⟩⟩]⟩ k
                    | false => none)
                  | false => iterK a47 [1, 6, 8, 24, 25, 26] [8] (codeK T7 a47 l47 Try.f47.ntmps (loopAt Try.f47 0)) m ⟨[(1, .fv (.el (.sc (.fl .f32 c)))), (6, .fv (.own 1)), (8, .fv (.own 0)), (24, .fv (.own 1)), (25, .fv (.el (.sc (.int .i64 n)))), (26, .fv (.el (.sc (.int .i64 (IntKind.i64.wrap (i + 1))))))], [some ⟨2, ⟨.i64, zs⟩⟩, some ⟨37, ⟨.f32, bs⟩⟩]⟩ k)
                | none => none)
              | false => none))
          | false => (match (decide (0 ≤ (IntKind.i64.wrap (i - 1) : Int) ∧ (IntKind.i64.wrap (i - 1) : Int) < (bs.length : Int)) && true : Bool) with
            | true => (match (bs : List Nat)[Int.toNat (IntKind.i64.wrap (i - 1))]? with
              | some x3 => (match (fcmp .gtr .f32 x1 x3 : Bool) with
                | true => (match ((i : Int) == IntKind.i64.wrap (((bs.length : Int)) - 1) : Bool) with
                  | true => (match (Nat.beq 2 2 && decide ((zs : List Int).length + ([IntKind.i64.wrap (i + 1)] : List Int).length ≤ 1099511627776) : Bool) with
                    | true => iterK a47 [1, 6, 8, 24, 25, 26] [8] (codeK T7 a47 l47 Try.f47.ntmps (loopAt Try.f47 0)) m ⟨[(1, .fv (.el (.sc (.fl .f32 c)))), (6, .fv (.own 1)), (8, .fv (.own 0)), (24, .fv (.own 1)), (25, .fv (.el (.sc (.int .i64 n)))), (26, .fv (.el (.sc (.int .i64 (IntKind.i64.wrap (i + 1))))))], [some ⟨2, ⟨.i64, (zs : List Int) ++ ([IntKind.i64.wrap (i + 1)])⟩⟩, some ⟨37, ⟨.f32, bs⟩⟩]⟩ k
                    | false => none)
                  | false => (match (decide (0 ≤ (IntKind.i64.wrap (i + 1) : Int) ∧ (IntKind.i64.wrap (i + 1) : Int) < (bs.length : Int)) && true : Bool) with
                    | true => (match (bs : List Nat)[Int.toNat (IntKind.i64.wrap (i + 1))]? with
                      | some x4 => (match (fcmp .geq .f32 x1 x4 : Bool) with
                        | true => (match (Nat.beq 2 2 && decide ((zs : List Int).length + ([IntKind.i64.wrap (i + 1)] : List Int).length ≤ 1099511627776) : Bool) with
                          | true => iterK a47 [1, 6, 8, 24, 25, 26] [8] (codeK T7 a47 l47 Try.f47.ntmps (loopAt Try.f47 0)) m ⟨[(1, .fv (.el (.sc (.fl .f32 c)))), (6, .fv (.own 1)), (8, .fv (.own 0)), (24, .fv (.own 1)), (25, .fv (.el (.sc (.int .i64 n)))), (26, .fv (.el (.sc (.int .i64 (IntKind.i64.wrap (i + 1))))))], [some ⟨2, ⟨.i64, (zs : List Int) ++ ([IntKind.i64.wrap (i + 1)])⟩⟩, some ⟨37, ⟨.f32, bs⟩⟩]⟩ k
                          | false => none)
                        | false => iterK a47 [1, 6, 8, 24, 25, 26] [8] (codeK T7 a47 l47 Try.f47.ntmps (loopAt Try.f47 0)) m ⟨[(1, .fv (.el (.sc (.fl .f32 c)))), (6, .fv (.own 1)), (8, .fv (.own 0)), (24, .fv (.own 1)), (25, .fv (.el (.sc (.int .i64 n)))), (26, .fv (.el (.sc (.int .i64 (IntKind.i64.wrap (i + 1))))))], [some ⟨2, ⟨.i64, zs⟩⟩, some ⟨37, ⟨.f32, bs⟩⟩]⟩ k)
                      | none => none)
                    | false => none))
                | false => iterK a47 [1, 6, 8, 24, 25, 26] [8] (codeK T7 a47 l47 Try.f47.ntmps (loopAt Try.f47 0)) m ⟨[(1, .fv (.el (.sc (.fl .f32 c)))), (6, .fv (.own 1)), (8, .fv (.own 0)), (24, .fv (.own 1)), (25, .fv (.el (.sc (.int .i64 n)))), (26, .fv (.el (.sc (.int .i64 (IntKind.i64.wrap (i + 1))))))], [some ⟨2, ⟨.i64, zs⟩⟩, some ⟨37, ⟨.f32, bs⟩⟩]⟩ k)
              | none => none)
            | false => none))
        | false => iterK a47 [1, 6, 8, 24, 25, 26] [8] (codeK T7 a47 l47 Try.f47.ntmps (loopAt Try.f47 0)) m ⟨[(1, .fv (.el (.sc (.fl .f32 c)))), (6, .fv (.own 1)), (8, .fv (.own 0)), (24, .fv (.own 1)), (25, .fv (.el (.sc (.int .i64 n)))), (26, .fv (.el (.sc (.int .i64 (IntKind.i64.wrap (i + 1))))))], [some ⟨2, ⟨.i64, zs⟩⟩, some ⟨37, ⟨.f32, bs⟩⟩]⟩ k)
      | none => none)
    | false => none)
  | false => k (.exit 0) ⟨[(8, .fv (.own 0))], [some ⟨2, ⟨.i64, zs⟩⟩]⟩) := by kernel_rfl
theorem ind47 (c : Nat) (bs : List Nat) (hs : (Nat.ble bs.length big) = true) (k : Ex → St → R) : ∀ (m j : Nat) (zs : List Int), zs.length + m ≤ 1099511627776 → 0 ≤ j → j + m = bs.length → iterK a47 [1, 6, 8, 24, 25, 26] [8] (codeK T7 a47 l47 Try.f47.ntmps (loopAt Try.f47 0)) (m + 1) ⟨[(1, .fv (.el (.sc (.fl .f32 c)))), (6, .fv (.own 1)), (8, .fv (.own 0)), (24, .fv (.own 1)), (25, .fv (.el (.sc (.int .i64 (bs.length : Int))))), (26, .fv (.el (.sc (.int .i64 (j : Int)))))], [some ⟨2, ⟨.i64, zs⟩⟩, some ⟨37, ⟨.f32, bs⟩⟩]⟩ k =
    k (.exit 0) ⟨[(8, .fv (.own 0))], [some ⟨2, ⟨.i64, rep (fun j zs => bif bent bs c j then zs ++ [((j + 1 : Nat) : Int)] else zs) m j (zs : (List Int))⟩⟩]⟩ := by
  intro m
  induction m with
  | zero =>
    intro j zs hs0 hlo hj
    have hs_ := big_le hs
    have h1 : ¬ (((j : Int) < (bs.length : Int))) := by omega
    rw [st47]
    simp only [h1, rep, decide_false, List.length_singleton] <;> rfl
  | succ m ih =>
    intro j zs hs0 hlo hj
    have hs_ := big_le hs
    have h1 : ((j : Int) < (bs.length : Int)) := by omega
    have hbq : Nat.beq 2 2 = true := rfl
    have hzl : zs.length + 1 ≤ 1099511627776 := by omega
    have wj : IntKind.i64.wrap (j : Int) = (j : Int) := wrapN rfl (by omega)
    have ab : (0 : Int) ≤ ((j : Nat) : Int) ∧ ((j : Nat) : Int) < (bs.length : Int) := by omega
    have aq : bs[Int.toNat ((j : Nat) : Int)]? = some (bs.getD (j) 0) := getI (by omega)
    have ap : bs[j]? = some (bs.getD (j) 0) := getI2 (by omega)
    have w2 : IntKind.i64.wrap ((j : Int) + 1) = ((j + 1 : Nat) : Int) := wrapN (by omega) (by omega)
    have w3 : IntKind.i64.wrap ((bs.length : Int) - 1) = ((bs.length - 1 : Nat) : Int) := wrapN (by omega) (by omega)
    have wn : IntKind.i64.wrap ((j : Int) + 1) = ((j + 1 : Nat) : Int) := wrapN (by omega) (by omega)
    rw [st47]
    simp only [h1, wn, hbq, hzl, wj, ab, aq, ap, w2, w3, and_self, decide_true, Bool.and_true, Int.le_refl, List.length_singleton]
    simp only [rep]
    have hw : IntKind.i64.wrap ((j + 1 : Nat) : Int) = ((j + 1 : Nat) : Int) := wrapN rfl (by omega)
    have r2 := ih (j + 1) zs (by omega) (by omega) (by omega)
    have r3 := ih (j + 1) (zs ++ [((j + 1 : Nat) : Int)]) (by simp; omega) (by omega) (by omega)
    cases hg : fcmp .gtr .f32 (bs.getD j 0) c with
    | false =>
      have hb : bent bs c j = false := by unfold bent; rw [hg]; rfl
      rw [hb]
      exact r2
    | true =>
      by_cases h0 : j = 0
      · have e0 : ((j : Int) == 0) = true := by rw [h0]; rfl
        simp only [e0]
        have hd0 : (decide (j = 0) || fcmp .gtr .f32 (bs.getD j 0) (bs.getD (j - 1) 0)) = true := by rw [decide_eq_true h0, Bool.true_or]
        by_cases hl : j + 1 = bs.length
        · have el : ((j : Int) == ((bs.length - 1 : Nat) : Int)) = true := by simp; omega
          have hb : bent bs c j = true := by unfold bent; rw [hg, hd0, decide_eq_true hl]; rfl
          rw [hb]
          simp only [el]
          first | exact r3 | (simp only [hw]; exact r3)
        · have el : ((j : Int) == ((bs.length - 1 : Nat) : Int)) = false := beq_false_of_ne (by omega)
          have hd : decide (j + 1 = bs.length) = false := decide_eq_false hl
          have db : (0 : Int) ≤ ((j + 1 : Nat) : Int) ∧ ((j + 1 : Nat) : Int) < (bs.length : Int) := by omega
          have dq : bs[Int.toNat ((j + 1 : Nat) : Int)]? = some (bs.getD (j + 1) 0) := getI (by omega)
          have dp : bs[j + 1]? = some (bs.getD (j + 1) 0) := getI2 (by omega)
          simp only [el, db, dq, and_self, decide_true, Bool.and_true]
          cases hp2 : fcmp .geq .f32 (bs.getD j 0) (bs.getD (j + 1) 0) with
          | true =>
            have hb : bent bs c j = true := by unfold bent; rw [hg, hd0, hd, hp2]; rfl
            rw [hb]
            first | exact r3 | (simp only [hw]; exact r3)
          | false =>
            have hb : bent bs c j = false := by unfold bent; rw [hg, hd0, hd, hp2]; rfl
            rw [hb]
            exact r2
      · have e0 : ((j : Int) == 0) = false := beq_false_of_ne (by omega)
        have w1 : IntKind.i64.wrap ((j : Int) - 1) = ((j - 1 : Nat) : Int) := wrapN (by omega) (by omega)
        have fb : (0 : Int) ≤ ((j - 1 : Nat) : Int) ∧ ((j - 1 : Nat) : Int) < (bs.length : Int) := by omega
        have fq : bs[Int.toNat ((j - 1 : Nat) : Int)]? = some (bs.getD (j - 1) 0) := getI (by omega)
        have fp : bs[j - 1]? = some (bs.getD (j - 1) 0) := getI2 (by omega)
        simp only [e0, w1, fb, fq, and_self, decide_true, Bool.and_true]
        cases hp : fcmp .gtr .f32 (bs.getD j 0) (bs.getD (j - 1) 0) with
        | true =>
          have hd0 : (decide (j = 0) || fcmp .gtr .f32 (bs.getD j 0) (bs.getD (j - 1) 0)) = true := by rw [hp, Bool.or_true]
          dsimp only
          by_cases hl : j + 1 = bs.length
          · have el : ((j : Int) == ((bs.length - 1 : Nat) : Int)) = true := by simp; omega
            have hb : bent bs c j = true := by unfold bent; rw [hg, hd0, decide_eq_true hl]; rfl
            rw [hb]
            simp only [el]
            first | exact r3 | (simp only [hw]; exact r3)
          · have el : ((j : Int) == ((bs.length - 1 : Nat) : Int)) = false := beq_false_of_ne (by omega)
            have hd : decide (j + 1 = bs.length) = false := decide_eq_false hl
            have db : (0 : Int) ≤ ((j + 1 : Nat) : Int) ∧ ((j + 1 : Nat) : Int) < (bs.length : Int) := by omega
            have dq : bs[Int.toNat ((j + 1 : Nat) : Int)]? = some (bs.getD (j + 1) 0) := getI (by omega)
            have dp : bs[j + 1]? = some (bs.getD (j + 1) 0) := getI2 (by omega)
            simp only [el, db, dq, and_self, decide_true, Bool.and_true]
            cases hp2 : fcmp .geq .f32 (bs.getD j 0) (bs.getD (j + 1) 0) with
            | true =>
              have hb : bent bs c j = true := by unfold bent; rw [hg, hd0, hd, hp2]; rfl
              rw [hb]
              first | exact r3 | (simp only [hw]; exact r3)
            | false =>
              have hb : bent bs c j = false := by unfold bent; rw [hg, hd0, hd, hp2]; rfl
              rw [hb]
              exact r2
        | false =>
          have hb : bent bs c j = false := by unfold bent; rw [hg, hp, decide_eq_false h0]; rfl
          rw [hb]
          exact r2

theorem lk47 : LOK T7 a47 l47 Try.f47.ntmps (loopAt Try.f47 0) := by
  intro ins outs hA s k out h
  have hA' : ([1, 6, 8, 24, 25, 26], [8]) = (ins, outs) := Option.some.inj ((show a47.lp (firstRegion (loopAt Try.f47 0)) = some ([1, 6, 8, 24, 25, 26], [8]) by kernel_rfl).symm.trans hA)
  cases hA'
  have hk : firstRegion (loopAt Try.f47 0) = 6 := by kernel_rfl
  rw [hk] at h
  change lp47 s k = some out at h
  unfold lp47 at h
  split at h
  · rename_i c n i zs bs
    cases hg : (decide (n = (bs.length : Int)) && (decide (i = 0) && (Nat.ble bs.length big && Nat.ble (zs.length + bs.length) big))) with
    | false => rw [hg] at h; cases h
    | true =>
      rw [hg] at h
      simp only [Bool.and_eq_true, decide_eq_true_eq] at hg
      obtain ⟨rfl, rfl, hs, gs0⟩ := hg
      refine ⟨(bs.length) + 1, ?_⟩
      have hs_ := big_le hs
      have gs0_ := big_le gs0
      exact (ind47 c bs hs k (bs.length) 0 zs (by omega) (by omega) (by omega)).trans h
  · cases h
theorem e47 (xs : List Nat) (c : Nat) : runFn T7 a47 l47 Try.f47 [.vw none ⟨.f32, xs⟩, .el (.sc (.fl .f32 c))] = (match (!(bendOk xs) : Bool) with
  | true => some ⟨[.nil, .el (.sc (.bo false))], none⟩
  | false => (match (!(fin c) : Bool) with
    | true => some ⟨[.nil, .el (.sc (.bo false))], none⟩
    | false => (match ((decide ((((orNil (bendOk xs) (bends xs)).length : Int)) = ((orNil (bendOk xs) (bends xs) : List Nat).length : Int)) && (decide (0 = 0) && (Nat.ble (orNil (bendOk xs) (bends xs) : List Nat).length big && Nat.ble (([] : List Int).length + (orNil (bendOk xs) (bends xs) : List Nat).length) big))) : Bool) with
      | true => some ⟨[.fresh 2 ⟨.i64, rep (fun j zs => bif bent (orNil (bendOk xs) (bends xs) : List Nat) c j then zs ++ [((j + 1 : Nat) : Int)] else zs) ((orNil (bendOk xs) (bends xs) : List Nat).length) 0 (([] : List Int) : (List Int))⟩, .el (.sc (.bo true))], none⟩
      | false => none))) := by kernel_rfl
theorem s47 (xs : List Nat) (c : Nat) : runFn T7 a47 l47 Try.f47 [.vw none ⟨.f32, xs⟩, .el (.sc (.fl .f32 c))] = (match (bentOk xs c : Bool) with
  | true => some ⟨[.fresh 2 ⟨.i64, bentOf (bends xs) c⟩, .el (.sc (.bo true))], none⟩
  | false => some ⟨[.nil, .el (.sc (.bo false))], none⟩) := by
  rw [e47]
  unfold bentOk
  cases h1 : bendOk xs with
  | false => simp [orNil]
  | true =>
    have h2 := h1
    unfold bendOk listOk at h2
    simp only [Bool.and_eq_true, decide_eq_true_eq] at h2
    have hs : Nat.ble (bends xs).length big = true := big_of (by rw [bends_len]; omega)
    have hz : Nat.ble (0 + (bends xs).length) big = true := big_of (by rw [bends_len]; omega)
    have e := rep_filter (bent (bends xs) c) (fun j : Nat => ((j + 1 : Nat) : Int)) (bends xs).length 0 []
    rw [List.nil_append] at e
    cases h3 : fin c with
    | false => simp
    | true =>
      simp only [orNil, hs, hz, e, List.length_nil, decide_true, Bool.and_self, Bool.not_true, Bool.true_and]
      rfl
theorem c47 (xs : List Nat) (c : Nat) (k : List RV → R) (out : Out) (h : k [.fresh 2 ⟨.i64, orNil (bentOk xs c) (bentOf (bends xs) c)⟩, .el (.sc (.bo (bentOk xs c)))] = some out) : ∃ rs, Real Try.prog 47 ∧ COK Try.prog 47 [.vw none ⟨.f32, xs⟩, .el (.sc (.fl .f32 c))] rs ∧ k rs = some out := by
  cases g0 : (bentOk xs c : Bool) with
  | true =>
    rw [g0] at h
    exact ⟨_, real Try.func47 (by kernel_rfl), fn_ok tok7 (A := a47) (L := l47) (r := none) Try.func47 (by kernel_rfl) (by kernel_rfl) (loops1 (by kernel_rfl) lk47) (by rw [s47, g0]; rfl), h⟩
  | false =>
    rw [g0] at h
    exact ⟨_, real Try.func47 (by kernel_rfl), COK.nil (fn_ok tok7 (A := a47) (L := l47) (r := none) Try.func47 (by kernel_rfl) (by kernel_rfl) (loops1 (by kernel_rfl) lk47) (by rw [s47, g0])), h⟩

def S8 : SFn := fun f args k => match f, args with
  | 43, [.vw none ⟨.f32, xs⟩, .el (.sc (.fl .f32 w)), .el (.sc (.fl .f32 a)), .el (.sc (.fl .f32 b)), .el (.sc (.int .i64 n))] => k [.el (.sc (.fl .f32 (orZero (placeOk xs w a b n) (placeX (placeRun xs w a b n))))), .el (.sc (.bo (placeOk xs w a b n)))]
  | 45, [.vw none ⟨.f32, xs⟩, .el (.sc (.fl .f32 b))] => k [.fresh 37 ⟨.f32, orNil (removeOk xs b) (removed xs b)⟩, .el (.sc (.bo (removeOk xs b)))]
  | 47, [.vw none ⟨.f32, xs⟩, .el (.sc (.fl .f32 c))] => k [.fresh 2 ⟨.i64, orNil (bentOk xs c) (bentOf (bends xs) c)⟩, .el (.sc (.bo (bentOk xs c)))]
  | _, _ => S7 f args k
abbrev M8 : MFn := M7
def T8 : TT := tab.T S8 muts M8
theorem tok8 : TOK Try.prog T8 := by
  refine (tab_ok tabok).tok (fun f args k out h => ?_) (fun f vec args k out h => ?_)
  · change S8 f args k = some out at h
    unfold S8 at h
    split at h
    · exact c43 _ _ _ _ _ k out h
    · exact c45 _ _ k out h
    · exact c47 _ _ k out h
    · exact tok7.S f args k out h
  · exact tok7.M f vec args k out h

end Go.Sm.Ytdnfgoolapikmaa
