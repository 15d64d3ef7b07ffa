/- What the functions hand back: level 7. -/
import Derived.Test.YtdeplgocckdbiaaD7
namespace Go.Sm.Ytdeplgocckdbiaa
open Go Go.Sm Go.RowKit Go.Proofs

/-! spec.l05Rest -/
def a88 : Ann := ann [(3, [0, 1, 2, 3, 10, 16, 17], [10])] [8, 9] 0
def lp88 : St → (Ex → St → R) → R := fun s k => match s with
  | ⟨[(0, .fv (.vw (some 0) ⟨.line, xs⟩)), (1, .fv (.vw (some 1) ⟨.f32, ys⟩)), (2, .fv (.el (.sc (.fl .f32 b)))), (3, .fv (.el (.sc (.fl .f32 d)))), (10, .fv (.el (.sc (.fl .f32 a)))), (16, .fv (.el (.sc (.int .i64 n)))), (17, .fv (.el (.sc (.int .i64 i))))], []⟩ => (match ((decide (n = (ys.length : Int)) && (decide (i = 0) && (Nat.ble xs.length big && Nat.ble ys.length big))) : Bool) with
    | true => (match repE (fun j a => bif linesAtOk xs (placeAt b d (j : Int)) then some (sqTo (ys.getD j 0) (spAt xs b d j) a) else none) (ys.length) 0 (a : Nat) with
      | some s => k (.exit 0) ⟨[(10, .fv (.el (.sc (.fl .f32 s))))], []⟩
      | none => k .ret ⟨[(8, .fv (.el (.sc (.fl .f32 0)))), (9, .fv (.el (.sc (.bo false))))], []⟩)
    | false => none)
  | _ => none
def l88 : Loops := fun key s k => bif Nat.beq key 3 then lp88 s k else none
theorem st88 (xs : List LineV) (ys : List Nat) (b : Nat) (d : Nat) (a : Nat) (n : Int) (i : Int) (m : Nat) (k : Ex → St → R) : iterK a88 [0, 1, 2, 3, 10, 16, 17] [10] (codeK T7 a88 l88 Try.f88.ntmps (loopAt Try.f88 0)) (m + 1) ⟨[(0, .fv (.vw (some 0) ⟨.line, xs⟩)), (1, .fv (.vw (some 1) ⟨.f32, ys⟩)), (2, .fv (.el (.sc (.fl .f32 b)))), (3, .fv (.el (.sc (.fl .f32 d)))), (10, .fv (.el (.sc (.fl .f32 a)))), (16, .fv (.el (.sc (.int .i64 n)))), (17, .fv (.el (.sc (.int .i64 i))))], []⟩ k = (match (decide ((i : Int) < n) : Bool) with
  | true => (match (Nat.ble xs.length big : Bool) with
    | true => (match (!(linesAtOk xs (placeAt b d i)) : Bool) with
      | true => k .ret ⟨[(8, .fv (.el (.sc (.fl .f32 0)))), (9, .fv (.el (.sc (.bo false))))], []⟩
      | false => (match (decide (0 ≤ (i : Int) ∧ (i : Int) < (ys.length : Int)) && true : Bool) with
        | true => (match (ys : List Nat)[Int.toNat i]? with
          | some x1 => iterK a88 [0, 1, 2, 3, 10, 16, 17] [10] (codeK T7 a88 l88 Try.f88.ntmps (loopAt Try.f88 0)) m ⟨[(0, .fv (.vw (some 0) ⟨.line, xs⟩)), (1, .fv (.vw (some 1) ⟨.f32, ys⟩)), (2, .fv (.el (.sc (.fl .f32 b)))), (3, .fv (.el (.sc (.fl .f32 d)))), (10, .fv (.el (.sc (.fl .f32 (fop .add .f32 a (fop .mul .f32 (fop .sub .f32 x1 (orZero (linesAtOk xs (placeAt b d i)) (linesSum xs (placeAt b d i)))) (fop .sub .f32 x1 (orZero (linesAtOk xs (placeAt b d i)) (linesSum xs (placeAt b d i)))))))))), (16, .fv (.el (.sc (.int .i64 n)))), (17, .fv (.el (.sc (.int .i64 (IntKind.i64.wrap (i + 1))))))], []⟩ k
          | none => none)
        | false => none))
    | false => none)
  | false => k (.exit 0) ⟨[(10, .fv (.el (.sc (.fl .f32 a))))], []⟩) := by kernel_rfl
theorem ind88 (xs : List LineV) (ys : List Nat) (b : Nat) (d : Nat) (hx : (Nat.ble xs.length big) = true) (hy : (Nat.ble ys.length big) = true) (k : Ex → St → R) : ∀ (m j : Nat) (a : Nat), 0 ≤ j → j + m = ys.length → iterK a88 [0, 1, 2, 3, 10, 16, 17] [10] (codeK T7 a88 l88 Try.f88.ntmps (loopAt Try.f88 0)) (m + 1) ⟨[(0, .fv (.vw (some 0) ⟨.line, xs⟩)), (1, .fv (.vw (some 1) ⟨.f32, ys⟩)), (2, .fv (.el (.sc (.fl .f32 b)))), (3, .fv (.el (.sc (.fl .f32 d)))), (10, .fv (.el (.sc (.fl .f32 a)))), (16, .fv (.el (.sc (.int .i64 (ys.length : Int))))), (17, .fv (.el (.sc (.int .i64 (j : Int)))))], []⟩ k =
    (match repE (fun j a => bif linesAtOk xs (placeAt b d (j : Int)) then some (sqTo (ys.getD j 0) (spAt xs b d j) a) else none) m j (a : Nat) with
    | some s => k (.exit 0) ⟨[(10, .fv (.el (.sc (.fl .f32 s))))], []⟩
    | none => k .ret ⟨[(8, .fv (.el (.sc (.fl .f32 0)))), (9, .fv (.el (.sc (.bo false))))], []⟩) := by
  intro m
  induction m with
  | zero =>
    intro j a hlo hj
    have hx_ := big_le hx
    have hy_ := big_le hy
    have h1 : ¬ (((j : Int) < (ys.length : Int))) := by omega
    rw [st88]
    simp only [h1, repE, decide_false, hx] <;> rfl
  | succ m ih =>
    intro j a hlo hj
    have hx_ := big_le hx
    have hy_ := big_le hy
    have h1 : ((j : Int) < (ys.length : Int)) := by omega
    have yb : (0 : Int) ≤ ((j : Nat) : Int) ∧ ((j : Nat) : Int) < (ys.length : Int) := by omega
    have yq : ys[Int.toNat ((j : Nat) : Int)]? = some (ys.getD (j) 0) := getI (by omega)
    have yp : ys[j]? = some (ys.getD (j) 0) := getI2 (by omega)
    have wn : IntKind.i64.wrap ((j : Int) + 1) = ((j + 1 : Nat) : Int) := wrapN (by omega) (by omega)
    rw [st88]
    simp only [h1, wn, yb, yq, yp, and_self, decide_true, Bool.and_true, Int.le_refl, hx]
    rw [repE_succ]
    have r1 := ih (j + 1) (sqTo (ys.getD j 0) (spAt xs b d j) a) (by omega) (by omega)
    cases hf : linesAtOk xs (placeAt b d (j : Int)) with
    | true => exact r1
    | false => rfl

theorem lk88 : LOK T7 a88 l88 Try.f88.ntmps (loopAt Try.f88 0) := by
  intro ins outs hA s k out h
  have hA' : ([0, 1, 2, 3, 10, 16, 17], [10]) = (ins, outs) := Option.some.inj ((show a88.lp (firstRegion (loopAt Try.f88 0)) = some ([0, 1, 2, 3, 10, 16, 17], [10]) by kernel_rfl).symm.trans hA)
  cases hA'
  have hk : firstRegion (loopAt Try.f88 0) = 3 := by kernel_rfl
  rw [hk] at h
  change lp88 s k = some out at h
  unfold lp88 at h
  split at h
  · rename_i xs ys b d a n i
    cases hg : (decide (n = (ys.length : Int)) && (decide (i = 0) && (Nat.ble xs.length big && Nat.ble ys.length big))) with
    | false => rw [hg] at h; cases h
    | true =>
      rw [hg] at h
      simp only [Bool.and_eq_true, decide_eq_true_eq] at hg
      obtain ⟨rfl, rfl, hx, hy⟩ := hg
      refine ⟨(ys.length) + 1, ?_⟩
      have hx_ := big_le hx
      have hy_ := big_le hy
      exact (ind88 xs ys b d hx hy k (ys.length) 0 a (by omega) (by omega)).trans h
  · cases h
theorem e88 (xs : List LineV) (ys : List Nat) (b : Nat) (d : Nat) : runFn T7 a88 l88 Try.f88 [.vw none ⟨.line, xs⟩, .vw none ⟨.f32, ys⟩, .el (.sc (.fl .f32 b)), .el (.sc (.fl .f32 d))] = (match ((decide (((ys.length : Int)) = (ys.length : Int)) && (decide (0 = 0) && (Nat.ble xs.length big && Nat.ble ys.length big))) : Bool) with
  | true => (match repE (fun j a => bif linesAtOk xs (placeAt b d (j : Int)) then some (sqTo (ys.getD j 0) (spAt xs b d j) a) else none) (ys.length) 0 (0 : Nat) with
    | some s => some ⟨[.el (.sc (.fl .f32 s)), .el (.sc (.bo (fin s)))], none⟩
    | none => some ⟨[.el (.sc (.fl .f32 0)), .el (.sc (.bo false))], none⟩)
  | false => none) := by kernel_rfl
theorem s88 (xs : List LineV) (ys : List Nat) (b : Nat) (d : Nat) (hg : (Nat.ble xs.length big && Nat.ble ys.length big) = true) : runFn T7 a88 l88 Try.f88 [.vw none ⟨.line, xs⟩, .vw none ⟨.f32, ys⟩, .el (.sc (.fl .f32 b)), .el (.sc (.fl .f32 d))] = (match (spAll xs b d ys.length : Bool) with
  | true => some ⟨[.el (.sc (.fl .f32 (restSum xs ys b d))), .el (.sc (.bo (fin (restSum xs ys b d))))], none⟩
  | false => some ⟨[.el (.sc (.fl .f32 0)), .el (.sc (.bo false))], none⟩) := by
  rw [e88]
  rw [Bool.and_eq_true] at hg
  have e := rest_run xs ys b d
  simp only [hg.1, hg.2, e]
  cases spAll xs b d ys.length <;> rfl
theorem c88 (xs : List LineV) (ys : List Nat) (b : Nat) (d : Nat) (k : List RV → R) (out : Out) (h : (match (Nat.ble xs.length big && Nat.ble ys.length big : Bool) with
  | true => (match (spAll xs b d ys.length : Bool) with
    | true => k [.el (.sc (.fl .f32 (restSum xs ys b d))), .el (.sc (.bo (fin (restSum xs ys b d))))]
    | false => k [.el (.sc (.fl .f32 0)), .el (.sc (.bo false))])
  | false => none) = some out) : ∃ rs, Real Try.prog 88 ∧ COK Try.prog 88 [.vw none ⟨.line, xs⟩, .vw none ⟨.f32, ys⟩, .el (.sc (.fl .f32 b)), .el (.sc (.fl .f32 d))] rs ∧ k rs = some out := by
  cases g0 : (Nat.ble xs.length big && Nat.ble ys.length big : Bool) with
  | true =>
    rw [g0] at h
    cases g1 : (spAll xs b d ys.length : Bool) with
    | true =>
      rw [g1] at h
      exact ⟨_, real Try.func88 (by kernel_rfl), fn_ok tok7 (A := a88) (L := l88) (r := none) Try.func88 (by kernel_rfl) (by kernel_rfl) (loops1 (by kernel_rfl) lk88) (by rw [s88 _ _ _ _ g0, g1]), h⟩
    | false =>
      rw [g1] at h
      exact ⟨_, real Try.func88 (by kernel_rfl), fn_ok tok7 (A := a88) (L := l88) (r := none) Try.func88 (by kernel_rfl) (by kernel_rfl) (loops1 (by kernel_rfl) lk88) (by rw [s88 _ _ _ _ g0, g1]), h⟩
  | false =>
    rw [g0] at h
    cases h

/-! slices.IndexFunc[[]impl.Line,impl.Line] -/
def a189 : Ann := ann [(2, [0, 1, 7, 8], [])] [4] 0
def lp189 : St → (Ex → St → R) → R := fun s k => match s with
  | ⟨[(0, .fv (.vw (some 0) ⟨.line, xs⟩)), (1, .fv (.fn 155 [])), (7, .fv (.el (.sc (.int .i64 n)))), (8, .fv (.el (.sc (.int .i64 i))))], []⟩ => (match (decide (n = (xs.length : Int)) && (decide (i = 0) && Nat.ble xs.length big) : Bool) with
    | true => (match xs.findIdx? notLine with
      | some q => k .ret ⟨[(4, .fv (.el (.sc (.int .i64 ((q : Int))))))], []⟩
      | none => k (.exit 0) ⟨[], []⟩)
    | false => none)
  | _ => none
def l189 : Loops := fun key s k => bif Nat.beq key 2 then lp189 s k else none
theorem st189 (xs : List LineV) (n : Int) (i : Int) (m : Nat) (k : Ex → St → R) : iterK a189 [0, 1, 7, 8] [] (codeK T7 a189 l189 Try.f189.ntmps (loopAt Try.f189 0)) (m + 1) ⟨[(0, .fv (.vw (some 0) ⟨.line, xs⟩)), (1, .fv (.fn 155 [])), (7, .fv (.el (.sc (.int .i64 n)))), (8, .fv (.el (.sc (.int .i64 i))))], []⟩ k = (match (decide ((i : Int) < n) : Bool) with
  | true => (match (decide (0 ≤ (i : Int) ∧ (i : Int) < (xs.length : Int)) && true : Bool) with
    | true => (match (xs : List LineV)[Int.toNat i]? with
      | some x1 => (match (notLine x1 : Bool) with
        | true => k .ret ⟨[(4, .fv (.el (.sc (.int .i64 i))))], []⟩
        | false => iterK a189 [0, 1, 7, 8] [] (codeK T7 a189 l189 Try.f189.ntmps (loopAt Try.f189 0)) m ⟨[(0, .fv (.vw (some 0) ⟨.line, xs⟩)), (1, .fv (.fn 155 [])), (7, .fv (.el (.sc (.int .i64 n)))), (8, .fv (.el (.sc (.int .i64 (IntKind.i64.wrap (i + 1))))))], []⟩ k)
      | none => none)
    | false => none)
  | false => k (.exit 0) ⟨[], []⟩) := by kernel_rfl
theorem ind189 (xs : List LineV) (hx : Nat.ble xs.length big = true) (k : Ex → St → R) : ∀ (m j : Nat), j + m = xs.length → iterK a189 [0, 1, 7, 8] [] (codeK T7 a189 l189 Try.f189.ntmps (loopAt Try.f189 0)) (m + 1) ⟨[(0, .fv (.vw (some 0) ⟨.line, xs⟩)), (1, .fv (.fn 155 [])), (7, .fv (.el (.sc (.int .i64 (xs.length : Int))))), (8, .fv (.el (.sc (.int .i64 (j : Int)))))], []⟩ k =
    (match (xs.drop j).findIdx? notLine with
    | some q => k .ret ⟨[(4, .fv (.el (.sc (.int .i64 ((j + q : Nat) : Int)))))], []⟩
    | none => k (.exit 0) ⟨[], []⟩) := by
  intro m
  induction m with
  | zero =>
    intro j hj
    have h1 : ¬ ((j : Int) < (xs.length : Int)) := by omega
    rw [st189]
    have h2 : xs.drop j = [] := List.drop_of_length_le (by omega)
    simp [h1, h2]
  | succ m ih =>
    intro j hj
    have hlt : j < xs.length := by omega
    have h1 : ((j : Int) < (xs.length : Int)) := by omega
    have h2 : (0 : Int) ≤ (j : Int) := by omega
    rw [st189, wrap_succ hlt hx]
    have h3 : xs[Int.toNat (j : Int)]? = some xs[j] := by simp [hlt]
    rw [List.drop_eq_getElem_cons hlt, List.findIdx?_cons]
    simp only [h1, h2, h3, and_self, decide_true, Bool.and_true]
    cases hp : notLine xs[j] with
    | true => simp
    | false =>
      rw [ih (j + 1) (by omega)]
      cases (xs.drop (j + 1)).findIdx? notLine with
      | none => rfl
      | some q => simp only [Bool.false_eq_true, if_false, Option.map_some]; rw [show j + 1 + q = j + (q + 1) by omega]
theorem lk189 : LOK T7 a189 l189 Try.f189.ntmps (loopAt Try.f189 0) := by
  intro ins outs hA s k out h
  have hA' : ([0, 1, 7, 8], []) = (ins, outs) := Option.some.inj ((show a189.lp (firstRegion (loopAt Try.f189 0)) = some ([0, 1, 7, 8], []) by kernel_rfl).symm.trans hA)
  cases hA'
  have hk : firstRegion (loopAt Try.f189 0) = 2 := by kernel_rfl
  rw [hk] at h
  change lp189 s k = some out at h
  unfold lp189 at h
  split at h
  · rename_i xs n i
    cases hg : (decide (n = (xs.length : Int)) && (decide (i = 0) && Nat.ble xs.length big)) with
    | false => rw [hg] at h; cases h
    | true =>
      rw [hg] at h
      simp only [Bool.and_eq_true, decide_eq_true_eq] at hg
      obtain ⟨rfl, rfl, hx⟩ := hg
      refine ⟨xs.length + 1, ?_⟩
      have := ind189 xs hx k xs.length 0 (by omega)
      simp only [List.drop_zero, Nat.zero_add] at this
      exact this.trans h
  · cases h
theorem e189 (xs : List LineV) : runFn T7 a189 l189 Try.f189 [.vw none ⟨.line, xs⟩, .fn 155 []] = (match (decide ((xs.length : Int) = (xs.length : Int)) && (decide (0 = 0) && Nat.ble xs.length big) : Bool) with
  | true => (match xs.findIdx? notLine with
    | some q => some ⟨[.el (.sc (.int .i64 ((q : Int))))], none⟩
    | none => some ⟨[.el (.sc (.int .i64 ((-1))))], none⟩)
  | false => none) := by kernel_rfl
theorem s189 (xs : List LineV) : runFn T7 a189 l189 Try.f189 [.vw none ⟨.line, xs⟩, .fn 155 []] = (match (Nat.ble xs.length big : Bool) with
  | true => some ⟨[.el (.sc (.int .i64 (firstAt notLine xs)))], none⟩
  | false => none) := by
  rw [e189]
  unfold firstAt
  cases h : Nat.ble xs.length big with
  | false => simp [h]
  | true =>
    cases h2 : xs.findIdx? notLine with
    | some q => simp [h, h2]
    | none => simp [h, h2]
theorem c189 (xs : List LineV) (k : List RV → R) (out : Out) (h : (match (Nat.ble xs.length big : Bool) with
  | true => k [.el (.sc (.int .i64 (firstAt notLine xs)))]
  | false => none) = some out) : ∃ rs, Real Try.prog 189 ∧ COK Try.prog 189 [.vw none ⟨.line, xs⟩, .fn 155 []] rs ∧ k rs = some out := by
  cases g0 : (Nat.ble xs.length big : Bool) with
  | true =>
    rw [g0] at h
    exact ⟨_, real Try.func189 (by kernel_rfl), fn_ok tok7 (A := a189) (L := l189) (r := none) Try.func189 (by kernel_rfl) (by kernel_rfl) (loops1 (by kernel_rfl) lk189) (by rw [s189, g0]), h⟩
  | false =>
    rw [g0] at h
    cases h

def S8 : SFn := fun f args k => match f, args with
  | 88, [.vw none ⟨.line, xs⟩, .vw none ⟨.f32, ys⟩, .el (.sc (.fl .f32 b)), .el (.sc (.fl .f32 d))] => (match (Nat.ble xs.length big && Nat.ble ys.length big : Bool) with
    | true => (match (spAll xs b d ys.length : Bool) with
      | true => k [.el (.sc (.fl .f32 (restSum xs ys b d))), .el (.sc (.bo (fin (restSum xs ys b d))))]
      | false => k [.el (.sc (.fl .f32 0)), .el (.sc (.bo false))])
    | false => none)
  | 189, [.vw none ⟨.line, xs⟩, .fn 155 []] => (match (Nat.ble xs.length big : Bool) with
    | true => k [.el (.sc (.int .i64 (firstAt notLine xs)))]
    | false => none)
  | _, _ => S7 f args k
abbrev M8 : MFn := M7
def T8 : TT := tab.T S8 muts M8
theorem tok8 : TOK Try.prog T8 := by
  refine (tab_ok tabok).tok (fun f args k out h => ?_) (fun f vec args k out h => ?_)
  · change S8 f args k = some out at h
    unfold S8 at h
    split at h
    · exact (fun k out h => cok_call (c88 _ _ _ _ k out h)) k out h
    · exact (fun k out h => cok_call (c189 _ k out h)) k out h
    · exact tok7.S f args k out h
  · exact tok7.M f vec args k out h

end Go.Sm.Ytdeplgocckdbiaa
