/- What the functions hand back: level 10. -/
import Derived.Test.YtlkphfpkohabeaaD10
namespace Go.Sm.Ytlkphfpkohabeaa
open Go Go.Sm Go.RowKit Go.Proofs

/-! impl.ShiftLines -/
def a24 : Ann := ann [(5, [1, 2, 8, 22, 23, 24], [8])] [6, 7] 0
def lp24 : St → (Ex → St → R) → R := fun s k => match s with
  | ⟨[(1, .fv (.el (.sc (.fl .f32 b)))), (2, .fv (.el (.sc (.fl .f32 d)))), (8, .fv (.own 0)), (22, .fv (.vw (some 0) ⟨.line, xs⟩)), (23, .fv (.el (.sc (.int .i64 n)))), (24, .fv (.el (.sc (.int .i64 i))))], [some ⟨49, ⟨.line, zs⟩⟩]⟩ => (match ((decide (n = (xs.length : Int)) && (decide (i = 0) && (Nat.ble xs.length big && Nat.ble ((zs : List LineV).length + xs.length) big))) : Bool) with
    | true => k (.exit 0) ⟨[(8, .fv (.own 0))], [some ⟨49, ⟨.line, rep (fun j zs => zs ++ [shiftL b d (xs.getD j noLine)]) (xs.length) 0 ((zs : List LineV) : (List LineV))⟩⟩]⟩
    | false => none)
  | _ => none
def l24 : Loops := fun key s k => bif Nat.beq key 5 then lp24 s k else none
theorem st24 (b : Nat) (d : Nat) (xs : List LineV) (n : Int) (i : Int) (zs : List LineV) (m : Nat) (k : Ex → St → R) : iterK a24 [1, 2, 8, 22, 23, 24] [8] (codeK T10 a24 l24 Try.f24.ntmps (loopAt Try.f24 0)) (m + 1) ⟨[(1, .fv (.el (.sc (.fl .f32 b)))), (2, .fv (.el (.sc (.fl .f32 d)))), (8, .fv (.own 0)), (22, .fv (.vw (some 0) ⟨.line, xs⟩)), (23, .fv (.el (.sc (.int .i64 n)))), (24, .fv (.el (.sc (.int .i64 i))))], [some ⟨49, ⟨.line, zs⟩⟩]⟩ k = (match (decide ((i : Int) < n) : Bool) with
  | true => (match (decide (0 ≤ (i : Int) ∧ (i : Int) < (xs.length : Int)) && true : Bool) with
    | true => (match (xs : List LineV)[Int.toNat i]? with
      | some x1 => (match (Nat.beq 49 49 && decide ((zs : List LineV).length + ([(⟨fop .add .f32 x1.p b, fop .mul .f32 x1.h d, x1.w, x1.k⟩ : LineV)] : List LineV).length ≤ 1099511627776) : Bool) with
        | true => iterK a24 [1, 2, 8, 22, 23, 24] [8] (codeK T10 a24 l24 Try.f24.ntmps (loopAt Try.f24 0)) m ⟨[(1, .fv (.el (.sc (.fl .f32 b)))), (2, .fv (.el (.sc (.fl .f32 d)))), (8, .fv (.own 0)), (22, .fv (.vw (some 0) ⟨.line, xs⟩)), (23, .fv (.el (.sc (.int .i64 n)))), (24, .fv (.el (.sc (.int .i64 (IntKind.i64.wrap (i + 1))))))], [some ⟨49, ⟨.line, (zs : List LineV) ++ ([(⟨fop .add .f32 x1.p b, fop .mul .f32 x1.h d, x1.w, x1.k⟩ : LineV)])⟩⟩]⟩ k
        | false => none)
      | none => none)
    | false => none)
  | false => k (.exit 0) ⟨[(8, .fv (.own 0))], [some ⟨49, ⟨.line, zs⟩⟩]⟩) := by kernel_rfl
theorem ind24 (b : Nat) (d : Nat) (xs : List LineV) (hx : (Nat.ble xs.length big) = true) (k : Ex → St → R) : ∀ (m j : Nat) (zs : List LineV), zs.length + m ≤ 1099511627776 → 0 ≤ j → j + m = xs.length → iterK a24 [1, 2, 8, 22, 23, 24] [8] (codeK T10 a24 l24 Try.f24.ntmps (loopAt Try.f24 0)) (m + 1) ⟨[(1, .fv (.el (.sc (.fl .f32 b)))), (2, .fv (.el (.sc (.fl .f32 d)))), (8, .fv (.own 0)), (22, .fv (.vw (some 0) ⟨.line, xs⟩)), (23, .fv (.el (.sc (.int .i64 (xs.length : Int))))), (24, .fv (.el (.sc (.int .i64 (j : Int)))))], [some ⟨49, ⟨.line, zs⟩⟩]⟩ k =
    k (.exit 0) ⟨[(8, .fv (.own 0))], [some ⟨49, ⟨.line, rep (fun j zs => zs ++ [shiftL b d (xs.getD j noLine)]) m j (zs : (List LineV))⟩⟩]⟩ := by
  intro m
  induction m with
  | zero =>
    intro j zs hs0 hlo hj
    have hx_ := big_le hx
    have h1 : ¬ (((j : Int) < (xs.length : Int))) := by omega
    rw [st24]
    simp only [h1, rep, decide_false, List.length_singleton] <;> rfl
  | succ m ih =>
    intro j zs hs0 hlo hj
    have hx_ := big_le hx
    have h1 : ((j : Int) < (xs.length : Int)) := by omega
    have hbq : Nat.beq 49 49 = true := rfl
    have hzl : zs.length + 1 ≤ 1099511627776 := by omega
    have xb : (0 : Int) ≤ ((j : Nat) : Int) ∧ ((j : Nat) : Int) < (xs.length : Int) := by omega
    have xq : xs[Int.toNat ((j : Nat) : Int)]? = some (xs.getD (j) noLine) := getI (by omega)
    have xp : xs[j]? = some (xs.getD (j) noLine) := getI2 (by omega)
    have wn : IntKind.i64.wrap ((j : Int) + 1) = ((j + 1 : Nat) : Int) := wrapN (by omega) (by omega)
    rw [st24]
    simp only [h1, wn, hbq, hzl, xb, xq, xp, and_self, decide_true, Bool.and_true, Int.le_refl, List.length_singleton]
    exact ih (j + 1) _ (by simp; omega) (by omega) (by omega)

theorem lk24 : LOK T10 a24 l24 Try.f24.ntmps (loopAt Try.f24 0) := by
  intro ins outs hA s k out h
  have hA' : ([1, 2, 8, 22, 23, 24], [8]) = (ins, outs) := Option.some.inj ((show a24.lp (firstRegion (loopAt Try.f24 0)) = some ([1, 2, 8, 22, 23, 24], [8]) by kernel_rfl).symm.trans hA)
  cases hA'
  have hk : firstRegion (loopAt Try.f24 0) = 5 := by kernel_rfl
  rw [hk] at h
  change lp24 s k = some out at h
  unfold lp24 at h
  split at h
  · rename_i b d xs n i zs
    cases hg : (decide (n = (xs.length : Int)) && (decide (i = 0) && (Nat.ble xs.length big && Nat.ble (zs.length + xs.length) big))) with
    | false => rw [hg] at h; cases h
    | true =>
      rw [hg] at h
      simp only [Bool.and_eq_true, decide_eq_true_eq] at hg
      obtain ⟨rfl, rfl, hx, gs0⟩ := hg
      refine ⟨(xs.length) + 1, ?_⟩
      have hx_ := big_le hx
      have gs0_ := big_le gs0
      exact (ind24 b d xs hx k (xs.length) 0 zs (by omega) (by omega) (by omega)).trans h
  · cases h
theorem e24 (xs : List LineV) (b : Nat) (d : Nat) : runFn T10 a24 l24 Try.f24 [.vw none ⟨.line, xs⟩, .el (.sc (.fl .f32 b)), .el (.sc (.fl .f32 d))] = (match (decide (12 ≤ 1099511627776) : Bool) with
  | true => (match (!(linesIn xs 0 12) : Bool) with
    | true => some ⟨[.nil, .el (.sc (.bo false))], none⟩
    | false => (match (!(([b, d]).all fin) : Bool) with
      | true => some ⟨[.nil, .el (.sc (.bo false))], none⟩
      | false => (match ((decide (((xs.length : Int)) = (xs.length : Int)) && (decide (0 = 0) && (Nat.ble xs.length big && Nat.ble (([] : List LineV).length + xs.length) big))) : Bool) with
        | true => (match (decide (12 ≤ 1099511627776) : Bool) with
          | true => (match (!(linesIn (rep (fun j zs => zs ++ [shiftL b d (xs.getD j noLine)]) (xs.length) 0 (([] : List LineV) : (List LineV))) 0 12) : Bool) with
            | true => some ⟨[.nil, .el (.sc (.bo false))], none⟩
            | false => some ⟨[.fresh 49 ⟨.line, rep (fun j zs => zs ++ [shiftL b d (xs.getD j noLine)]) (xs.length) 0 (([] : List LineV) : (List LineV))⟩, .el (.sc (.bo true))], none⟩)
          | false => none)
        | false => none)))
  | false => none) := by kernel_rfl
theorem s24 (xs : List LineV) (b : Nat) (d : Nat) : runFn T10 a24 l24 Try.f24 [.vw none ⟨.line, xs⟩, .el (.sc (.fl .f32 b)), .el (.sc (.fl .f32 d))] = (match (shiftOk xs b d : Bool) with
  | true => some ⟨[.fresh 49 ⟨.line, shiftX xs b d⟩, .el (.sc (.bo true))], none⟩
  | false => some ⟨[.nil, .el (.sc (.bo false))], none⟩) := by
  rw [e24]
  rw [linesIn_12]
  unfold shiftOk
  cases h1 : linesOk xs with
  | false => simp
  | true =>
    have h1b := h1
    unfold linesOk at h1b
    rw [Bool.and_eq_true, decide_eq_true_eq] at h1b
    have hx : Nat.ble xs.length big = true := big_of (by omega)
    have hx2 : xs.length ≤ 1099511627776 := by omega
    have hz : Nat.ble (0 + xs.length) big = true := big_of (by omega)
    have hl : Nat.ble (shiftX xs b d).length big = true := big_of (by rw [shiftX_len]; omega)
    cases h2 : fin b with
    | false => simp [h2]
    | true =>
      cases h3 : fin d with
      | false => simp [h2, h3]
      | true =>
        have e := rep_map (fun j => shiftL b d (xs.getD j noLine)) xs.length 0 []
        have e2 : (fromTo 0 xs.length).map (fun j => shiftL b d (xs.getD j noLine)) = shiftX xs b d := rfl
        rw [List.nil_append, e2] at e
        have e3 := linesIn_12 (shiftX xs b d)
        simp only [hx, hx2, hz, e, e3, List.length_nil, List.all_cons, List.all_nil, h2, h3, decide_true, Bool.and_self, Bool.not_true, Bool.true_and, Bool.and_true]
        cases h6 : linesOk (shiftX xs b d) with
        | false => simp
        | true => simp [hl]
theorem c24 (xs : List LineV) (b : Nat) (d : Nat) (k : List RV → R) (out : Out) (h : k [.fresh 49 ⟨.line, orNil (shiftOk xs b d) (shiftX xs b d)⟩, .el (.sc (.bo (shiftOk xs b d)))] = some out) : ∃ rs, Real Try.prog 24 ∧ COK Try.prog 24 [.vw none ⟨.line, xs⟩, .el (.sc (.fl .f32 b)), .el (.sc (.fl .f32 d))] rs ∧ k rs = some out := by
  cases g0 : (shiftOk xs b d : Bool) with
  | true =>
    rw [g0] at h
    exact ⟨_, real Try.func24 (by kernel_rfl), fn_ok tok10 (A := a24) (L := l24) (r := none) Try.func24 (by kernel_rfl) (by kernel_rfl) (loops1 (by kernel_rfl) lk24) (by rw [s24, g0]; rfl), h⟩
  | false =>
    rw [g0] at h
    exact ⟨_, real Try.func24 (by kernel_rfl), COK.nil (fn_ok tok10 (A := a24) (L := l24) (r := none) Try.func24 (by kernel_rfl) (by kernel_rfl) (loops1 (by kernel_rfl) lk24) (by rw [s24, g0] <;> rfl)), h⟩

def S11 : SFn := fun f args k => match f, args with
  | 24, [.vw none ⟨.line, xs⟩, .el (.sc (.fl .f32 b)), .el (.sc (.fl .f32 d))] => k [.fresh 49 ⟨.line, orNil (shiftOk xs b d) (shiftX xs b d)⟩, .el (.sc (.bo (shiftOk xs b d)))]
  | _, _ => S10 f args k
abbrev M11 : MFn := M10
def T11 : TT := tab.T S11 muts M11
theorem tok11 : TOK Try.prog T11 := by
  refine (tab_ok tabok).tok (fun f args k out h => ?_) (fun f vec args k out h => ?_)
  · change S11 f args k = some out at h
    unfold S11 at h
    split at h
    · exact (fun k out h => cok_call (c24 _ _ _ k out h)) k out h
    · exact tok10.S f args k out h
  · exact tok10.M f vec args k out h

end Go.Sm.Ytlkphfpkohabeaa
