/- What the functions hand back: level 2. -/
import Derived.Test.YtdnfgoolapikmaaD2
namespace Go.Sm.Ytdnfgoolapikmaa
open Go Go.Sm Go.RowKit Go.Proofs

/-! spec.BendOf -/
def a21 : Ann := ann [(5, [0, 4, 5], [4])] [2, 3] 0
def lp21 : St → (Ex → St → R) → R := fun s k => match s with
  | ⟨[(0, .fv (.vw (some 0) ⟨.f32, xs⟩)), (4, .fv (.own 0)), (5, .fv (.el (.sc (.int .i64 i))))], [some ⟨37, ⟨.f32, zs⟩⟩]⟩ => (match ((decide (i = 1) && (Nat.ble xs.length big && (Nat.ble 2 xs.length && Nat.ble ((zs : List Nat).length + (xs.length - 1)) big))) : Bool) with
    | true => (match repE (fun j zs => bif fin (bendAt xs j) then some (zs ++ [bendAt xs j]) else none) (xs.length - 1 - 1) 1 ((zs : List Nat) : (List Nat)) with
      | some s => k (.exit 0) ⟨[(4, .fv (.own 0))], [some ⟨37, ⟨.f32, s⟩⟩]⟩
      | none => k .ret ⟨[(2, .fv (.nil)), (3, .fv (.el (.sc (.bo false))))], []⟩)
    | false => none)
  | _ => none
def l21 : Loops := fun key s k => bif Nat.beq key 5 then lp21 s k else none
theorem st21 (xs : List Nat) (i : Int) (zs : List Nat) (m : Nat) (k : Ex → St → R) : iterK a21 [0, 4, 5] [4] (codeK T2 a21 l21 Try.f21.ntmps (loopAt Try.f21 0)) (m + 1) ⟨[(0, .fv (.vw (some 0) ⟨.f32, xs⟩)), (4, .fv (.own 0)), (5, .fv (.el (.sc (.int .i64 i))))], [some ⟨37, ⟨.f32, zs⟩⟩]⟩ k = (match (decide ((IntKind.i64.wrap (i + 1) : Int) < (xs.length : Int)) : Bool) with
  | true => (match (decide (1 ≤ i ∧ i + 1 < (xs.length : Int)) && Nat.ble xs.length big : Bool) with
    | true => (match (!(fin (bendAt xs (Int.toNat i))) : Bool) with
      | true => k .ret ⟨[(2, .fv (.nil)), (3, .fv (.el (.sc (.bo false))))], []⟩
      | false => (match (Nat.beq 37 37 && decide ((zs : List Nat).length + ([bendAt xs (Int.toNat i)] : List Nat).length ≤ 1099511627776) : Bool) with
        | true => iterK a21 [0, 4, 5] [4] (codeK T2 a21 l21 Try.f21.ntmps (loopAt Try.f21 0)) m ⟨[(0, .fv (.vw (some 0) ⟨.f32, xs⟩)), (4, .fv (.own 0)), (5, .fv (.el (.sc (.int .i64 (IntKind.i64.wrap (i + 1))))))], [some ⟨37, ⟨.f32, (zs : List Nat) ++ ([bendAt xs (Int.toNat i)])⟩⟩]⟩ k
        | false => none))
    | false => none)
  | false => k (.exit 0) ⟨[(4, .fv (.own 0))], [some ⟨37, ⟨.f32, zs⟩⟩]⟩) := by kernel_rfl
theorem ind21 (xs : List Nat) (hx : (Nat.ble xs.length big) = true) (h2 : (Nat.ble 2 xs.length) = true) (k : Ex → St → R) : ∀ (m j : Nat) (zs : List Nat), zs.length + m ≤ 1099511627776 → 1 ≤ j → j + m = xs.length - 1 → iterK a21 [0, 4, 5] [4] (codeK T2 a21 l21 Try.f21.ntmps (loopAt Try.f21 0)) (m + 1) ⟨[(0, .fv (.vw (some 0) ⟨.f32, xs⟩)), (4, .fv (.own 0)), (5, .fv (.el (.sc (.int .i64 (j : Int)))))], [some ⟨37, ⟨.f32, zs⟩⟩]⟩ k =
    (match repE (fun j zs => bif fin (bendAt xs j) then some (zs ++ [bendAt xs j]) else none) m j (zs : (List Nat)) with
    | some s => k (.exit 0) ⟨[(4, .fv (.own 0))], [some ⟨37, ⟨.f32, s⟩⟩]⟩
    | none => k .ret ⟨[(2, .fv (.nil)), (3, .fv (.el (.sc (.bo false))))], []⟩) := by
  intro m
  induction m with
  | zero =>
    intro j zs hs0 hlo hj
    have hx_ := big_le hx
    have h2_ := Nat.le_of_ble_eq_true h2
    have w2 : IntKind.i64.wrap ((j : Int) + 1) = ((j + 1 : Nat) : Int) := wrapN (by omega) (by omega)
    have h1 : ¬ (((j + 1 : Nat) : Int) < (xs.length : Int)) := by omega
    rw [st21]
    simp only [h1, w2, repE, decide_false, Int.toNat_natCast, List.length_singleton] <;> rfl
  | succ m ih =>
    intro j zs hs0 hlo hj
    have hx_ := big_le hx
    have h2_ := Nat.le_of_ble_eq_true h2
    have w2 : IntKind.i64.wrap ((j : Int) + 1) = ((j + 1 : Nat) : Int) := wrapN (by omega) (by omega)
    have h1 : ((j + 1 : Nat) : Int) < (xs.length : Int) := by omega
    have hbq : Nat.beq 37 37 = true := rfl
    have hzl : zs.length + 1 ≤ 1099511627776 := by omega
    have hc : (decide (1 ≤ (j : Int) ∧ (j : Int) + 1 < (xs.length : Int)) && Nat.ble xs.length big) = true := by rw [Bool.and_eq_true, decide_eq_true_eq]; exact ⟨by omega, hx⟩
    have wn : IntKind.i64.wrap ((j : Int) + 1) = ((j + 1 : Nat) : Int) := wrapN (by omega) (by omega)
    rw [st21]
    simp only [h1, wn, w2, hbq, hzl, hc, and_self, decide_true, Bool.and_true, Int.le_refl, Int.toNat_natCast, List.length_singleton]
    simp only [repE]
    cases hf : fin (bendAt xs j) with
    | true => exact ih (j + 1) _ (by simp; omega) (by omega) (by omega)
    | false => rfl

theorem lk21 : LOK T2 a21 l21 Try.f21.ntmps (loopAt Try.f21 0) := by
  intro ins outs hA s k out h
  have hA' : ([0, 4, 5], [4]) = (ins, outs) := Option.some.inj ((show a21.lp (firstRegion (loopAt Try.f21 0)) = some ([0, 4, 5], [4]) by kernel_rfl).symm.trans hA)
  cases hA'
  have hk : firstRegion (loopAt Try.f21 0) = 5 := by kernel_rfl
  rw [hk] at h
  change lp21 s k = some out at h
  unfold lp21 at h
  split at h
  · rename_i xs i zs
    cases hg : (decide (i = 1) && (Nat.ble xs.length big && (Nat.ble 2 xs.length && Nat.ble (zs.length + (xs.length - 1)) big))) with
    | false => rw [hg] at h; cases h
    | true =>
      rw [hg] at h
      simp only [Bool.and_eq_true, decide_eq_true_eq] at hg
      obtain ⟨rfl, hx, h2, gs0⟩ := hg
      refine ⟨(xs.length - 1) - 1 + 1, ?_⟩
      have hx_ := big_le hx
      have h2_ := Nat.le_of_ble_eq_true h2
      have gs0_ := big_le gs0
      exact (ind21 xs hx h2 k ((xs.length - 1) - 1) 1 zs (by omega) (by omega) (by omega)).trans h
  · cases h
theorem e21 (xs : List Nat) : runFn T2 a21 l21 Try.f21 [.vw none ⟨.f32, xs⟩] = (match (Nat.ble xs.length big : Bool) with
  | true => (match (!(listOk xs 1) : Bool) with
    | true => some ⟨[.nil, .el (.sc (.bo false))], none⟩
    | false => (match (decide (((xs.length : Int) : Int) < 3) : Bool) with
      | true => some ⟨[.nil, .el (.sc (.bo false))], none⟩
      | false => (match ((decide (1 = 1) && (Nat.ble xs.length big && (Nat.ble 2 xs.length && Nat.ble (([] : List Nat).length + (xs.length - 1)) big))) : Bool) with
        | true => (match repE (fun j zs => bif fin (bendAt xs j) then some (zs ++ [bendAt xs j]) else none) (xs.length - 1 - 1) 1 (([] : List Nat) : (List Nat)) with
          | some s => some ⟨[.fresh 37 ⟨.f32, s⟩, .el (.sc (.bo true))], none⟩
          | none => some ⟨[.nil, .el (.sc (.bo false))], none⟩)
        | false => none)))
  | false => none) := by kernel_rfl
theorem s21 (xs : List Nat) (hg : (Nat.ble xs.length big) = true) : runFn T2 a21 l21 Try.f21 [.vw none ⟨.f32, xs⟩] = (match (bendOk xs : Bool) with
  | true => some ⟨[.fresh 37 ⟨.f32, bends xs⟩, .el (.sc (.bo true))], none⟩
  | false => some ⟨[.nil, .el (.sc (.bo false))], none⟩) := by
  rw [e21]
  unfold bendOk listOk
  by_cases h4 : xs.length ≤ 128
  · by_cases h3 : xs.length ≥ 3
    · have i3 : (xs.length : Int) ≥ 3 := by omega
      have i1 : (xs.length : Int) ≥ 1 := by omega
      have i2 : ¬ (xs.length : Int) < 3 := by omega
      have hb : Nat.ble xs.length big = true := Nat.ble_eq_true_of_le (by unfold big; omega)
      have hb2 : Nat.ble 2 xs.length = true := Nat.ble_eq_true_of_le (by omega)
      have hb3 : Nat.ble (xs.length - 1) big = true := big_of (by omega)
      have hb4 : Nat.ble (bends xs).length big = true := big_of (by rw [bends_len]; omega)
      have e : repE (fun j zs => bif fin (bendAt xs j) then some (zs ++ [bendAt xs j]) else none) (xs.length - 1 - 1) 1 [] = bif (bends xs).all fin then some (bends xs) else none := repE_map fin (bendAt xs) _ 1 []
      cases hf : xs.all fin with
      | false => simp [h4, i1, i2, i3, hb, hf]
      | true => cases hd : (bends xs).all fin <;> simp [h4, i1, i2, i3, hb, hb2, hb3, hb4, e, hd, hf]
    · have i3 : ¬ (xs.length : Int) ≥ 3 := by omega
      have i2 : (xs.length : Int) < 3 := by omega
      cases hx : decide ((xs.length : Int) ≥ 1) <;> cases hf : xs.all fin <;> simp [i2, i3, h4, hg]
  · simp [h4, hg]
theorem c21 (xs : List Nat) (k : List RV → R) (out : Out) (h : (match (Nat.ble xs.length big : Bool) with
  | true => k [.fresh 37 ⟨.f32, orNil (bendOk xs) (bends xs)⟩, .el (.sc (.bo (bendOk xs)))]
  | false => none) = some out) : ∃ rs, Real Try.prog 21 ∧ COK Try.prog 21 [.vw none ⟨.f32, xs⟩] rs ∧ k rs = some out := by
  cases g0 : (Nat.ble xs.length big : Bool) with
  | false =>
    rw [g0] at h
    cases h
  | true =>
    rw [g0] at h
    dsimp only at h
    cases g1 : (bendOk xs : Bool) with
    | true =>
      rw [g1] at h
      exact ⟨_, real Try.func21 (by kernel_rfl), fn_ok tok2 (A := a21) (L := l21) (r := none) Try.func21 (by kernel_rfl) (by kernel_rfl) (loops1 (by kernel_rfl) lk21) (by rw [s21 _ g0, g1]; rfl), h⟩
    | false =>
      rw [g1] at h
      exact ⟨_, real Try.func21 (by kernel_rfl), COK.nil (fn_ok tok2 (A := a21) (L := l21) (r := none) Try.func21 (by kernel_rfl) (by kernel_rfl) (loops1 (by kernel_rfl) lk21) (by rw [s21 _ g0, g1])), h⟩

/-! spec.HalfWidth -/
def a28 : Ann := ann [(5, [0, 1, 6, 7], [0, 1, 6, 7]), (8, [0, 6, 7, 8], [0, 6, 7, 8])] [4, 5] 0
def lp28 : St → (Ex → St → R) → R := fun s k => match s with
  | ⟨[(0, .fv (.vw (some 0) ⟨.f32, xs⟩)), (1, .fv (.el (.sc (.int .i64 q)))), (6, .fv (.el (.sc (.fl .f32 h)))), (7, .fv (.el (.sc (.int .i64 i))))], []⟩ => (match ((decide (0 ≤ i ∧ i ≤ (xs.length : Int)) && Nat.ble xs.length big) : Bool) with
    | true => k (.exit 0) ⟨[(0, .fv (.vw (some 0) ⟨.f32, xs⟩)), (1, .fv (.el (.sc (.int .i64 q)))), (6, .fv (.el (.sc (.fl .f32 h)))), (7, .fv (.el (.sc (.int .i64 (runUp xs h i)))))], []⟩
    | false => none)
  | _ => none
def lp28_1 : St → (Ex → St → R) → R := fun s k => match s with
  | ⟨[(0, .fv (.vw (some 0) ⟨.f32, xs⟩)), (6, .fv (.el (.sc (.fl .f32 h)))), (7, .fv (.el (.sc (.int .i64 r)))), (8, .fv (.el (.sc (.int .i64 i))))], []⟩ => (match ((decide (-1 ≤ i ∧ i < (xs.length : Int)) && Nat.ble xs.length big) : Bool) with
    | true => k (.exit 2) ⟨[(0, .fv (.vw (some 0) ⟨.f32, xs⟩)), (6, .fv (.el (.sc (.fl .f32 h)))), (7, .fv (.el (.sc (.int .i64 r)))), (8, .fv (.el (.sc (.int .i64 (runDown xs h i)))))], []⟩
    | false => none)
  | _ => none
def l28 : Loops := fun key s k => bif Nat.beq key 5 then lp28 s k else bif Nat.beq key 8 then lp28_1 s k else none
theorem st28 (xs : List Nat) (q : Int) (h : Nat) (i : Int) (m : Nat) (k : Ex → St → R) : iterK a28 [0, 1, 6, 7] [0, 1, 6, 7] (codeK T2 a28 l28 Try.f28.ntmps (loopAt Try.f28 0)) (m + 1) ⟨[(0, .fv (.vw (some 0) ⟨.f32, xs⟩)), (1, .fv (.el (.sc (.int .i64 q)))), (6, .fv (.el (.sc (.fl .f32 h)))), (7, .fv (.el (.sc (.int .i64 i))))], []⟩ k = (match (decide ((i : Int) < (xs.length : Int)) : Bool) with
  | true => (match (decide (0 ≤ (i : Int) ∧ (i : Int) < (xs.length : Int)) && true : Bool) with
    | true => (match (xs : List Nat)[Int.toNat i]? with
      | some x1 => (match (fcmp .gtr .f32 x1 h : Bool) with
        | true => iterK a28 [0, 1, 6, 7] [0, 1, 6, 7] (codeK T2 a28 l28 Try.f28.ntmps (loopAt Try.f28 0)) m ⟨[(0, .fv (.vw (some 0) ⟨.f32, xs⟩)), (1, .fv (.el (.sc (.int .i64 q)))), (6, .fv (.el (.sc (.fl .f32 h)))), (7, .fv (.el (.sc (.int .i64 (IntKind.i64.wrap (i + 1))))))], []⟩ k
        | false => k (.exit 0) ⟨[(0, .fv (.vw (some 0) ⟨.f32, xs⟩)), (1, .fv (.el (.sc (.int .i64 q)))), (6, .fv (.el (.sc (.fl .f32 h)))), (7, .fv (.el (.sc (.int .i64 i))))], []⟩)
      | none => none)
    | false => none)
  | false => k (.exit 0) ⟨[(0, .fv (.vw (some 0) ⟨.f32, xs⟩)), (1, .fv (.el (.sc (.int .i64 q)))), (6, .fv (.el (.sc (.fl .f32 h)))), (7, .fv (.el (.sc (.int .i64 i))))], []⟩) := by kernel_rfl
theorem ind28 (xs : List Nat) (h : Nat) (q : Int) (hx : Nat.ble xs.length big = true) (k : Ex → St → R) : ∀ (m j : Nat), j + m = xs.length → iterK a28 [0, 1, 6, 7] [0, 1, 6, 7] (codeK T2 a28 l28 Try.f28.ntmps (loopAt Try.f28 0)) (m + 1) ⟨[(0, .fv (.vw (some 0) ⟨.f32, xs⟩)), (1, .fv (.el (.sc (.int .i64 q)))), (6, .fv (.el (.sc (.fl .f32 h)))), (7, .fv (.el (.sc (.int .i64 (j : Int)))))], []⟩ k =
    k (.exit 0) ⟨[(0, .fv (.vw (some 0) ⟨.f32, xs⟩)), (1, .fv (.el (.sc (.int .i64 q)))), (6, .fv (.el (.sc (.fl .f32 h)))), (7, .fv (.el (.sc (.int .i64 (runUp xs h (j : Int))))))], []⟩ := by
  have hxl := big_le hx
  intro m
  induction m with
  | zero =>
    intro j hj
    have h1 : ¬ ((j : Int) < (xs.length : Int)) := by omega
    have e : runUp xs h (j : Int) = (j : Int) := by unfold runUp; rw [show ((j : Int)).toNat = j by omega, List.drop_of_length_le (by omega)]; rfl
    rw [st28, e]
    simp [h1]
  | succ m ih =>
    intro j hj
    have h1 : ((j : Int) < (xs.length : Int)) := by omega
    have hb : (0 : Int) ≤ (j : Int) ∧ (j : Int) < (xs.length : Int) := by omega
    have hq : xs[Int.toNat (j : Int)]? = some (xs.getD j 0) := getI (by omega)
    have wn : IntKind.i64.wrap ((j : Int) + 1) = ((j + 1 : Nat) : Int) := wrapN (by omega) (by omega)
    rw [st28, runUp_step h (show j < xs.length by omega)]
    simp only [h1, hb, hq, wn, and_self, decide_true, Bool.and_true]
    cases hc : fcmp .gtr .f32 (xs.getD j 0) h with
    | true => exact ih (j + 1) (by omega)
    | false => rfl

theorem lk28 : LOK T2 a28 l28 Try.f28.ntmps (loopAt Try.f28 0) := by
  intro ins outs hA s k out h
  have hA' : ([0, 1, 6, 7], [0, 1, 6, 7]) = (ins, outs) := Option.some.inj ((show a28.lp (firstRegion (loopAt Try.f28 0)) = some ([0, 1, 6, 7], [0, 1, 6, 7]) by kernel_rfl).symm.trans hA)
  cases hA'
  have hk : firstRegion (loopAt Try.f28 0) = 5 := by kernel_rfl
  rw [hk] at h
  change lp28 s k = some out at h
  unfold lp28 at h
  split at h
  · rename_i xs q h0 i
    cases hg : (decide (0 ≤ i ∧ i ≤ (xs.length : Int)) && Nat.ble xs.length big) with
    | false => rw [hg] at h; cases h
    | true =>
      rw [hg] at h
      simp only [Bool.and_eq_true, decide_eq_true_eq] at hg
      obtain ⟨⟨hi0, hi1⟩, hx⟩ := hg
      refine ⟨xs.length - i.toNat + 1, ?_⟩
      obtain ⟨j, rfl⟩ : ∃ j : Nat, i = (j : Int) := ⟨i.toNat, by omega⟩
      exact (ind28 xs h0 q hx k (xs.length - j) j (by omega)).trans h
  · cases h
theorem st28_1 (xs : List Nat) (h : Nat) (r : Int) (i : Int) (m : Nat) (k : Ex → St → R) : iterK a28 [0, 6, 7, 8] [0, 6, 7, 8] (codeK T2 a28 l28 Try.f28.ntmps (loopAt Try.f28 1)) (m + 1) ⟨[(0, .fv (.vw (some 0) ⟨.f32, xs⟩)), (6, .fv (.el (.sc (.fl .f32 h)))), (7, .fv (.el (.sc (.int .i64 r)))), (8, .fv (.el (.sc (.int .i64 i))))], []⟩ k = (match (decide ((i : Int) ≥ 0) : Bool) with
  | true => (match (decide (0 ≤ (i : Int) ∧ (i : Int) < (xs.length : Int)) && true : Bool) with
    | true => (match (xs : List Nat)[Int.toNat i]? with
      | some x1 => (match (fcmp .gtr .f32 x1 h : Bool) with
        | true => iterK a28 [0, 6, 7, 8] [0, 6, 7, 8] (codeK T2 a28 l28 Try.f28.ntmps (loopAt Try.f28 1)) m ⟨[(0, .fv (.vw (some 0) ⟨.f32, xs⟩)), (6, .fv (.el (.sc (.fl .f32 h)))), (7, .fv (.el (.sc (.int .i64 r)))), (8, .fv (.el (.sc (.int .i64 (IntKind.i64.wrap (i - 1))))))], []⟩ k
        | false => k (.exit 2) ⟨[(0, .fv (.vw (some 0) ⟨.f32, xs⟩)), (6, .fv (.el (.sc (.fl .f32 h)))), (7, .fv (.el (.sc (.int .i64 r)))), (8, .fv (.el (.sc (.int .i64 i))))], []⟩)
      | none => none)
    | false => none)
  | false => k (.exit 2) ⟨[(0, .fv (.vw (some 0) ⟨.f32, xs⟩)), (6, .fv (.el (.sc (.fl .f32 h)))), (7, .fv (.el (.sc (.int .i64 r)))), (8, .fv (.el (.sc (.int .i64 i))))], []⟩) := by kernel_rfl
theorem ind28_1 (xs : List Nat) (h : Nat) (r : Int) (hx : Nat.ble xs.length big = true) (k : Ex → St → R) : ∀ (j : Nat), j ≤ xs.length → iterK a28 [0, 6, 7, 8] [0, 6, 7, 8] (codeK T2 a28 l28 Try.f28.ntmps (loopAt Try.f28 1)) (j + 1) ⟨[(0, .fv (.vw (some 0) ⟨.f32, xs⟩)), (6, .fv (.el (.sc (.fl .f32 h)))), (7, .fv (.el (.sc (.int .i64 r)))), (8, .fv (.el (.sc (.int .i64 ((j : Int) - 1)))))], []⟩ k =
    k (.exit 2) ⟨[(0, .fv (.vw (some 0) ⟨.f32, xs⟩)), (6, .fv (.el (.sc (.fl .f32 h)))), (7, .fv (.el (.sc (.int .i64 r)))), (8, .fv (.el (.sc (.int .i64 (runDown xs h ((j : Int) - 1))))))], []⟩ := by
  have hxl := big_le hx
  intro j
  induction j with
  | zero =>
    intro hj
    have h1 : ¬ (((0 : Nat) : Int) - 1 ≥ 0) := by omega
    rw [st28_1, runDown_zero]
    simp
  | succ j ih =>
    intro hj
    have e1 : ((j + 1 : Nat) : Int) - 1 = (j : Int) := by omega
    rw [e1, st28_1]
    have h1 : ((j : Int) ≥ 0) := by omega
    have hb : (0 : Int) ≤ (j : Int) ∧ (j : Int) < (xs.length : Int) := by omega
    have hq : xs[Int.toNat (j : Int)]? = some (xs.getD j 0) := getI (by omega)
    have wn : IntKind.i64.wrap ((j : Int) - 1) = (j : Int) - 1 := wrap64 (by omega) (by omega)
    rw [runDown_step h (show j < xs.length by omega)]
    simp only [h1, hb, hq, wn, and_self, decide_true, Bool.and_true]
    cases hc : fcmp .gtr .f32 (xs.getD j 0) h with
    | true => exact ih (by omega)
    | false => rfl

theorem lk28_1 : LOK T2 a28 l28 Try.f28.ntmps (loopAt Try.f28 1) := by
  intro ins outs hA s k out h
  have hA' : ([0, 6, 7, 8], [0, 6, 7, 8]) = (ins, outs) := Option.some.inj ((show a28.lp (firstRegion (loopAt Try.f28 1)) = some ([0, 6, 7, 8], [0, 6, 7, 8]) by kernel_rfl).symm.trans hA)
  cases hA'
  have hk : firstRegion (loopAt Try.f28 1) = 8 := by kernel_rfl
  rw [hk] at h
  change lp28_1 s k = some out at h
  unfold lp28_1 at h
  split at h
  · rename_i xs h0 r i
    cases hg : (decide (-1 ≤ i ∧ i < (xs.length : Int)) && Nat.ble xs.length big) with
    | false => rw [hg] at h; cases h
    | true =>
      rw [hg] at h
      simp only [Bool.and_eq_true, decide_eq_true_eq] at hg
      obtain ⟨⟨hi0, hi1⟩, hx⟩ := hg
      refine ⟨(i + 1).toNat + 1, ?_⟩
      obtain ⟨j, rfl⟩ : ∃ j : Nat, i = (j : Int) - 1 := ⟨(i + 1).toNat, by omega⟩
      have e1 : ((j : Int) - 1 + 1).toNat = j := by omega
      rw [e1]
      exact (ind28_1 xs h0 r hx k j (by omega)).trans h
  · cases h
theorem e28 (xs : List Nat) (i : Int) : runFn T2 a28 l28 Try.f28 [.vw none ⟨.f32, xs⟩, .el (.sc (.int .i64 i))] = (match (Nat.ble xs.length big : Bool) with
  | true => (match (!(listOk xs 1) : Bool) with
    | true => some ⟨[.el (.sc (.fl .f32 0)), .el (.sc (.bo false))], none⟩
    | false => (match (!(within i 0 (IntKind.i64.wrap (((xs.length : Int)) - 1))) : Bool) with
      | true => some ⟨[.el (.sc (.fl .f32 0)), .el (.sc (.bo false))], none⟩
      | false => (match (decide (0 ≤ (i : Int) ∧ (i : Int) < (xs.length : Int)) && true : Bool) with
        | true => (match (xs : List Nat)[Int.toNat i]? with
          | some x1 => (match (!(fcmp .gtr .f32 x1 0) : Bool) with
            | true => some ⟨[.el (.sc (.fl .f32 0)), .el (.sc (.bo false))], none⟩
            | false => (match (decide (0 ≤ (i : Int) ∧ (i : Int) < (xs.length : Int)) && true : Bool) with
              | true => (match (xs : List Nat)[Int.toNat i]? with
                | some x2 => (match ((decide (0 ≤ (IntKind.i64.wrap (i + 1)) ∧ (IntKind.i64.wrap (i + 1)) ≤ (xs.length : Int)) && Nat.ble xs.length big) : Bool) with
                  | true => (match ((decide (-1 ≤ (IntKind.i64.wrap (i - 1)) ∧ (IntKind.i64.wrap (i - 1)) < (xs.length : Int)) && Nat.ble xs.length big) : Bool) with
                    | true => (match (((runUp xs (fop .mul .f32 1056964608 x2) (IntKind.i64.wrap (i + 1))) : Int) == (xs.length : Int) : Bool) with
                      | true => some ⟨[.el (.sc (.fl .f32 0)), .el (.sc (.bo false))], none⟩
                      | false => (match (decide ((runDown xs ((fop .mul .f32 1056964608 x2)) (IntKind.i64.wrap (i - 1)) : Int) < 0) : Bool) with
                        | true => some ⟨[.el (.sc (.fl .f32 0)), .el (.sc (.bo false))], none⟩
                        | false => (match (decide (0 ≤ ((runUp xs (fop .mul .f32 1056964608 x2) (IntKind.i64.wrap (i + 1))) : Int) ∧ ((runUp xs (fop .mul .f32 1056964608 x2) (IntKind.i64.wrap (i + 1))) : Int) < (xs.length : Int)) && true : Bool) with
                          | true => (match (xs : List Nat)[Int.toNat ((runUp xs (fop .mul .f32 1056964608 x2) (IntKind.i64.wrap (i + 1))))]? with
                            | some x3 => (match (decide (0 ≤ (IntKind.i64.wrap (((runUp xs (fop .mul .f32 1056964608 x2) (IntKind.i64.wrap (i + 1)))) - 1) : Int) ∧ (IntKind.i64.wrap (((runUp xs (fop .mul .f32 1056964608 x2) (IntKind.i64.wrap (i + 1)))) - 1) : Int) < (xs.length : Int)) && true : Bool) with
                              | true => (match (xs : List Nat)[Int.toNat (IntKind.i64.wrap (((runUp xs (fop .mul .f32 1056964608 x2) (IntKind.i64.wrap (i + 1)))) - 1))]? with
                                | some x4 => (match (decide (0 ≤ ((runUp xs (fop .mul .f32 1056964608 x2) (IntKind.i64.wrap (i + 1))) : Int) ∧ ((runUp xs (fop .mul .f32 1056964608 x2) (IntKind.i64.wrap (i + 1))) : Int) < (xs.length : Int)) && true : Bool) with
                                  | true => (match (xs : List Nat)[Int.toNat ((runUp xs (fop .mul .f32 1056964608 x2) (IntKind.i64.wrap (i + 1))))]? with
                                    | some x5 => (match (decide (0 ≤ (runDown xs ((fop .mul .f32 1056964608 x2)) (IntKind.i64.wrap (i - 1)) : Int) ∧ (runDown xs ((fop .mul .f32 1056964608 x2)) (IntKind.i64.wrap (i - 1)) : Int) < (xs.length : Int)) && true : Bool) with
                                      | true => (match (xs : List Nat)[Int.toNat (runDown xs ((fop .mul .f32 1056964608 x2)) (IntKind.i64.wrap (i - 1)))]? with
                                        | some x6 => (match (decide (0 ≤ (IntKind.i64.wrap ((runDown xs ((fop .mul .f32 1056964608 x2)) (IntKind.i64.wrap (i - 1))) + 1) : Int) ∧ (IntKind.i64.wrap ((runDown xs ((fop .mul .f32 1056964608 x2)) (IntKind.i64.wrap (i - 1))) + 1) : Int) < (xs.length : Int)) && true : Bool) with
                                          | true => (match (xs : List Nat)[Int.toNat (IntKind.i64.wrap ((runDown xs ((fop .mul .f32 1056964608 x2)) (IntKind.i64.wrap (i - 1))) + 1))]? with
                                            | some x7 => (match (decide (0 ≤ (runDown xs ((fop .mul .f32 1056964608 x2)) (IntKind.i64.wrap (i - 1)) : Int) ∧ (runDown xs ((fop .mul .f32 1056964608 x2)) (IntKind.i64.wrap (i - 1)) : Int) < (xs.length : Int)) && true : Bool) with
                                              | true => (match (xs : List Nat)[Int.toNat (runDown xs ((fop .mul .f32 1056964608 x2)) (IntKind.i64.wrap (i - 1)))]? with
                                                | some x8 => some ⟨[.el (.sc (.fl .f32 (numOf (fop .sub .f32 (fop .sub .f32 (fint .f32 ((runUp xs (fop .mul .f32 1056964608 x2) (IntKind.i64.wrap (i + 1))))) (fop .quo .f32 (fop .sub .f32 (((fop .mul .f32 1056964608 x2))) x3) (fop .sub .f32 x4 x5))) (fop .add .f32 (fint .f32 (runDown xs ((fop .mul .f32 1056964608 x2)) (IntKind.i64.wrap (i - 1)))) (fop .quo .f32 (fop .sub .f32 (((fop .mul .f32 1056964608 x2))) x6) (fop .sub .f32 x7 x8))))))), .el (.sc (.bo (fin (fop .sub .f32 (fop .sub .f32 (fint .f32 ((runUp xs (fop .mul .f32 1056964608 x2) (IntKind.i64.wrap (i + 1))))) (fop .quo .f32 (fop .sub .f32 (((fop .mul .f32 1056964608 x2))) x3) (fop .sub .f32 x4 x5))) (fop .add .f32 (fint .f32 (runDown xs ((fop .mul .f32 1056964608 x2)) (IntKind.i64.wrap (i - 1)))) (fop .quo .f32 (fop .sub .f32 (((fop .mul .f32 1056964608 x2))) x6) (fop .sub .f32 x7 x8)))))))], none⟩
                                                | none => none)
                                              | false => none)
                                            | none => none)
                                          | false => none)
                                        | none => none)
                                      | false => none)
                                    | none => none)
                                  | false => none)
                                | none => none)
                              | false => none)
                            | none => none)
                          | false => none)))
                    | false => none)
                  | false => none)
                | none => none)
              | false => none))
          | none => none)
        | false => none)))
  | false => none) := by kernel_rfl
theorem s28 (xs : List Nat) (i : Int) (hg : (Nat.ble xs.length big) = true) : runFn T2 a28 l28 Try.f28 [.vw none ⟨.f32, xs⟩, .el (.sc (.int .i64 i))] = some ⟨[.el (.sc (.fl .f32 (orZero (halfOk xs i) (halfX xs i)))), .el (.sc (.bo (halfOk xs i)))], none⟩ := by
  rw [e28]
  unfold halfOk
  rw [hg]
  cases hl : listOk xs 1 with
  | false => simp [orZero]
  | true =>
    have h2 := hl
    unfold listOk at h2
    simp only [Bool.and_eq_true, decide_eq_true_eq] at h2
    have w1 : IntKind.i64.wrap ((xs.length : Int) - 1) = (xs.length : Int) - 1 := wrap64 (by omega) (by omega)
    rw [w1]
    cases hw : within i 0 ((xs.length : Int) - 1) with
    | false => simp [orZero]
    | true =>
      unfold within at hw
      simp only [Bool.and_eq_true, decide_eq_true_eq] at hw
      obtain ⟨j, rfl⟩ : ∃ j : Nat, i = (j : Int) := ⟨i.toNat, by omega⟩
      have hj : j < xs.length := by omega
      have hx : Nat.ble xs.length big = true := big_of (by omega)
      have ab : (0 : Int) ≤ ((j : Nat) : Int) ∧ ((j : Nat) : Int) < (xs.length : Int) := by omega
      have aq : xs[Int.toNat ((j : Nat) : Int)]? = some (xs.getD (j) 0) := getI (by omega)
      have ap : xs[j]? = some (xs.getD (j) 0) := getI2 (by omega)
      have w2 : IntKind.i64.wrap ((j : Int) + 1) = (j : Int) + 1 := wrap64 (by omega) (by omega)
      have w3 : IntKind.i64.wrap ((j : Int) - 1) = (j : Int) - 1 := wrap64 (by omega) (by omega)
      have e4 : Int.toNat (j : Int) = j := by omega
      simp only [ab, aq, w2, w3, and_self, decide_true, Bool.and_true, Bool.not_true]
      rw [e4]
      cases hp : fcmp .gtr .f32 (xs.getD j 0) 0 with
      | false => simp [orZero]
      | true =>
        have g1 : (0 : Int) ≤ (j : Int) + 1 ∧ (j : Int) + 1 ≤ (xs.length : Int) := by omega
        have g2 : (-1 : Int) ≤ (j : Int) - 1 ∧ (j : Int) - 1 < (xs.length : Int) := by omega
        have r1 := runUp_bound (xs := xs) (h := fop .mul .f32 1056964608 (xs.getD j 0)) (i := (j : Int) + 1) (by omega) (by omega)
        have r2 := runDown_bound (xs := xs) (h := fop .mul .f32 1056964608 (xs.getD j 0)) (i := (j : Int) - 1) (by omega) (by omega)
        simp only [hx, g1, g2, and_self, decide_true, Bool.and_true, Bool.not_true]
        unfold halfX
        rw [e4]
        dsimp only
        generalize hR : runUp xs (fop .mul .f32 1056964608 (xs.getD j 0)) ((j : Int) + 1) = R at r1 ⊢
        generalize hL : runDown xs (fop .mul .f32 1056964608 (xs.getD j 0)) ((j : Int) - 1) = L at r2 ⊢
        by_cases q1 : R = (xs.length : Int)
        · simp [q1, orZero]
        · by_cases q2 : L < 0
          · have e5 : (R == (xs.length : Int)) = false := beq_false_of_ne q1
            simp [e5, q2, orZero]
          · obtain ⟨r, rfl⟩ : ∃ r : Nat, R = (r : Int) := ⟨R.toNat, by omega⟩
            obtain ⟨l, rfl⟩ : ∃ l : Nat, L = (l : Int) := ⟨L.toNat, by omega⟩
            have w4 : IntKind.i64.wrap ((r : Int) - 1) = ((r - 1 : Nat) : Int) := wrapN (by omega) (by omega)
            have w5 : IntKind.i64.wrap ((l : Int) + 1) = ((l + 1 : Nat) : Int) := wrapN (by omega) (by omega)
            have bb : (0 : Int) ≤ ((r : Nat) : Int) ∧ ((r : Nat) : Int) < (xs.length : Int) := by omega
            have bq : xs[Int.toNat ((r : Nat) : Int)]? = some (xs.getD (r) 0) := getI (by omega)
            have bp : xs[r]? = some (xs.getD (r) 0) := getI2 (by omega)
            have cb : (0 : Int) ≤ ((r - 1 : Nat) : Int) ∧ ((r - 1 : Nat) : Int) < (xs.length : Int) := by omega
            have cq : xs[Int.toNat ((r - 1 : Nat) : Int)]? = some (xs.getD (r - 1) 0) := getI (by omega)
            have cp : xs[r - 1]? = some (xs.getD (r - 1) 0) := getI2 (by omega)
            have db : (0 : Int) ≤ ((l : Nat) : Int) ∧ ((l : Nat) : Int) < (xs.length : Int) := by omega
            have dq : xs[Int.toNat ((l : Nat) : Int)]? = some (xs.getD (l) 0) := getI (by omega)
            have dp : xs[l]? = some (xs.getD (l) 0) := getI2 (by omega)
            have eb : (0 : Int) ≤ ((l + 1 : Nat) : Int) ∧ ((l + 1 : Nat) : Int) < (xs.length : Int) := by omega
            have eq : xs[Int.toNat ((l + 1 : Nat) : Int)]? = some (xs.getD (l + 1) 0) := getI (by omega)
            have ep : xs[l + 1]? = some (xs.getD (l + 1) 0) := getI2 (by omega)
            have e5 : ((r : Int) == (xs.length : Int)) = false := beq_false_of_ne q1
            have e6 : decide ((l : Int) < 0) = false := decide_eq_false q2
            have e7 : Int.toNat (r : Int) = r := by omega
            have e8 : Int.toNat (l : Int) = l := by omega
            simp only [e5, e6, bb, bq, cb, cq, db, dq, eb, eq, w4, w5, and_self, decide_true, Bool.and_true, Bool.not_false, Bool.true_and]
            rw [e7, e8]
            unfold orZero numOf
            cases fin (fop .sub .f32 (fop .sub .f32 (fint .f32 (r : Int)) (fop .quo .f32 (fop .sub .f32 (fop .mul .f32 1056964608 (xs.getD j 0)) (xs.getD r 0)) (fop .sub .f32 (xs.getD (r - 1) 0) (xs.getD r 0)))) (fop .add .f32 (fint .f32 (l : Int)) (fop .quo .f32 (fop .sub .f32 (fop .mul .f32 1056964608 (xs.getD j 0)) (xs.getD l 0)) (fop .sub .f32 (xs.getD (l + 1) 0) (xs.getD l 0))))) <;> rfl
theorem c28 (xs : List Nat) (i : Int) (k : List RV → R) (out : Out) (h : (match (Nat.ble xs.length big : Bool) with
  | true => k [.el (.sc (.fl .f32 (orZero (halfOk xs i) (halfX xs i)))), .el (.sc (.bo (halfOk xs i)))]
  | false => none) = some out) : ∃ rs, Real Try.prog 28 ∧ COK Try.prog 28 [.vw none ⟨.f32, xs⟩, .el (.sc (.int .i64 i))] rs ∧ k rs = some out := by
  cases g0 : (Nat.ble xs.length big : Bool) with
  | true =>
    rw [g0] at h
    exact ⟨_, real Try.func28 (by kernel_rfl), fn_ok tok2 (A := a28) (L := l28) (r := none) Try.func28 (by kernel_rfl) (by kernel_rfl) (loops2 (by kernel_rfl) lk28 lk28_1) (by rw [s28 _ _ g0]), h⟩
  | false =>
    rw [g0] at h
    cases h

/-! spec.l06Bins -/
theorem e50 (xs : List Nat) (n : Int) : runFn T2 none0 noL Try.f50 [.vw none ⟨.f32, xs⟩, .el (.sc (.int .i64 n))] = (match (decide (((xs.length : Int) : Int) ≥ n) : Bool) with
  | true => (match (decide (((xs.length : Int) : Int) ≤ 64) : Bool) with
    | true => (match (Nat.ble xs.length big : Bool) with
      | true => some ⟨[.el (.sc (.bo (xs.all fin)))], none⟩
      | false => none)
    | false => some ⟨[.el (.sc (.bo false))], none⟩)
  | false => some ⟨[.el (.sc (.bo false))], none⟩) := by kernel_rfl
theorem s50 (xs : List Nat) (n : Int) : runFn T2 none0 noL Try.f50 [.vw none ⟨.f32, xs⟩, .el (.sc (.int .i64 n))] = some ⟨[.el (.sc (.bo (bins xs n)))], none⟩ := by
  rw [e50]
  unfold bins
  have e4 : ((xs.length : Int) ≤ 64) ↔ xs.length ≤ 64 := by omega
  by_cases h4 : xs.length ≤ 64
  · have h : Nat.ble xs.length big = true := Nat.ble_eq_true_of_le (by unfold big; omega)
    cases h3 : decide ((xs.length : Int) ≥ n) <;> simp [e4, h4, h]
  · cases h3 : decide ((xs.length : Int) ≥ n) <;> simp [e4, h4]
theorem c50 (xs : List Nat) (n : Int) (k : List RV → R) (out : Out) (h : k [.el (.sc (.bo (bins xs n)))] = some out) : ∃ rs, Real Try.prog 50 ∧ COK Try.prog 50 [.vw none ⟨.f32, xs⟩, .el (.sc (.int .i64 n))] rs ∧ k rs = some out := by
  exact ⟨_, real Try.func50 (by kernel_rfl), fn_ok tok2 (A := none0) (L := noL) (r := none) Try.func50 (by kernel_rfl) (by kernel_rfl) (loops0 (by kernel_rfl)) (by rw [s50]), h⟩

/-! spec.l06Lamps -/
theorem e67 (xs : List Nat) (ys : List Nat) (n : Int) : runFn T2 none0 noL Try.f67 [.vw none ⟨.f32, xs⟩, .vw none ⟨.f32, ys⟩, .el (.sc (.int .i64 n))] = (match (decide (((xs.length : Int) : Int) ≥ n) : Bool) with
  | true => (match (decide (((xs.length : Int) : Int) ≤ 16) : Bool) with
    | true => (match (((ys.length : Int) : Int) == (xs.length : Int) : Bool) with
      | true => (match (Nat.ble xs.length big : Bool) with
        | true => (match (xs.all fin : Bool) with
          | true => (match (Nat.ble ys.length big : Bool) with
            | true => some ⟨[.el (.sc (.bo (ys.all fin)))], none⟩
            | false => none)
          | false => some ⟨[.el (.sc (.bo false))], none⟩)
        | false => none)
      | false => some ⟨[.el (.sc (.bo false))], none⟩)
    | false => some ⟨[.el (.sc (.bo false))], none⟩)
  | false => some ⟨[.el (.sc (.bo false))], none⟩) := by kernel_rfl
theorem s67 (xs : List Nat) (ys : List Nat) (n : Int) : runFn T2 none0 noL Try.f67 [.vw none ⟨.f32, xs⟩, .vw none ⟨.f32, ys⟩, .el (.sc (.int .i64 n))] = some ⟨[.el (.sc (.bo (lamps xs ys n)))], none⟩ := by
  rw [e67]
  unfold lamps
  have e4 : ((xs.length : Int) ≤ 16) ↔ xs.length ≤ 16 := by omega
  have e5 : ((ys.length : Int) == (xs.length : Int)) = decide (ys.length = xs.length) := by
    rw [Bool.eq_iff_iff]; simp; omega
  rw [e5]
  by_cases h4 : xs.length ≤ 16
  · by_cases h5 : ys.length = xs.length
    · have h : Nat.ble xs.length big = true := Nat.ble_eq_true_of_le (by unfold big; omega)
      have h2 : Nat.ble ys.length big = true := Nat.ble_eq_true_of_le (by unfold big; omega)
      cases h3 : decide ((xs.length : Int) ≥ n) <;> cases h6 : xs.all fin <;> simp [e4, h4, h5, h, h2, h6]
    · cases h3 : decide ((xs.length : Int) ≥ n) <;> simp [e4, h4, h5]
  · cases h3 : decide ((xs.length : Int) ≥ n) <;> simp [e4, h4]
theorem c67 (xs : List Nat) (ys : List Nat) (n : Int) (k : List RV → R) (out : Out) (h : k [.el (.sc (.bo (lamps xs ys n)))] = some out) : ∃ rs, Real Try.prog 67 ∧ COK Try.prog 67 [.vw none ⟨.f32, xs⟩, .vw none ⟨.f32, ys⟩, .el (.sc (.int .i64 n))] rs ∧ k rs = some out := by
  exact ⟨_, real Try.func67 (by kernel_rfl), fn_ok tok2 (A := none0) (L := noL) (r := none) Try.func67 (by kernel_rfl) (by kernel_rfl) (loops0 (by kernel_rfl)) (by rw [s67]), h⟩

/-! spec.l06Curve -/
theorem e83 (xs : List Nat) : runFn T2 none0 noL Try.f83 [.vw none ⟨.f32, xs⟩] = (match (decide (((xs.length : Int) : Int) ≥ 1) : Bool) with
  | true => (match (decide (((xs.length : Int) : Int) ≤ 3) : Bool) with
    | true => (match (Nat.ble xs.length big : Bool) with
      | true => some ⟨[.el (.sc (.bo (xs.all fin)))], none⟩
      | false => none)
    | false => some ⟨[.el (.sc (.bo false))], none⟩)
  | false => some ⟨[.el (.sc (.bo false))], none⟩) := by kernel_rfl
theorem s83 (xs : List Nat) : runFn T2 none0 noL Try.f83 [.vw none ⟨.f32, xs⟩] = some ⟨[.el (.sc (.bo (xs.all fin && (decide (xs.length ≥ 1) && decide (xs.length ≤ 3)))))], none⟩ := by
  rw [e83]
  have e3 : ((xs.length : Int) ≥ 1) ↔ xs.length ≥ 1 := by omega
  have e4 : ((xs.length : Int) ≤ 3) ↔ xs.length ≤ 3 := by omega
  by_cases h4 : xs.length ≤ 3
  · have h : Nat.ble xs.length big = true := Nat.ble_eq_true_of_le (by unfold big; omega)
    by_cases h3 : xs.length ≥ 1 <;> simp [e3, e4, h3, h4, h]
  · by_cases h3 : xs.length ≥ 1 <;> simp [e3, e4, h3, h4]
theorem c83 (xs : List Nat) (k : List RV → R) (out : Out) (h : k [.el (.sc (.bo (xs.all fin && (decide (xs.length ≥ 1) && decide (xs.length ≤ 3)))))] = some out) : ∃ rs, Real Try.prog 83 ∧ COK Try.prog 83 [.vw none ⟨.f32, xs⟩] rs ∧ k rs = some out := by
  exact ⟨_, real Try.func83 (by kernel_rfl), fn_ok tok2 (A := none0) (L := noL) (r := none) Try.func83 (by kernel_rfl) (by kernel_rfl) (loops0 (by kernel_rfl)) (by rw [s83]), h⟩

/-! spec.l02List -/
theorem e86 (xs : List Nat) : runFn T2 none0 noL Try.f86 [.vw none ⟨.f32, xs⟩] = (match (Nat.ble xs.length big : Bool) with
  | true => (match (!(xs.all fin) : Bool) with
    | true => some ⟨[.nil, .el (.sc (.bo false))], none⟩
    | false => some ⟨[.arg 0, .el (.sc (.bo true))], none⟩)
  | false => none) := by kernel_rfl
theorem s86 (xs : List Nat) : runFn T2 none0 noL Try.f86 [.vw none ⟨.f32, xs⟩] = (match (Nat.ble xs.length big : Bool) with
  | true => (match (xs.all fin : Bool) with
    | true => some ⟨[.arg 0, .el (.sc (.bo true))], none⟩
    | false => some ⟨[.nil, .el (.sc (.bo false))], none⟩)
  | false => none) := by
  rw [e86]
  cases Nat.ble xs.length big <;> cases xs.all fin <;> simp
theorem c86 (xs : List Nat) (k : List RV → R) (out : Out) (h : (match (Nat.ble xs.length big : Bool) with
  | true => (match (xs.all fin : Bool) with
    | true => k [.arg 0, .el (.sc (.bo true))]
    | false => k [.nil, .el (.sc (.bo false))])
  | false => none) = some out) : ∃ rs, Real Try.prog 86 ∧ COK Try.prog 86 [.vw none ⟨.f32, xs⟩] rs ∧ k rs = some out := by
  cases g0 : (Nat.ble xs.length big : Bool) with
  | true =>
    rw [g0] at h
    cases g1 : (xs.all fin : Bool) with
    | true =>
      rw [g1] at h
      exact ⟨_, real Try.func86 (by kernel_rfl), fn_ok tok2 (A := none0) (L := noL) (r := none) Try.func86 (by kernel_rfl) (by kernel_rfl) (loops0 (by kernel_rfl)) (by rw [s86, g0, g1]), h⟩
    | false =>
      rw [g1] at h
      exact ⟨_, real Try.func86 (by kernel_rfl), fn_ok tok2 (A := none0) (L := noL) (r := none) Try.func86 (by kernel_rfl) (by kernel_rfl) (loops0 (by kernel_rfl)) (by rw [s86, g0, g1]), h⟩
  | false =>
    rw [g0] at h
    cases h

/-! slices.IndexFunc[[]float32,float32] -/
def a111 : Ann := ann [(2, [0, 1, 7, 8], [])] [4] 0
def lp111 : St → (Ex → St → R) → R := fun s k => match s with
  | ⟨[(0, .fv (.vw (some 0) ⟨.f32, xs⟩)), (1, .fv (.fn 95 [])), (7, .fv (.el (.sc (.int .i64 n)))), (8, .fv (.el (.sc (.int .i64 i))))], []⟩ => (match (decide (n = (xs.length : Int)) && (decide (i = 0) && Nat.ble xs.length big) : Bool) with
    | true => (match xs.findIdx? notFin with
      | some q => k .ret ⟨[(4, .fv (.el (.sc (.int .i64 ((q : Int))))))], []⟩
      | none => k (.exit 0) ⟨[], []⟩)
    | false => none)
  | _ => none
def l111 : Loops := fun key s k => bif Nat.beq key 2 then lp111 s k else none
theorem st111 (xs : List Nat) (n : Int) (i : Int) (m : Nat) (k : Ex → St → R) : iterK a111 [0, 1, 7, 8] [] (codeK T2 a111 l111 Try.f111.ntmps (loopAt Try.f111 0)) (m + 1) ⟨[(0, .fv (.vw (some 0) ⟨.f32, xs⟩)), (1, .fv (.fn 95 [])), (7, .fv (.el (.sc (.int .i64 n)))), (8, .fv (.el (.sc (.int .i64 i))))], []⟩ k = (match (decide ((i : Int) < n) : Bool) with
  | true => (match (decide (0 ≤ (i : Int) ∧ (i : Int) < (xs.length : Int)) && true : Bool) with
    | true => (match (xs : List Nat)[Int.toNat i]? with
      | some x1 => (match (notFin x1 : Bool) with
        | true => k .ret ⟨[(4, .fv (.el (.sc (.int .i64 i))))], []⟩
        | false => iterK a111 [0, 1, 7, 8] [] (codeK T2 a111 l111 Try.f111.ntmps (loopAt Try.f111 0)) m ⟨[(0, .fv (.vw (some 0) ⟨.f32, xs⟩)), (1, .fv (.fn 95 [])), (7, .fv (.el (.sc (.int .i64 n)))), (8, .fv (.el (.sc (.int .i64 (IntKind.i64.wrap (i + 1))))))], []⟩ k)
      | none => none)
    | false => none)
  | false => k (.exit 0) ⟨[], []⟩) := by kernel_rfl
theorem ind111 (xs : List Nat) (hx : Nat.ble xs.length big = true) (k : Ex → St → R) : ∀ (m j : Nat), j + m = xs.length → iterK a111 [0, 1, 7, 8] [] (codeK T2 a111 l111 Try.f111.ntmps (loopAt Try.f111 0)) (m + 1) ⟨[(0, .fv (.vw (some 0) ⟨.f32, xs⟩)), (1, .fv (.fn 95 [])), (7, .fv (.el (.sc (.int .i64 (xs.length : Int))))), (8, .fv (.el (.sc (.int .i64 (j : Int)))))], []⟩ k =
    (match (xs.drop j).findIdx? notFin with
    | some q => k .ret ⟨[(4, .fv (.el (.sc (.int .i64 ((j + q : Nat) : Int)))))], []⟩
    | none => k (.exit 0) ⟨[], []⟩) := by
  intro m
  induction m with
  | zero =>
    intro j hj
    have h1 : ¬ ((j : Int) < (xs.length : Int)) := by omega
    rw [st111]
    have h2 : xs.drop j = [] := List.drop_of_length_le (by omega)
    simp [h1, h2]
  | succ m ih =>
    intro j hj
    have hlt : j < xs.length := by omega
    have h1 : ((j : Int) < (xs.length : Int)) := by omega
    have h2 : (0 : Int) ≤ (j : Int) := by omega
    rw [st111, wrap_succ hlt hx]
    have h3 : xs[Int.toNat (j : Int)]? = some xs[j] := by simp [hlt]
    rw [List.drop_eq_getElem_cons hlt, List.findIdx?_cons]
    simp only [h1, h2, h3, and_self, decide_true, Bool.and_true]
    cases hp : notFin xs[j] with
    | true => simp
    | false =>
      rw [ih (j + 1) (by omega)]
      cases (xs.drop (j + 1)).findIdx? notFin with
      | none => rfl
      | some q => simp only [Bool.false_eq_true, if_false, Option.map_some]; rw [show j + 1 + q = j + (q + 1) by omega]
theorem lk111 : LOK T2 a111 l111 Try.f111.ntmps (loopAt Try.f111 0) := by
  intro ins outs hA s k out h
  have hA' : ([0, 1, 7, 8], []) = (ins, outs) := Option.some.inj ((show a111.lp (firstRegion (loopAt Try.f111 0)) = some ([0, 1, 7, 8], []) by kernel_rfl).symm.trans hA)
  cases hA'
  have hk : firstRegion (loopAt Try.f111 0) = 2 := by kernel_rfl
  rw [hk] at h
  change lp111 s k = some out at h
  unfold lp111 at h
  split at h
  · rename_i xs n i
    cases hg : (decide (n = (xs.length : Int)) && (decide (i = 0) && Nat.ble xs.length big)) with
    | false => rw [hg] at h; cases h
    | true =>
      rw [hg] at h
      simp only [Bool.and_eq_true, decide_eq_true_eq] at hg
      obtain ⟨rfl, rfl, hx⟩ := hg
      refine ⟨xs.length + 1, ?_⟩
      have := ind111 xs hx k xs.length 0 (by omega)
      simp only [List.drop_zero, Nat.zero_add] at this
      exact this.trans h
  · cases h
theorem e111 (xs : List Nat) : runFn T2 a111 l111 Try.f111 [.vw none ⟨.f32, xs⟩, .fn 95 []] = (match (decide ((xs.length : Int) = (xs.length : Int)) && (decide (0 = 0) && Nat.ble xs.length big) : Bool) with
  | true => (match xs.findIdx? notFin with
    | some q => some ⟨[.el (.sc (.int .i64 ((q : Int))))], none⟩
    | none => some ⟨[.el (.sc (.int .i64 ((-1))))], none⟩)
  | false => none) := by kernel_rfl
theorem s111 (xs : List Nat) : runFn T2 a111 l111 Try.f111 [.vw none ⟨.f32, xs⟩, .fn 95 []] = (match (Nat.ble xs.length big : Bool) with
  | true => some ⟨[.el (.sc (.int .i64 (firstAt notFin xs)))], none⟩
  | false => none) := by
  rw [e111]
  unfold firstAt
  cases h : Nat.ble xs.length big with
  | false => simp [h]
  | true =>
    cases h2 : xs.findIdx? notFin with
    | some q => simp [h, h2]
    | none => simp [h, h2]
theorem c111 (xs : List Nat) (k : List RV → R) (out : Out) (h : (match (Nat.ble xs.length big : Bool) with
  | true => k [.el (.sc (.int .i64 (firstAt notFin xs)))]
  | false => none) = some out) : ∃ rs, Real Try.prog 111 ∧ COK Try.prog 111 [.vw none ⟨.f32, xs⟩, .fn 95 []] rs ∧ k rs = some out := by
  cases g0 : (Nat.ble xs.length big : Bool) with
  | true =>
    rw [g0] at h
    exact ⟨_, real Try.func111 (by kernel_rfl), fn_ok tok2 (A := a111) (L := l111) (r := none) Try.func111 (by kernel_rfl) (by kernel_rfl) (loops1 (by kernel_rfl) lk111) (by rw [s111, g0]), h⟩
  | false =>
    rw [g0] at h
    cases h

def S3 : SFn := fun f args k => match f, args with
  | 21, [.vw none ⟨.f32, xs⟩] => (match (Nat.ble xs.length big : Bool) with
    | true => k [.fresh 37 ⟨.f32, orNil (bendOk xs) (bends xs)⟩, .el (.sc (.bo (bendOk xs)))]
    | false => none)
  | 28, [.vw none ⟨.f32, xs⟩, .el (.sc (.int .i64 i))] => (match (Nat.ble xs.length big : Bool) with
    | true => k [.el (.sc (.fl .f32 (orZero (halfOk xs i) (halfX xs i)))), .el (.sc (.bo (halfOk xs i)))]
    | false => none)
  | 50, [.vw none ⟨.f32, xs⟩, .el (.sc (.int .i64 n))] => k [.el (.sc (.bo (bins xs n)))]
  | 67, [.vw none ⟨.f32, xs⟩, .vw none ⟨.f32, ys⟩, .el (.sc (.int .i64 n))] => k [.el (.sc (.bo (lamps xs ys n)))]
  | 83, [.vw none ⟨.f32, xs⟩] => k [.el (.sc (.bo (xs.all fin && (decide (xs.length ≥ 1) && decide (xs.length ≤ 3)))))]
  | 86, [.vw none ⟨.f32, xs⟩] => (match (Nat.ble xs.length big : Bool) with
    | true => (match (xs.all fin : Bool) with
      | true => k [.arg 0, .el (.sc (.bo true))]
      | false => k [.nil, .el (.sc (.bo false))])
    | false => none)
  | 111, [.vw none ⟨.f32, xs⟩, .fn 95 []] => (match (Nat.ble xs.length big : Bool) with
    | true => k [.el (.sc (.int .i64 (firstAt notFin xs)))]
    | false => none)
  | _, _ => S2 f args k
abbrev M3 : MFn := M2
def T3 : TT := tab.T S3 muts M3
theorem tok3 : TOK Try.prog T3 := by
  refine (tab_ok tabok).tok (fun f args k out h => ?_) (fun f vec args k out h => ?_)
  · change S3 f args k = some out at h
    unfold S3 at h
    split at h
    · exact c21 _ k out h
    · exact c28 _ _ k out h
    · exact c50 _ _ k out h
    · exact c67 _ _ _ k out h
    · exact c83 _ k out h
    · exact c86 _ k out h
    · exact c111 _ k out h
    · exact tok2.S f args k out h
  · exact tok2.M f vec args k out h

end Go.Sm.Ytdnfgoolapikmaa
