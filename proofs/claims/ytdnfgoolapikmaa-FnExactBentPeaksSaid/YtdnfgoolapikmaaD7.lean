/- What the functions hand back: level 6. -/
import Derived.Test.YtdnfgoolapikmaaD6
namespace Go.Sm.Ytdnfgoolapikmaa
open Go Go.Sm Go.RowKit Go.Proofs

/-! impl.PadScan -/
theorem e17 (xs : List Nat) (n : Int) : runFn T6 none0 noL Try.f17 [.vw none ⟨.f32, xs⟩, .el (.sc (.int .i64 n))] = (match (!(bins xs 2) : Bool) with
  | true => some ⟨[.nil, .el (.sc (.bo false))], none⟩
  | false => (match (!(within n ((xs.length : Int)) 64) : Bool) with
    | true => some ⟨[.nil, .el (.sc (.bo false))], none⟩
    | false => (match (decide (0 ≤ (n : Int) ∧ (n : Int) = n ∧ (n : Int) ≤ 1099511627776) : Bool) with
      | true => (match (decide ((xs : List Nat).length ≤ (List.replicate (Int.toNat n) ((0 : Nat)) : List Nat).length) : Bool) with
        | true => some ⟨[.fresh 37 ⟨.f32, (xs : List Nat) ++ (List.replicate (Int.toNat n) ((0 : Nat)) : List Nat).drop (xs : List Nat).length⟩, .el (.sc (.bo true))], none⟩
        | false => none)
      | false => none))) := by kernel_rfl
theorem s17 (xs : List Nat) (n : Int) : runFn T6 none0 noL Try.f17 [.vw none ⟨.f32, xs⟩, .el (.sc (.int .i64 n))] = (match (padOk xs n : Bool) with
  | true => some ⟨[.fresh 37 ⟨.f32, padX xs n⟩, .el (.sc (.bo true))], none⟩
  | false => some ⟨[.nil, .el (.sc (.bo false))], none⟩) := by
  rw [e17]
  unfold padOk
  cases h : bins xs 2 with
  | false => simp
  | true =>
    cases h2 : within n (xs.length : Int) 64 with
    | false => simp
    | true =>
      unfold within at h2
      simp only [Bool.and_eq_true, decide_eq_true_eq] at h2
      have hx : xs.length ≤ 1099511627776 := by omega
      have hb : Nat.ble xs.length big = true := big_of hx
      have hn : n ≤ 1099511627776 := by omega
      have hn0 : 0 ≤ n := by omega
      have hl : xs.length ≤ n.toNat := by omega
      simp [hn, hn0, hl, padX]
theorem c17 (xs : List Nat) (n : Int) (k : List RV → R) (out : Out) (h : k [.fresh 37 ⟨.f32, orNil (padOk xs n) (padX xs n)⟩, .el (.sc (.bo (padOk xs n)))] = some out) : ∃ rs, Real Try.prog 17 ∧ COK Try.prog 17 [.vw none ⟨.f32, xs⟩, .el (.sc (.int .i64 n))] rs ∧ k rs = some out := by
  cases g0 : (padOk xs n : Bool) with
  | true =>
    rw [g0] at h
    exact ⟨_, real Try.func17 (by kernel_rfl), fn_ok tok6 (A := none0) (L := noL) (r := none) Try.func17 (by kernel_rfl) (by kernel_rfl) (loops0 (by kernel_rfl)) (by rw [s17, g0]; rfl), h⟩
  | false =>
    rw [g0] at h
    exact ⟨_, real Try.func17 (by kernel_rfl), COK.nil (fn_ok tok6 (A := none0) (L := noL) (r := none) Try.func17 (by kernel_rfl) (by kernel_rfl) (loops0 (by kernel_rfl)) (by rw [s17, g0])), h⟩

/-! impl.BendOf -/
def a22 : Ann := ann [(5, [0, 4, 5], [4])] [2, 3] 0
def lp22 : St → (Ex → St → R) → R := fun s k => match s with
  | ⟨[(0, .fv (.vw (some 0) ⟨.f32, xs⟩)), (4, .fv (.own 0)), (5, .fv (.el (.sc (.int .i64 i))))], [some ⟨37, ⟨.f32, zs⟩⟩]⟩ => (match ((decide (i = 1) && (Nat.ble xs.length big && (Nat.ble 2 xs.length && Nat.ble ((zs : List Nat).length + (xs.length - 1)) big))) : Bool) with
    | true => k (.exit 0) ⟨[(4, .fv (.own 0))], [some ⟨37, ⟨.f32, rep (fun j zs => zs ++ [bendAt xs j]) (xs.length - 1 - 1) 1 ((zs : List Nat) : (List Nat))⟩⟩]⟩
    | false => none)
  | _ => none
def l22 : Loops := fun key s k => bif Nat.beq key 5 then lp22 s k else none
theorem st22 (xs : List Nat) (i : Int) (zs : List Nat) (m : Nat) (k : Ex → St → R) : iterK a22 [0, 4, 5] [4] (codeK T6 a22 l22 Try.f22.ntmps (loopAt Try.f22 0)) (m + 1) ⟨[(0, .fv (.vw (some 0) ⟨.f32, xs⟩)), (4, .fv (.own 0)), (5, .fv (.el (.sc (.int .i64 i))))], [some ⟨37, ⟨.f32, zs⟩⟩]⟩ k = (match (decide ((IntKind.i64.wrap (i + 1) : Int) < (xs.length : Int)) : Bool) with
  | true => (match (decide (0 ≤ (i : Int) ∧ (i : Int) < (xs.length : Int)) && true : Bool) with
    | true => (match (xs : List Nat)[Int.toNat i]? with
      | some x1 => (match (decide (0 ≤ (IntKind.i64.wrap (i - 1) : Int) ∧ (IntKind.i64.wrap (i - 1) : Int) < (xs.length : Int)) && true : Bool) with
        | true => (match (xs : List Nat)[Int.toNat (IntKind.i64.wrap (i - 1))]? with
          | some x2 => (match (decide (0 ≤ (IntKind.i64.wrap (i + 1) : Int) ∧ (IntKind.i64.wrap (i + 1) : Int) < (xs.length : Int)) && true : Bool) with
            | true => (match (xs : List Nat)[Int.toNat (IntKind.i64.wrap (i + 1))]? with
              | some x3 => (match (Nat.beq 37 37 && decide ((zs : List Nat).length + ([fop .sub .f32 (fop .sub .f32 (fop .mul .f32 1073741824 x1) x2) x3] : List Nat).length ≤ 1099511627776) : Bool) with
                | true => iterK a22 [0, 4, 5] [4] (codeK T6 a22 l22 Try.f22.ntmps (loopAt Try.f22 0)) m ⟨[(0, .fv (.vw (some 0) ⟨.f32, xs⟩)), (4, .fv (.own 0)), (5, .fv (.el (.sc (.int .i64 (IntKind.i64.wrap (i + 1))))))], [some ⟨37, ⟨.f32, (zs : List Nat) ++ ([fop .sub .f32 (fop .sub .f32 (fop .mul .f32 1073741824 x1) x2) x3])⟩⟩]⟩ k
                | false => none)
              | none => none)
            | false => none)
          | none => none)
        | false => none)
      | none => none)
    | false => none)
  | false => k (.exit 0) ⟨[(4, .fv (.own 0))], [some ⟨37, ⟨.f32, zs⟩⟩]⟩) := by kernel_rfl
theorem ind22 (xs : List Nat) (hx : (Nat.ble xs.length big) = true) (h2 : (Nat.ble 2 xs.length) = true) (k : Ex → St → R) : ∀ (m j : Nat) (zs : List Nat), zs.length + m ≤ 1099511627776 → 1 ≤ j → j + m = xs.length - 1 → iterK a22 [0, 4, 5] [4] (codeK T6 a22 l22 Try.f22.ntmps (loopAt Try.f22 0)) (m + 1) ⟨[(0, .fv (.vw (some 0) ⟨.f32, xs⟩)), (4, .fv (.own 0)), (5, .fv (.el (.sc (.int .i64 (j : Int)))))], [some ⟨37, ⟨.f32, zs⟩⟩]⟩ k =
    k (.exit 0) ⟨[(4, .fv (.own 0))], [some ⟨37, ⟨.f32, rep (fun j zs => zs ++ [bendAt xs j]) m j (zs : (List Nat))⟩⟩]⟩ := by
  intro m
  induction m with
  | zero =>
    intro j zs hs0 hlo hj
    have hx_ := big_le hx
    have h2_ := Nat.le_of_ble_eq_true h2
    have w2 : IntKind.i64.wrap ((j : Int) + 1) = ((j + 1 : Nat) : Int) := wrapN (by omega) (by omega)
    have h1 : ¬ (((j + 1 : Nat) : Int) < (xs.length : Int)) := by omega
    rw [st22]
    simp only [h1, w2, rep, decide_false, List.length_singleton] <;> rfl
  | succ m ih =>
    intro j zs hs0 hlo hj
    have hx_ := big_le hx
    have h2_ := Nat.le_of_ble_eq_true h2
    have w2 : IntKind.i64.wrap ((j : Int) + 1) = ((j + 1 : Nat) : Int) := wrapN (by omega) (by omega)
    have h1 : ((j + 1 : Nat) : Int) < (xs.length : Int) := by omega
    have hbq : Nat.beq 37 37 = true := rfl
    have hzl : zs.length + 1 ≤ 1099511627776 := by omega
    have ab : (0 : Int) ≤ ((j : Nat) : Int) ∧ ((j : Nat) : Int) < (xs.length : Int) := by omega
    have aq : xs[Int.toNat ((j : Nat) : Int)]? = some (xs.getD (j) 0) := getI (by omega)
    have ap : xs[j]? = some (xs.getD (j) 0) := getI2 (by omega)
    have w1 : IntKind.i64.wrap ((j : Int) - 1) = ((j - 1 : Nat) : Int) := wrapN (by omega) (by omega)
    have bb : (0 : Int) ≤ ((j - 1 : Nat) : Int) ∧ ((j - 1 : Nat) : Int) < (xs.length : Int) := by omega
    have bq : xs[Int.toNat ((j - 1 : Nat) : Int)]? = some (xs.getD (j - 1) 0) := getI (by omega)
    have bp : xs[j - 1]? = some (xs.getD (j - 1) 0) := getI2 (by omega)
    have cb : (0 : Int) ≤ ((j + 1 : Nat) : Int) ∧ ((j + 1 : Nat) : Int) < (xs.length : Int) := by omega
    have cq : xs[Int.toNat ((j + 1 : Nat) : Int)]? = some (xs.getD (j + 1) 0) := getI (by omega)
    have cp : xs[j + 1]? = some (xs.getD (j + 1) 0) := getI2 (by omega)
    have wn : IntKind.i64.wrap ((j : Int) + 1) = ((j + 1 : Nat) : Int) := wrapN (by omega) (by omega)
    rw [st22]
    simp only [h1, wn, w2, hbq, hzl, ab, aq, ap, w1, bb, bq, bp, cb, cq, cp, and_self, decide_true, Bool.and_true, Int.le_refl, List.length_singleton]
    exact ih (j + 1) _ (by simp; omega) (by omega) (by omega)

theorem lk22 : LOK T6 a22 l22 Try.f22.ntmps (loopAt Try.f22 0) := by
  intro ins outs hA s k out h
  have hA' : ([0, 4, 5], [4]) = (ins, outs) := Option.some.inj ((show a22.lp (firstRegion (loopAt Try.f22 0)) = some ([0, 4, 5], [4]) by kernel_rfl).symm.trans hA)
  cases hA'
  have hk : firstRegion (loopAt Try.f22 0) = 5 := by kernel_rfl
  rw [hk] at h
  change lp22 s k = some out at h
  unfold lp22 at h
  split at h
  · rename_i xs i zs
    cases hg : (decide (i = 1) && (Nat.ble xs.length big && (Nat.ble 2 xs.length && Nat.ble (zs.length + (xs.length - 1)) big))) with
    | false => rw [hg] at h; cases h
    | true =>
      rw [hg] at h
      simp only [Bool.and_eq_true, decide_eq_true_eq] at hg
      obtain ⟨rfl, hx, h2, gs0⟩ := hg
      refine ⟨(xs.length - 1) - 1 + 1, ?_⟩
      have hx_ := big_le hx
      have h2_ := Nat.le_of_ble_eq_true h2
      have gs0_ := big_le gs0
      exact (ind22 xs hx h2 k ((xs.length - 1) - 1) 1 zs (by omega) (by omega) (by omega)).trans h
  · cases h
theorem e22 (xs : List Nat) : runFn T6 a22 l22 Try.f22 [.vw none ⟨.f32, xs⟩] = (match (!(listOk xs 3) : Bool) with
  | true => some ⟨[.nil, .el (.sc (.bo false))], none⟩
  | false => (match ((decide (1 = 1) && (Nat.ble xs.length big && (Nat.ble 2 xs.length && Nat.ble (([] : List Nat).length + (xs.length - 1)) big))) : Bool) with
    | true => (match (Nat.ble (rep (fun j zs => zs ++ [bendAt xs j]) (xs.length - 1 - 1) 1 (([] : List Nat) : (List Nat))).length big : Bool) with
      | true => (match ((rep (fun j zs => zs ++ [bendAt xs j]) (xs.length - 1 - 1) 1 (([] : List Nat) : (List Nat))).all fin : Bool) with
        | true => some ⟨[.fresh 37 ⟨.f32, rep (fun j zs => zs ++ [bendAt xs j]) (xs.length - 1 - 1) 1 (([] : List Nat) : (List Nat))⟩, .el (.sc (.bo true))], none⟩
        | false => some ⟨[.nil, .el (.sc (.bo false))], none⟩)
      | false => none)
    | false => none)) := by kernel_rfl
theorem s22 (xs : List Nat) : runFn T6 a22 l22 Try.f22 [.vw none ⟨.f32, xs⟩] = (match (bendOk xs : Bool) with
  | true => some ⟨[.fresh 37 ⟨.f32, bends xs⟩, .el (.sc (.bo true))], none⟩
  | false => some ⟨[.nil, .el (.sc (.bo false))], none⟩) := by
  rw [e22]
  unfold bendOk listOk
  by_cases h4 : xs.length ≤ 128
  · by_cases h3 : xs.length ≥ 3
    · have i3 : (xs.length : Int) ≥ 3 := by omega
      have i1 : (xs.length : Int) ≥ 1 := by omega
      have i2 : ¬ (xs.length : Int) < 3 := by omega
      have hb : Nat.ble xs.length big = true := Nat.ble_eq_true_of_le (by unfold big; omega)
      have hb2 : Nat.ble 2 xs.length = true := Nat.ble_eq_true_of_le (by omega)
      have hb3 : Nat.ble (xs.length - 1) big = true := big_of (by omega)
      have hb4 : Nat.ble (bends xs).length big = true := big_of (by rw [bends_len]; omega)
      have e : rep (fun j zs => zs ++ [bendAt xs j]) (xs.length - 1 - 1) 1 [] = bends xs := rep_map (bendAt xs) _ 1 []
      cases hf : xs.all fin with
      | false => simp [h4, i1, i2, i3, hb, hf]
      | true => cases hd : (bends xs).all fin <;> simp [h4, i1, i2, i3, hb, hb2, hb3, hb4, e, hd, hf]
    · have i3 : ¬ (xs.length : Int) ≥ 3 := by omega
      have i2 : (xs.length : Int) < 3 := by omega
      simp [i3]
  · simp [h4]
theorem c22 (xs : List Nat) (k : List RV → R) (out : Out) (h : k [.fresh 37 ⟨.f32, orNil (bendOk xs) (bends xs)⟩, .el (.sc (.bo (bendOk xs)))] = some out) : ∃ rs, Real Try.prog 22 ∧ COK Try.prog 22 [.vw none ⟨.f32, xs⟩] rs ∧ k rs = some out := by
  cases g0 : (bendOk xs : Bool) with
  | true =>
    rw [g0] at h
    exact ⟨_, real Try.func22 (by kernel_rfl), fn_ok tok6 (A := a22) (L := l22) (r := none) Try.func22 (by kernel_rfl) (by kernel_rfl) (loops1 (by kernel_rfl) lk22) (by rw [s22, g0]; rfl), h⟩
  | false =>
    rw [g0] at h
    exact ⟨_, real Try.func22 (by kernel_rfl), COK.nil (fn_ok tok6 (A := a22) (L := l22) (r := none) Try.func22 (by kernel_rfl) (by kernel_rfl) (loops1 (by kernel_rfl) lk22) (by rw [s22, g0])), h⟩

/-! impl.HalfWidth -/
def a29 : Ann := ann [(5, [0, 6, 7, 8], [0, 6, 7, 8]), (7, [0, 6, 7, 8], [0, 6, 7, 8])] [4, 5] 0
def lp29 : St → (Ex → St → R) → R := fun s k => match s with
  | ⟨[(0, .fv (.vw (some 0) ⟨.f32, xs⟩)), (6, .fv (.el (.sc (.fl .f32 h)))), (7, .fv (.el (.sc (.int .i64 i)))), (8, .fv (.el (.sc (.int .i64 q))))], []⟩ => (match ((decide (0 ≤ i ∧ i ≤ (xs.length : Int)) && Nat.ble xs.length big) : Bool) with
    | true => k (.exit 0) ⟨[(0, .fv (.vw (some 0) ⟨.f32, xs⟩)), (6, .fv (.el (.sc (.fl .f32 h)))), (7, .fv (.el (.sc (.int .i64 (runUp xs h i))))), (8, .fv (.el (.sc (.int .i64 q))))], []⟩
    | false => none)
  | _ => none
def lp29_1 : St → (Ex → St → R) → R := fun s k => match s with
  | ⟨[(0, .fv (.vw (some 0) ⟨.f32, xs⟩)), (6, .fv (.el (.sc (.fl .f32 h)))), (7, .fv (.el (.sc (.int .i64 r)))), (8, .fv (.el (.sc (.int .i64 i))))], []⟩ => (match ((decide (-1 ≤ i ∧ i < (xs.length : Int)) && Nat.ble xs.length big) : Bool) with
    | true => k (.exit 2) ⟨[(0, .fv (.vw (some 0) ⟨.f32, xs⟩)), (6, .fv (.el (.sc (.fl .f32 h)))), (7, .fv (.el (.sc (.int .i64 r)))), (8, .fv (.el (.sc (.int .i64 (runDown xs h i)))))], []⟩
    | false => none)
  | _ => none
def l29 : Loops := fun key s k => bif Nat.beq key 5 then lp29 s k else bif Nat.beq key 7 then lp29_1 s k else none
theorem st29 (xs : List Nat) (h : Nat) (i : Int) (q : Int) (m : Nat) (k : Ex → St → R) : iterK a29 [0, 6, 7, 8] [0, 6, 7, 8] (codeK T6 a29 l29 Try.f29.ntmps (loopAt Try.f29 0)) (m + 1) ⟨[(0, .fv (.vw (some 0) ⟨.f32, xs⟩)), (6, .fv (.el (.sc (.fl .f32 h)))), (7, .fv (.el (.sc (.int .i64 i)))), (8, .fv (.el (.sc (.int .i64 q))))], []⟩ k = (match (decide ((i : Int) < (xs.length : Int)) : Bool) with
  | true => (match (decide (0 ≤ (i : Int) ∧ (i : Int) < (xs.length : Int)) && true : Bool) with
    | true => (match (xs : List Nat)[Int.toNat i]? with
      | some x1 => (match (fcmp .gtr .f32 x1 h : Bool) with
        | true => iterK a29 [0, 6, 7, 8] [0, 6, 7, 8] (codeK T6 a29 l29 Try.f29.ntmps (loopAt Try.f29 0)) m ⟨[(0, .fv (.vw (some 0) ⟨.f32, xs⟩)), (6, .fv (.el (.sc (.fl .f32 h)))), (7, .fv (.el (.sc (.int .i64 (IntKind.i64.wrap (i + 1)))))), (8, .fv (.el (.sc (.int .i64 q))))], []⟩ k
        | false => k (.exit 0) ⟨[(0, .fv (.vw (some 0) ⟨.f32, xs⟩)), (6, .fv (.el (.sc (.fl .f32 h)))), (7, .fv (.el (.sc (.int .i64 i)))), (8, .fv (.el (.sc (.int .i64 q))))], []⟩)
      | none => none)
    | false => none)
  | false => k (.exit 0) ⟨[(0, .fv (.vw (some 0) ⟨.f32, xs⟩)), (6, .fv (.el (.sc (.fl .f32 h)))), (7, .fv (.el (.sc (.int .i64 i)))), (8, .fv (.el (.sc (.int .i64 q))))], []⟩) := by kernel_rfl
theorem ind29 (xs : List Nat) (h : Nat) (q : Int) (hx : Nat.ble xs.length big = true) (k : Ex → St → R) : ∀ (m j : Nat), j + m = xs.length → iterK a29 [0, 6, 7, 8] [0, 6, 7, 8] (codeK T6 a29 l29 Try.f29.ntmps (loopAt Try.f29 0)) (m + 1) ⟨[(0, .fv (.vw (some 0) ⟨.f32, xs⟩)), (6, .fv (.el (.sc (.fl .f32 h)))), (7, .fv (.el (.sc (.int .i64 (j : Int))))), (8, .fv (.el (.sc (.int .i64 q))))], []⟩ k =
    k (.exit 0) ⟨[(0, .fv (.vw (some 0) ⟨.f32, xs⟩)), (6, .fv (.el (.sc (.fl .f32 h)))), (7, .fv (.el (.sc (.int .i64 (runUp xs h (j : Int)))))), (8, .fv (.el (.sc (.int .i64 q))))], []⟩ := by
  have hxl := big_le hx
  intro m
  induction m with
  | zero =>
    intro j hj
    have h1 : ¬ ((j : Int) < (xs.length : Int)) := by omega
    have e : runUp xs h (j : Int) = (j : Int) := by unfold runUp; rw [show ((j : Int)).toNat = j by omega, List.drop_of_length_le (by omega)]; rfl
    rw [st29, e]
    simp [h1]
  | succ m ih =>
    intro j hj
    have h1 : ((j : Int) < (xs.length : Int)) := by omega
    have hb : (0 : Int) ≤ (j : Int) ∧ (j : Int) < (xs.length : Int) := by omega
    have hq : xs[Int.toNat (j : Int)]? = some (xs.getD j 0) := getI (by omega)
    have wn : IntKind.i64.wrap ((j : Int) + 1) = ((j + 1 : Nat) : Int) := wrapN (by omega) (by omega)
    rw [st29, runUp_step h (show j < xs.length by omega)]
    simp only [h1, hb, hq, wn, and_self, decide_true, Bool.and_true]
    cases hc : fcmp .gtr .f32 (xs.getD j 0) h with
    | true => exact ih (j + 1) (by omega)
    | false => rfl

theorem lk29 : LOK T6 a29 l29 Try.f29.ntmps (loopAt Try.f29 0) := by
  intro ins outs hA s k out h
  have hA' : ([0, 6, 7, 8], [0, 6, 7, 8]) = (ins, outs) := Option.some.inj ((show a29.lp (firstRegion (loopAt Try.f29 0)) = some ([0, 6, 7, 8], [0, 6, 7, 8]) by kernel_rfl).symm.trans hA)
  cases hA'
  have hk : firstRegion (loopAt Try.f29 0) = 5 := by kernel_rfl
  rw [hk] at h
  change lp29 s k = some out at h
  unfold lp29 at h
  split at h
  · rename_i xs h0 i q
    cases hg : (decide (0 ≤ i ∧ i ≤ (xs.length : Int)) && Nat.ble xs.length big) with
    | false => rw [hg] at h; cases h
    | true =>
      rw [hg] at h
      simp only [Bool.and_eq_true, decide_eq_true_eq] at hg
      obtain ⟨⟨hi0, hi1⟩, hx⟩ := hg
      refine ⟨xs.length - i.toNat + 1, ?_⟩
      obtain ⟨j, rfl⟩ : ∃ j : Nat, i = (j : Int) := ⟨i.toNat, by omega⟩
      exact (ind29 xs h0 q hx k (xs.length - j) j (by omega)).trans h
  · cases h
theorem st29_1 (xs : List Nat) (h : Nat) (r : Int) (i : Int) (m : Nat) (k : Ex → St → R) : iterK a29 [0, 6, 7, 8] [0, 6, 7, 8] (codeK T6 a29 l29 Try.f29.ntmps (loopAt Try.f29 1)) (m + 1) ⟨[(0, .fv (.vw (some 0) ⟨.f32, xs⟩)), (6, .fv (.el (.sc (.fl .f32 h)))), (7, .fv (.el (.sc (.int .i64 r)))), (8, .fv (.el (.sc (.int .i64 i))))], []⟩ k = (match (decide ((i : Int) ≥ 0) : Bool) with
  | true => (match (decide (0 ≤ (i : Int) ∧ (i : Int) < (xs.length : Int)) && true : Bool) with
    | true => (match (xs : List Nat)[Int.toNat i]? with
      | some x1 => (match (fcmp .gtr .f32 x1 h : Bool) with
        | true => iterK a29 [0, 6, 7, 8] [0, 6, 7, 8] (codeK T6 a29 l29 Try.f29.ntmps (loopAt Try.f29 1)) m ⟨[(0, .fv (.vw (some 0) ⟨.f32, xs⟩)), (6, .fv (.el (.sc (.fl .f32 h)))), (7, .fv (.el (.sc (.int .i64 r)))), (8, .fv (.el (.sc (.int .i64 (IntKind.i64.wrap (i - 1))))))], []⟩ k
        | false => k (.exit 2) ⟨[(0, .fv (.vw (some 0) ⟨.f32, xs⟩)), (6, .fv (.el (.sc (.fl .f32 h)))), (7, .fv (.el (.sc (.int .i64 r)))), (8, .fv (.el (.sc (.int .i64 i))))], []⟩)
      | none => none)
    | false => none)
  | false => k (.exit 2) ⟨[(0, .fv (.vw (some 0) ⟨.f32, xs⟩)), (6, .fv (.el (.sc (.fl .f32 h)))), (7, .fv (.el (.sc (.int .i64 r)))), (8, .fv (.el (.sc (.int .i64 i))))], []⟩) := by kernel_rfl
theorem ind29_1 (xs : List Nat) (h : Nat) (r : Int) (hx : Nat.ble xs.length big = true) (k : Ex → St → R) : ∀ (j : Nat), j ≤ xs.length → iterK a29 [0, 6, 7, 8] [0, 6, 7, 8] (codeK T6 a29 l29 Try.f29.ntmps (loopAt Try.f29 1)) (j + 1) ⟨[(0, .fv (.vw (some 0) ⟨.f32, xs⟩)), (6, .fv (.el (.sc (.fl .f32 h)))), (7, .fv (.el (.sc (.int .i64 r)))), (8, .fv (.el (.sc (.int .i64 ((j : Int) - 1)))))], []⟩ k =
    k (.exit 2) ⟨[(0, .fv (.vw (some 0) ⟨.f32, xs⟩)), (6, .fv (.el (.sc (.fl .f32 h)))), (7, .fv (.el (.sc (.int .i64 r)))), (8, .fv (.el (.sc (.int .i64 (runDown xs h ((j : Int) - 1))))))], []⟩ := by
  have hxl := big_le hx
  intro j
  induction j with
  | zero =>
    intro hj
    have h1 : ¬ (((0 : Nat) : Int) - 1 ≥ 0) := by omega
    rw [st29_1, runDown_zero]
    simp
  | succ j ih =>
    intro hj
    have e1 : ((j + 1 : Nat) : Int) - 1 = (j : Int) := by omega
    rw [e1, st29_1]
    have h1 : ((j : Int) ≥ 0) := by omega
    have hb : (0 : Int) ≤ (j : Int) ∧ (j : Int) < (xs.length : Int) := by omega
    have hq : xs[Int.toNat (j : Int)]? = some (xs.getD j 0) := getI (by omega)
    have wn : IntKind.i64.wrap ((j : Int) - 1) = (j : Int) - 1 := wrap64 (by omega) (by omega)
    rw [runDown_step h (show j < xs.length by omega)]
    simp only [h1, hb, hq, wn, and_self, decide_true, Bool.and_true]
    cases hc : fcmp .gtr .f32 (xs.getD j 0) h with
    | true => exact ih (by omega)
    | false => rfl

theorem lk29_1 : LOK T6 a29 l29 Try.f29.ntmps (loopAt Try.f29 1) := by
  intro ins outs hA s k out h
  have hA' : ([0, 6, 7, 8], [0, 6, 7, 8]) = (ins, outs) := Option.some.inj ((show a29.lp (firstRegion (loopAt Try.f29 1)) = some ([0, 6, 7, 8], [0, 6, 7, 8]) by kernel_rfl).symm.trans hA)
  cases hA'
  have hk : firstRegion (loopAt Try.f29 1) = 7 := by kernel_rfl
  rw [hk] at h
  change lp29_1 s k = some out at h
  unfold lp29_1 at h
  split at h
  · rename_i xs h0 r i
    cases hg : (decide (-1 ≤ i ∧ i < (xs.length : Int)) && Nat.ble xs.length big) with
    | false => rw [hg] at h; cases h
    | true =>
      rw [hg] at h
      simp only [Bool.and_eq_true, decide_eq_true_eq] at hg
      obtain ⟨⟨hi0, hi1⟩, hx⟩ := hg
      refine ⟨(i + 1).toNat + 1, ?_⟩
      obtain ⟨j, rfl⟩ : ∃ j : Nat, i = (j : Int) - 1 := ⟨(i + 1).toNat, by omega⟩
      have e1 : ((j : Int) - 1 + 1).toNat = j := by omega
      rw [e1]
      exact (ind29_1 xs h0 r hx k j (by omega)).trans h
  · cases h
theorem e29 (xs : List Nat) (i : Int) : runFn T6 a29 l29 Try.f29 [.vw none ⟨.f32, xs⟩, .el (.sc (.int .i64 i))] = (match (!(listOk xs 1) : Bool) with
  | true => some ⟨[.el (.sc (.fl .f32 0)), .el (.sc (.bo false))], none⟩
  | false => (match (!(within i 0 (IntKind.i64.wrap (((xs.length : Int)) - 1))) : Bool) with
    | true => some ⟨[.el (.sc (.fl .f32 0)), .el (.sc (.bo false))], none⟩
    | false => (match (decide (0 ≤ (i : Int) ∧ (i : Int) < (xs.length : Int)) && true : Bool) with
      | true => (match (xs : List Nat)[Int.toNat i]? with
        | some x1 => (match (!(fcmp .gtr .f32 x1 0) : Bool) with
          | true => some ⟨[.el (.sc (.fl .f32 0)), .el (.sc (.bo false))], none⟩
          | false => (match (decide (0 ≤ (i : Int) ∧ (i : Int) < (xs.length : Int)) && true : Bool) with
            | true => (match (xs : List Nat)[Int.toNat i]? with
              | some x2 => (match ((decide (0 ≤ (IntKind.i64.wrap (i + 1)) ∧ (IntKind.i64.wrap (i + 1)) ≤ (xs.length : Int)) && Nat.ble xs.length big) : Bool) with
                | true => (match ((decide (-1 ≤ ((IntKind.i64.wrap (i - 1))) ∧ ((IntKind.i64.wrap (i - 1))) < (xs.length : Int)) && Nat.ble xs.length big) : Bool) with
                  | true => (match (((runUp xs (fop .mul .f32 1056964608 x2) (IntKind.i64.wrap (i + 1))) : Int) == (xs.length : Int) : Bool) with
                    | true => some ⟨[.el (.sc (.fl .f32 0)), .el (.sc (.bo false))], none⟩
                    | false => (match (decide ((runDown xs ((fop .mul .f32 1056964608 x2)) ((IntKind.i64.wrap (i - 1))) : Int) < 0) : Bool) with
                      | true => some ⟨[.el (.sc (.fl .f32 0)), .el (.sc (.bo false))], none⟩
                      | false => (match (decide (0 ≤ ((runUp xs (fop .mul .f32 1056964608 x2) (IntKind.i64.wrap (i + 1))) : Int) ∧ ((runUp xs (fop .mul .f32 1056964608 x2) (IntKind.i64.wrap (i + 1))) : Int) < (xs.length : Int)) && true : Bool) with
                        | true => (match (xs : List Nat)[Int.toNat ((runUp xs (fop .mul .f32 1056964608 x2) (IntKind.i64.wrap (i + 1))))]? with
                          | some x3 => (match (decide (0 ≤ (IntKind.i64.wrap (((runUp xs (fop .mul .f32 1056964608 x2) (IntKind.i64.wrap (i + 1)))) - 1) : Int) ∧ (IntKind.i64.wrap (((runUp xs (fop .mul .f32 1056964608 x2) (IntKind.i64.wrap (i + 1)))) - 1) : Int) < (xs.length : Int)) && true : Bool) with
                            | true => (match (xs : List Nat)[Int.toNat (IntKind.i64.wrap (((runUp xs (fop .mul .f32 1056964608 x2) (IntKind.i64.wrap (i + 1)))) - 1))]? with
                              | some x4 => (match (decide (0 ≤ ((runUp xs (fop .mul .f32 1056964608 x2) (IntKind.i64.wrap (i + 1))) : Int) ∧ ((runUp xs (fop .mul .f32 1056964608 x2) (IntKind.i64.wrap (i + 1))) : Int) < (xs.length : Int)) && true : Bool) with
                                | true => (match (xs : List Nat)[Int.toNat ((runUp xs (fop .mul .f32 1056964608 x2) (IntKind.i64.wrap (i + 1))))]? with
                                  | some x5 => (match (decide (0 ≤ (runDown xs ((fop .mul .f32 1056964608 x2)) ((IntKind.i64.wrap (i - 1))) : Int) ∧ (runDown xs ((fop .mul .f32 1056964608 x2)) ((IntKind.i64.wrap (i - 1))) : Int) < (xs.length : Int)) && true : Bool) with
                                    | true => (match (xs : List Nat)[Int.toNat (runDown xs ((fop .mul .f32 1056964608 x2)) ((IntKind.i64.wrap (i - 1))))]? with
                                      | some x6 => (match (decide (0 ≤ (IntKind.i64.wrap ((runDown xs ((fop .mul .f32 1056964608 x2)) ((IntKind.i64.wrap (i - 1)))) + 1) : Int) ∧ (IntKind.i64.wrap ((runDown xs ((fop .mul .f32 1056964608 x2)) ((IntKind.i64.wrap (i - 1)))) + 1) : Int) < (xs.length : Int)) && true : Bool) with
                                        | true => (match (xs : List Nat)[Int.toNat (IntKind.i64.wrap ((runDown xs ((fop .mul .f32 1056964608 x2)) ((IntKind.i64.wrap (i - 1)))) + 1))]? with
                                          | some x7 => (match (decide (0 ≤ (runDown xs ((fop .mul .f32 1056964608 x2)) ((IntKind.i64.wrap (i - 1))) : Int) ∧ (runDown xs ((fop .mul .f32 1056964608 x2)) ((IntKind.i64.wrap (i - 1))) : Int) < (xs.length : Int)) && true : Bool) with
                                            | true => (match (xs : List Nat)[Int.toNat (runDown xs ((fop .mul .f32 1056964608 x2)) ((IntKind.i64.wrap (i - 1))))]? with
                                              | some x8 => some ⟨[.el (.sc (.fl .f32 (numOf (fop .sub .f32 (fop .sub .f32 (fint .f32 ((runUp xs (fop .mul .f32 1056964608 x2) (IntKind.i64.wrap (i + 1))))) (fop .quo .f32 (fop .sub .f32 (((fop .mul .f32 1056964608 x2))) x3) (fop .sub .f32 x4 x5))) (fop .add .f32 (fint .f32 (runDown xs ((fop .mul .f32 1056964608 x2)) ((IntKind.i64.wrap (i - 1))))) (fop .quo .f32 (fop .sub .f32 (((fop .mul .f32 1056964608 x2))) x6) (fop .sub .f32 x7 x8))))))), .el (.sc (.bo (fin (fop .sub .f32 (fop .sub .f32 (fint .f32 ((runUp xs (fop .mul .f32 1056964608 x2) (IntKind.i64.wrap (i + 1))))) (fop .quo .f32 (fop .sub .f32 (((fop .mul .f32 1056964608 x2))) x3) (fop .sub .f32 x4 x5))) (fop .add .f32 (fint .f32 (runDown xs ((fop .mul .f32 1056964608 x2)) ((IntKind.i64.wrap (i - 1))))) (fop .quo .f32 (fop .sub .f32 (((fop .mul .f32 1056964608 x2))) x6) (fop .sub .f32 x7 x8)))))))], none⟩
                                              | none => none)
                                            | false => none)
                                          | none => none)
                                        | false => none)
                                      | none => none)
                                    | false => none)
                                  | none => none)
                                | false => none)
                              | none => none)
                            | false => none)
                          | none => none)
                        | false => none)))
                  | false => none)
                | false => none)
              | none => none)
            | false => none))
        | none => none)
      | false => none))) := by kernel_rfl
theorem s29 (xs : List Nat) (i : Int) : runFn T6 a29 l29 Try.f29 [.vw none ⟨.f32, xs⟩, .el (.sc (.int .i64 i))] = some ⟨[.el (.sc (.fl .f32 (orZero (halfOk xs i) (halfX xs i)))), .el (.sc (.bo (halfOk xs i)))], none⟩ := by
  rw [e29]
  unfold halfOk
  cases hl : listOk xs 1 with
  | false => simp [orZero]
  | true =>
    have h2 := hl
    unfold listOk at h2
    simp only [Bool.and_eq_true, decide_eq_true_eq] at h2
    have w1 : IntKind.i64.wrap ((xs.length : Int) - 1) = (xs.length : Int) - 1 := wrap64 (by omega) (by omega)
    rw [w1]
    cases hw : within i 0 ((xs.length : Int) - 1) with
    | false => simp [orZero]
    | true =>
      unfold within at hw
      simp only [Bool.and_eq_true, decide_eq_true_eq] at hw
      obtain ⟨j, rfl⟩ : ∃ j : Nat, i = (j : Int) := ⟨i.toNat, by omega⟩
      have hj : j < xs.length := by omega
      have hx : Nat.ble xs.length big = true := big_of (by omega)
      have ab : (0 : Int) ≤ ((j : Nat) : Int) ∧ ((j : Nat) : Int) < (xs.length : Int) := by omega
      have aq : xs[Int.toNat ((j : Nat) : Int)]? = some (xs.getD (j) 0) := getI (by omega)
      have ap : xs[j]? = some (xs.getD (j) 0) := getI2 (by omega)
      have w2 : IntKind.i64.wrap ((j : Int) + 1) = (j : Int) + 1 := wrap64 (by omega) (by omega)
      have w3 : IntKind.i64.wrap ((j : Int) - 1) = (j : Int) - 1 := wrap64 (by omega) (by omega)
      have e4 : Int.toNat (j : Int) = j := by omega
      simp only [ab, aq, w2, w3, and_self, decide_true, Bool.and_true, Bool.not_true]
      rw [e4]
      cases hp : fcmp .gtr .f32 (xs.getD j 0) 0 with
      | false => simp [orZero]
      | true =>
        have g1 : (0 : Int) ≤ (j : Int) + 1 ∧ (j : Int) + 1 ≤ (xs.length : Int) := by omega
        have g2 : (-1 : Int) ≤ (j : Int) - 1 ∧ (j : Int) - 1 < (xs.length : Int) := by omega
        have r1 := runUp_bound (xs := xs) (h := fop .mul .f32 1056964608 (xs.getD j 0)) (i := (j : Int) + 1) (by omega) (by omega)
        have r2 := runDown_bound (xs := xs) (h := fop .mul .f32 1056964608 (xs.getD j 0)) (i := (j : Int) - 1) (by omega) (by omega)
        simp only [hx, g1, g2, and_self, decide_true, Bool.and_true, Bool.not_true]
        unfold halfX
        rw [e4]
        dsimp only
        generalize hR : runUp xs (fop .mul .f32 1056964608 (xs.getD j 0)) ((j : Int) + 1) = R at r1 ⊢
        generalize hL : runDown xs (fop .mul .f32 1056964608 (xs.getD j 0)) ((j : Int) - 1) = L at r2 ⊢
        by_cases q1 : R = (xs.length : Int)
        · simp [q1, orZero]
        · by_cases q2 : L < 0
          · have e5 : (R == (xs.length : Int)) = false := beq_false_of_ne q1
            simp [e5, q2, orZero]
          · obtain ⟨r, rfl⟩ : ∃ r : Nat, R = (r : Int) := ⟨R.toNat, by omega⟩
            obtain ⟨l, rfl⟩ : ∃ l : Nat, L = (l : Int) := ⟨L.toNat, by omega⟩
            have w4 : IntKind.i64.wrap ((r : Int) - 1) = ((r - 1 : Nat) : Int) := wrapN (by omega) (by omega)
            have w5 : IntKind.i64.wrap ((l : Int) + 1) = ((l + 1 : Nat) : Int) := wrapN (by omega) (by omega)
            have bb : (0 : Int) ≤ ((r : Nat) : Int) ∧ ((r : Nat) : Int) < (xs.length : Int) := by omega
            have bq : xs[Int.toNat ((r : Nat) : Int)]? = some (xs.getD (r) 0) := getI (by omega)
            have bp : xs[r]? = some (xs.getD (r) 0) := getI2 (by omega)
            have cb : (0 : Int) ≤ ((r - 1 : Nat) : Int) ∧ ((r - 1 : Nat) : Int) < (xs.length : Int) := by omega
            have cq : xs[Int.toNat ((r - 1 : Nat) : Int)]? = some (xs.getD (r - 1) 0) := getI (by omega)
            have cp : xs[r - 1]? = some (xs.getD (r - 1) 0) := getI2 (by omega)
            have db : (0 : Int) ≤ ((l : Nat) : Int) ∧ ((l : Nat) : Int) < (xs.length : Int) := by omega
            have dq : xs[Int.toNat ((l : Nat) : Int)]? = some (xs.getD (l) 0) := getI (by omega)
            have dp : xs[l]? = some (xs.getD (l) 0) := getI2 (by omega)
            have eb : (0 : Int) ≤ ((l + 1 : Nat) : Int) ∧ ((l + 1 : Nat) : Int) < (xs.length : Int) := by omega
            have eq : xs[Int.toNat ((l + 1 : Nat) : Int)]? = some (xs.getD (l + 1) 0) := getI (by omega)
            have ep : xs[l + 1]? = some (xs.getD (l + 1) 0) := getI2 (by omega)
            have e5 : ((r : Int) == (xs.length : Int)) = false := beq_false_of_ne q1
            have e6 : decide ((l : Int) < 0) = false := decide_eq_false q2
            have e7 : Int.toNat (r : Int) = r := by omega
            have e8 : Int.toNat (l : Int) = l := by omega
            simp only [e5, e6, bb, bq, cb, cq, db, dq, eb, eq, w4, w5, and_self, decide_true, Bool.and_true, Bool.not_false, Bool.true_and]
            rw [e7, e8]
            unfold orZero numOf
            cases fin (fop .sub .f32 (fop .sub .f32 (fint .f32 (r : Int)) (fop .quo .f32 (fop .sub .f32 (fop .mul .f32 1056964608 (xs.getD j 0)) (xs.getD r 0)) (fop .sub .f32 (xs.getD (r - 1) 0) (xs.getD r 0)))) (fop .add .f32 (fint .f32 (l : Int)) (fop .quo .f32 (fop .sub .f32 (fop .mul .f32 1056964608 (xs.getD j 0)) (xs.getD l 0)) (fop .sub .f32 (xs.getD (l + 1) 0) (xs.getD l 0))))) <;> rfl
theorem c29 (xs : List Nat) (i : Int) (k : List RV → R) (out : Out) (h : k [.el (.sc (.fl .f32 (orZero (halfOk xs i) (halfX xs i)))), .el (.sc (.bo (halfOk xs i)))] = some out) : ∃ rs, Real Try.prog 29 ∧ COK Try.prog 29 [.vw none ⟨.f32, xs⟩, .el (.sc (.int .i64 i))] rs ∧ k rs = some out := by
  exact ⟨_, real Try.func29 (by kernel_rfl), fn_ok tok6 (A := a29) (L := l29) (r := none) Try.func29 (by kernel_rfl) (by kernel_rfl) (loops2 (by kernel_rfl) lk29 lk29_1) (by rw [s29]), h⟩

/-! impl.LampLine -/
def a32 : Ann := ann [(6, [1, 7, 8, 9, 10, 24, 25, 26], [7, 8, 9, 10])] [4, 5, 6] 0
def lp32 : St → (Ex → St → R) → R := fun s k => match s with
  | ⟨[(1, .fv (.vw (some 1) ⟨.f32, ys⟩)), (7, .fv (.el (.sc (.fl .f32 x)))), (8, .fv (.el (.sc (.fl .f32 y)))), (9, .fv (.el (.sc (.fl .f32 a)))), (10, .fv (.el (.sc (.fl .f32 b)))), (24, .fv (.vw (some 0) ⟨.f32, xs⟩)), (25, .fv (.el (.sc (.int .i64 n)))), (26, .fv (.el (.sc (.int .i64 i))))], []⟩ => (match ((decide (n = (xs.length : Int)) && (decide (i = 0) && (Nat.ble xs.length big && Nat.ble xs.length ys.length))) : Bool) with
    | true => k (.exit 0) ⟨[(7, .fv (.el (.sc (.fl .f32 x)))), (8, .fv (.el (.sc (.fl .f32 y)))), (9, .fv (.el (.sc (.fl .f32 ((rep (lampF xs ys x y) (xs.length) 0 ((a, b) : Nat × Nat)).1))))), (10, .fv (.el (.sc (.fl .f32 ((rep (lampF xs ys x y) (xs.length) 0 ((a, b) : Nat × Nat)).2)))))], []⟩
    | false => none)
  | _ => none
def l32 : Loops := fun key s k => bif Nat.beq key 6 then lp32 s k else none
theorem st32 (ys : List Nat) (x : Nat) (y : Nat) (a : Nat) (b : Nat) (xs : List Nat) (n : Int) (i : Int) (m : Nat) (k : Ex → St → R) : iterK a32 [1, 7, 8, 9, 10, 24, 25, 26] [7, 8, 9, 10] (codeK T6 a32 l32 Try.f32.ntmps (loopAt Try.f32 0)) (m + 1) ⟨[(1, .fv (.vw (some 1) ⟨.f32, ys⟩)), (7, .fv (.el (.sc (.fl .f32 x)))), (8, .fv (.el (.sc (.fl .f32 y)))), (9, .fv (.el (.sc (.fl .f32 a)))), (10, .fv (.el (.sc (.fl .f32 b)))), (24, .fv (.vw (some 0) ⟨.f32, xs⟩)), (25, .fv (.el (.sc (.int .i64 n)))), (26, .fv (.el (.sc (.int .i64 i))))], []⟩ k = (match (decide ((i : Int) < n) : Bool) with
  | true => (match (decide (0 ≤ (i : Int) ∧ (i : Int) < (xs.length : Int)) && true : Bool) with
    | true => (match (xs : List Nat)[Int.toNat i]? with
      | some x1 => (match (decide (0 ≤ (i : Int) ∧ (i : Int) < (ys.length : Int)) && true : Bool) with
        | true => (match (ys : List Nat)[Int.toNat i]? with
          | some x2 => iterK a32 [1, 7, 8, 9, 10, 24, 25, 26] [7, 8, 9, 10] (codeK T6 a32 l32 Try.f32.ntmps (loopAt Try.f32 0)) m ⟨[(1, .fv (.vw (some 1) ⟨.f32, ys⟩)), (7, .fv (.el (.sc (.fl .f32 x)))), (8, .fv (.el (.sc (.fl .f32 y)))), (9, .fv (.el (.sc (.fl .f32 (fop .add .f32 a (fop .mul .f32 (fop .sub .f32 x1 x) (fop .sub .f32 x2 y))))))), (10, .fv (.el (.sc (.fl .f32 (fop .add .f32 b (fop .mul .f32 (fop .sub .f32 x1 x) (fop .sub .f32 x1 x))))))), (24, .fv (.vw (some 0) ⟨.f32, xs⟩)), (25, .fv (.el (.sc (.int .i64 n)))), (26, .fv (.el (.sc (.int .i64 (IntKind.i64.wrap (i + 1))))))], []⟩ k
          | none => none)
        | false => none)
      | none => none)
    | false => none)
  | false => k (.exit 0) ⟨[(7, .fv (.el (.sc (.fl .f32 x)))), (8, .fv (.el (.sc (.fl .f32 y)))), (9, .fv (.el (.sc (.fl .f32 a)))), (10, .fv (.el (.sc (.fl .f32 b))))], []⟩) := by kernel_rfl
theorem ind32 (ys : List Nat) (x : Nat) (y : Nat) (xs : List Nat) (hx : (Nat.ble xs.length big) = true) (hl : (Nat.ble xs.length ys.length) = true) (k : Ex → St → R) : ∀ (m j : Nat) (a : Nat) (b : Nat), 0 ≤ j → j + m = xs.length → iterK a32 [1, 7, 8, 9, 10, 24, 25, 26] [7, 8, 9, 10] (codeK T6 a32 l32 Try.f32.ntmps (loopAt Try.f32 0)) (m + 1) ⟨[(1, .fv (.vw (some 1) ⟨.f32, ys⟩)), (7, .fv (.el (.sc (.fl .f32 x)))), (8, .fv (.el (.sc (.fl .f32 y)))), (9, .fv (.el (.sc (.fl .f32 a)))), (10, .fv (.el (.sc (.fl .f32 b)))), (24, .fv (.vw (some 0) ⟨.f32, xs⟩)), (25, .fv (.el (.sc (.int .i64 (xs.length : Int))))), (26, .fv (.el (.sc (.int .i64 (j : Int)))))], []⟩ k =
    k (.exit 0) ⟨[(7, .fv (.el (.sc (.fl .f32 x)))), (8, .fv (.el (.sc (.fl .f32 y)))), (9, .fv (.el (.sc (.fl .f32 ((rep (lampF xs ys x y) m j ((a, b) : Nat × Nat)).1))))), (10, .fv (.el (.sc (.fl .f32 ((rep (lampF xs ys x y) m j ((a, b) : Nat × Nat)).2)))))], []⟩ := by
  intro m
  induction m with
  | zero =>
    intro j a b hlo hj
    have hx_ := big_le hx
    have hl_ := Nat.le_of_ble_eq_true hl
    have h1 : ¬ (((j : Int) < (xs.length : Int))) := by omega
    rw [st32]
    simp only [h1, rep, decide_false] <;> rfl
  | succ m ih =>
    intro j a b hlo hj
    have hx_ := big_le hx
    have hl_ := Nat.le_of_ble_eq_true hl
    have h1 : ((j : Int) < (xs.length : Int)) := by omega
    have pb : (0 : Int) ≤ ((j : Nat) : Int) ∧ ((j : Nat) : Int) < (xs.length : Int) := by omega
    have pq : xs[Int.toNat ((j : Nat) : Int)]? = some (xs.getD (j) 0) := getI (by omega)
    have pp : xs[j]? = some (xs.getD (j) 0) := getI2 (by omega)
    have qb : (0 : Int) ≤ ((j : Nat) : Int) ∧ ((j : Nat) : Int) < (ys.length : Int) := by omega
    have qq : ys[Int.toNat ((j : Nat) : Int)]? = some (ys.getD (j) 0) := getI (by omega)
    have qp : ys[j]? = some (ys.getD (j) 0) := getI2 (by omega)
    have wn : IntKind.i64.wrap ((j : Int) + 1) = ((j + 1 : Nat) : Int) := wrapN (by omega) (by omega)
    rw [st32]
    simp only [h1, wn, pb, pq, pp, qb, qq, qp, and_self, decide_true, Bool.and_true, Int.le_refl]
    exact ih (j + 1) _ _ (by omega) (by omega)

theorem lk32 : LOK T6 a32 l32 Try.f32.ntmps (loopAt Try.f32 0) := by
  intro ins outs hA s k out h
  have hA' : ([1, 7, 8, 9, 10, 24, 25, 26], [7, 8, 9, 10]) = (ins, outs) := Option.some.inj ((show a32.lp (firstRegion (loopAt Try.f32 0)) = some ([1, 7, 8, 9, 10, 24, 25, 26], [7, 8, 9, 10]) by kernel_rfl).symm.trans hA)
  cases hA'
  have hk : firstRegion (loopAt Try.f32 0) = 6 := by kernel_rfl
  rw [hk] at h
  change lp32 s k = some out at h
  unfold lp32 at h
  split at h
  · rename_i ys x y a b xs n i
    cases hg : (decide (n = (xs.length : Int)) && (decide (i = 0) && (Nat.ble xs.length big && Nat.ble xs.length ys.length))) with
    | false => rw [hg] at h; cases h
    | true =>
      rw [hg] at h
      simp only [Bool.and_eq_true, decide_eq_true_eq] at hg
      obtain ⟨rfl, rfl, hx, hl⟩ := hg
      refine ⟨(xs.length) + 1, ?_⟩
      have hx_ := big_le hx
      have hl_ := Nat.le_of_ble_eq_true hl
      exact (ind32 ys x y xs hx hl k (xs.length) 0 a b (by omega) (by omega)).trans h
  · cases h
theorem e32 (xs : List Nat) (ys : List Nat) : runFn T6 a32 l32 Try.f32 [.vw none ⟨.f32, xs⟩, .vw none ⟨.f32, ys⟩] = (match (!(lamps xs ys 2) : Bool) with
  | true => some ⟨[.el (.sc (.fl .f32 0)), .el (.sc (.fl .f32 0)), .el (.sc (.bo false))], none⟩
  | false => (match (Nat.ble xs.length big : Bool) with
    | true => (match (Nat.ble ys.length big : Bool) with
      | true => (match ((decide (((xs.length : Int)) = (xs.length : Int)) && (decide (0 = 0) && (Nat.ble xs.length big && Nat.ble xs.length ys.length))) : Bool) with
        | true => (match (fcmp .eql .f32 ((rep (lampF xs ys (meanF xs) (meanF ys)) (xs.length) 0 ((0, 0) : Nat × Nat)).2) 0 : Bool) with
          | true => some ⟨[.el (.sc (.fl .f32 0)), .el (.sc (.fl .f32 0)), .el (.sc (.bo false))], none⟩
          | false => (match (!(([fop .sub .f32 ((meanF ys)) (fop .mul .f32 (fop .quo .f32 ((rep (lampF xs ys (meanF xs) (meanF ys)) (xs.length) 0 ((0, 0) : Nat × Nat)).1) ((rep (lampF xs ys (meanF xs) (meanF ys)) (xs.length) 0 ((0, 0) : Nat × Nat)).2)) ((meanF xs))), fop .quo .f32 ((rep (lampF xs ys (meanF xs) (meanF ys)) (xs.length) 0 ((0, 0) : Nat × Nat)).1) ((rep (lampF xs ys (meanF xs) (meanF ys)) (xs.length) 0 ((0, 0) : Nat × Nat)).2)]).all fin) : Bool) with
            | true => some ⟨[.el (.sc (.fl .f32 0)), .el (.sc (.fl .f32 0)), .el (.sc (.bo false))], none⟩
            | false => some ⟨[.el (.sc (.fl .f32 (fop .sub .f32 ((meanF ys)) (fop .mul .f32 (fop .quo .f32 ((rep (lampF xs ys (meanF xs) (meanF ys)) (xs.length) 0 ((0, 0) : Nat × Nat)).1) ((rep (lampF xs ys (meanF xs) (meanF ys)) (xs.length) 0 ((0, 0) : Nat × Nat)).2)) ((meanF xs)))))), .el (.sc (.fl .f32 (fop .quo .f32 ((rep (lampF xs ys (meanF xs) (meanF ys)) (xs.length) 0 ((0, 0) : Nat × Nat)).1) ((rep (lampF xs ys (meanF xs) (meanF ys)) (xs.length) 0 ((0, 0) : Nat × Nat)).2)))), .el (.sc (.bo true))], none⟩))
        | false => none)
      | false => none)
    | false => none)) := by kernel_rfl
theorem s32 (xs : List Nat) (ys : List Nat) : runFn T6 a32 l32 Try.f32 [.vw none ⟨.f32, xs⟩, .vw none ⟨.f32, ys⟩] = some ⟨[.el (.sc (.fl .f32 (orZero (lampOk xs ys) (lampBase xs ys)))), .el (.sc (.fl .f32 (orZero (lampOk xs ys) (lampSlope xs ys)))), .el (.sc (.bo (lampOk xs ys)))], none⟩ := by
  rw [e32]
  cases h : lamps xs ys 2 with
  | false => simp [lampOk, h, orZero]
  | true =>
    have h2 := h
    unfold lamps at h2
    simp only [Bool.and_eq_true, decide_eq_true_eq] at h2
    have hx : Nat.ble xs.length big = true := big_of (by omega)
    have hy : Nat.ble ys.length big = true := big_of (by omega)
    have hl : Nat.ble xs.length ys.length = true := Nat.ble_eq_true_of_le (by omega)
    have hl2 : ys.length = xs.length := by omega
    have e1 : fop .quo .f32 (sumF xs) (fint .f32 (xs.length : Int)) = meanF xs := rfl
    have e2 : fop .quo .f32 (sumF ys) (fint .f32 (xs.length : Int)) = meanF ys := by unfold meanF; rw [hl2]
    try rw [e1, e2]
    simp only [hx, hy, hl, decide_true, Bool.true_and, Bool.and_true, Bool.not_true]
    unfold lampOk lampBase lampSlope lampS orZero
    rw [h]
    generalize rep (lampF xs ys (meanF xs) (meanF ys)) xs.length 0 (0, 0) = S
    cases fcmp .eql .f32 S.2 0 <;> simp
    cases h5 : fin (fop .quo .f32 S.1 S.2) <;> cases h6 : fin (fop .sub .f32 (meanF ys) (fop .mul .f32 (fop .quo .f32 S.1 S.2) (meanF xs))) <;> simp [h5, h6]
theorem c32 (xs : List Nat) (ys : List Nat) (k : List RV → R) (out : Out) (h : k [.el (.sc (.fl .f32 (orZero (lampOk xs ys) (lampBase xs ys)))), .el (.sc (.fl .f32 (orZero (lampOk xs ys) (lampSlope xs ys)))), .el (.sc (.bo (lampOk xs ys)))] = some out) : ∃ rs, Real Try.prog 32 ∧ COK Try.prog 32 [.vw none ⟨.f32, xs⟩, .vw none ⟨.f32, ys⟩] rs ∧ k rs = some out := by
  exact ⟨_, real Try.func32 (by kernel_rfl), fn_ok tok6 (A := a32) (L := l32) (r := none) Try.func32 (by kernel_rfl) (by kernel_rfl) (loops1 (by kernel_rfl) lk32) (by rw [s32]), h⟩

/-! impl.CosmicMarks -/
def a36 : Ann := ann [(5, [0, 1, 6, 7], [6])] [4, 5] 0
def lp36 : St → (Ex → St → R) → R := fun s k => match s with
  | ⟨[(0, .fv (.vw (some 0) ⟨.f32, xs⟩)), (1, .fv (.el (.sc (.fl .f32 b)))), (6, .fv (.own 0)), (7, .fv (.el (.sc (.int .i64 i))))], [some ⟨2, ⟨.i64, zs⟩⟩]⟩ => (match ((decide (i = 1) && (Nat.ble xs.length big && (Nat.ble 2 xs.length && Nat.ble ((zs : List Int).length + (xs.length - 1)) big))) : Bool) with
    | true => k (.exit 0) ⟨[(6, .fv (.own 0))], [some ⟨2, ⟨.i64, rep (fun j zs => bif marked xs b j then zs ++ [(j : Int)] else zs) (xs.length - 1 - 1) 1 ((zs : List Int) : (List Int))⟩⟩]⟩
    | false => none)
  | _ => none
def l36 : Loops := fun key s k => bif Nat.beq key 5 then lp36 s k else none
theorem st36 (xs : List Nat) (b : Nat) (i : Int) (zs : List Int) (m : Nat) (k : Ex → St → R) : iterK a36 [0, 1, 6, 7] [6] (codeK T6 a36 l36 Try.f36.ntmps (loopAt Try.f36 0)) (m + 1) ⟨[(0, .fv (.vw (some 0) ⟨.f32, xs⟩)), (1, .fv (.el (.sc (.fl .f32 b)))), (6, .fv (.own 0)), (7, .fv (.el (.sc (.int .i64 i))))], [some ⟨2, ⟨.i64, zs⟩⟩]⟩ k = (match (decide ((IntKind.i64.wrap (i + 1) : Int) < (xs.length : Int)) : Bool) with
  | true => (match (decide (0 ≤ (i : Int) ∧ (i : Int) < (xs.length : Int)) && true : Bool) with
    | true => (match (xs : List Nat)[Int.toNat i]? with
      | some x1 => (match (decide (0 ≤ (IntKind.i64.wrap (i - 1) : Int) ∧ (IntKind.i64.wrap (i - 1) : Int) < (xs.length : Int)) && true : Bool) with
        | true => (match (xs : List Nat)[Int.toNat (IntKind.i64.wrap (i - 1))]? with
          | some x2 => (match (decide (0 ≤ (IntKind.i64.wrap (i + 1) : Int) ∧ (IntKind.i64.wrap (i + 1) : Int) < (xs.length : Int)) && true : Bool) with
            | true => (match (xs : List Nat)[Int.toNat (IntKind.i64.wrap (i + 1))]? with
              | some x3 => (match (fcmp .gtr .f32 (fop .sub .f32 x1 (fmax .f32 x2 x3)) b : Bool) with
                | true => (match (Nat.beq 2 2 && decide ((zs : List Int).length + ([i] : List Int).length ≤ 1099511627776) : Bool) with
                  | true => iterK a36 [0, 1, 6, 7] [6] (codeK T6 a36 l36 Try.f36.ntmps (loopAt Try.f36 0)) m ⟨[(0, .fv (.vw (some 0) ⟨.f32, xs⟩)), (1, .fv (.el (.sc (.fl .f32 b)))), (6, .fv (.own 0)), (7, .fv (.el (.sc (.int .i64 (IntKind.i64.wrap (i + 1))))))], [some ⟨2, ⟨.i64, (zs : List Int) ++ ([i])⟩⟩]⟩ k
                  | false => none)
                | false => iterK a36 [0, 1, 6, 7] [6] (codeK T6 a36 l36 Try.f36.ntmps (loopAt Try.f36 0)) m ⟨[(0, .fv (.vw (some 0) ⟨.f32, xs⟩)), (1, .fv (.el (.sc (.fl .f32 b)))), (6, .fv (.own 0)), (7, .fv (.el (.sc (.int .i64 (IntKind.i64.wrap (i + 1))))))], [some ⟨2, ⟨.i64, zs⟩⟩]⟩ k)
              | none => none)
            | false => none)
          | none => none)
        | false => none)
      | none => none)
    | false => none)
  | false => k (.exit 0) ⟨[(6, .fv (.own 0))], [some ⟨2, ⟨.i64, zs⟩⟩]⟩) := by kernel_rfl
theorem ind36 (xs : List Nat) (b : Nat) (hx : (Nat.ble xs.length big) = true) (h2 : (Nat.ble 2 xs.length) = true) (k : Ex → St → R) : ∀ (m j : Nat) (zs : List Int), zs.length + m ≤ 1099511627776 → 1 ≤ j → j + m = xs.length - 1 → iterK a36 [0, 1, 6, 7] [6] (codeK T6 a36 l36 Try.f36.ntmps (loopAt Try.f36 0)) (m + 1) ⟨[(0, .fv (.vw (some 0) ⟨.f32, xs⟩)), (1, .fv (.el (.sc (.fl .f32 b)))), (6, .fv (.own 0)), (7, .fv (.el (.sc (.int .i64 (j : Int)))))], [some ⟨2, ⟨.i64, zs⟩⟩]⟩ k =
    k (.exit 0) ⟨[(6, .fv (.own 0))], [some ⟨2, ⟨.i64, rep (fun j zs => bif marked xs b j then zs ++ [(j : Int)] else zs) m j (zs : (List Int))⟩⟩]⟩ := by
  intro m
  induction m with
  | zero =>
    intro j zs hs0 hlo hj
    have hx_ := big_le hx
    have h2_ := Nat.le_of_ble_eq_true h2
    have w2 : IntKind.i64.wrap ((j : Int) + 1) = ((j + 1 : Nat) : Int) := wrapN (by omega) (by omega)
    have h1 : ¬ (((j + 1 : Nat) : Int) < (xs.length : Int)) := by omega
    rw [st36]
    simp only [h1, w2, rep, decide_false, List.length_singleton] <;> rfl
  | succ m ih =>
    intro j zs hs0 hlo hj
    have hx_ := big_le hx
    have h2_ := Nat.le_of_ble_eq_true h2
    have w2 : IntKind.i64.wrap ((j : Int) + 1) = ((j + 1 : Nat) : Int) := wrapN (by omega) (by omega)
    have h1 : ((j + 1 : Nat) : Int) < (xs.length : Int) := by omega
    have hbq : Nat.beq 2 2 = true := rfl
    have hzl : zs.length + 1 ≤ 1099511627776 := by omega
    have wj : IntKind.i64.wrap (j : Int) = (j : Int) := wrapN rfl (by omega)
    have ab : (0 : Int) ≤ ((j : Nat) : Int) ∧ ((j : Nat) : Int) < (xs.length : Int) := by omega
    have aq : xs[Int.toNat ((j : Nat) : Int)]? = some (xs.getD (j) 0) := getI (by omega)
    have ap : xs[j]? = some (xs.getD (j) 0) := getI2 (by omega)
    have w1 : IntKind.i64.wrap ((j : Int) - 1) = ((j - 1 : Nat) : Int) := wrapN (by omega) (by omega)
    have bb : (0 : Int) ≤ ((j - 1 : Nat) : Int) ∧ ((j - 1 : Nat) : Int) < (xs.length : Int) := by omega
    have bq : xs[Int.toNat ((j - 1 : Nat) : Int)]? = some (xs.getD (j - 1) 0) := getI (by omega)
    have bp : xs[j - 1]? = some (xs.getD (j - 1) 0) := getI2 (by omega)
    have cb : (0 : Int) ≤ ((j + 1 : Nat) : Int) ∧ ((j + 1 : Nat) : Int) < (xs.length : Int) := by omega
    have cq : xs[Int.toNat ((j + 1 : Nat) : Int)]? = some (xs.getD (j + 1) 0) := getI (by omega)
    have cp : xs[j + 1]? = some (xs.getD (j + 1) 0) := getI2 (by omega)
    have wn : IntKind.i64.wrap ((j : Int) + 1) = ((j + 1 : Nat) : Int) := wrapN (by omega) (by omega)
    rw [st36]
    simp only [h1, wn, w2, hbq, hzl, wj, ab, aq, ap, w1, bb, bq, bp, cb, cq, cp, and_self, decide_true, Bool.and_true, Int.le_refl, List.length_singleton]
    have hm : fcmp .gtr .f32 (fop .sub .f32 (xs.getD j 0) (fmax .f32 (xs.getD (j - 1) 0) (xs.getD (j + 1) 0))) b = marked xs b j := rfl
    rw [hm]
    simp only [rep]
    cases hf : marked xs b j with
    | true => exact ih (j + 1) _ (by simp; omega) (by omega) (by omega)
    | false => exact ih (j + 1) _ (by omega) (by omega) (by omega)

theorem lk36 : LOK T6 a36 l36 Try.f36.ntmps (loopAt Try.f36 0) := by
  intro ins outs hA s k out h
  have hA' : ([0, 1, 6, 7], [6]) = (ins, outs) := Option.some.inj ((show a36.lp (firstRegion (loopAt Try.f36 0)) = some ([0, 1, 6, 7], [6]) by kernel_rfl).symm.trans hA)
  cases hA'
  have hk : firstRegion (loopAt Try.f36 0) = 5 := by kernel_rfl
  rw [hk] at h
  change lp36 s k = some out at h
  unfold lp36 at h
  split at h
  · rename_i xs b i zs
    cases hg : (decide (i = 1) && (Nat.ble xs.length big && (Nat.ble 2 xs.length && Nat.ble (zs.length + (xs.length - 1)) big))) with
    | false => rw [hg] at h; cases h
    | true =>
      rw [hg] at h
      simp only [Bool.and_eq_true, decide_eq_true_eq] at hg
      obtain ⟨rfl, hx, h2, gs0⟩ := hg
      refine ⟨(xs.length - 1) - 1 + 1, ?_⟩
      have hx_ := big_le hx
      have h2_ := Nat.le_of_ble_eq_true h2
      have gs0_ := big_le gs0
      exact (ind36 xs b hx h2 k ((xs.length - 1) - 1) 1 zs (by omega) (by omega) (by omega)).trans h
  · cases h
theorem e36 (xs : List Nat) (b : Nat) : runFn T6 a36 l36 Try.f36 [.vw none ⟨.f32, xs⟩, .el (.sc (.fl .f32 b))] = (match (!(bins xs 3) : Bool) with
  | true => some ⟨[.nil, .el (.sc (.bo false))], none⟩
  | false => (match (!(fin b) : Bool) with
    | true => some ⟨[.nil, .el (.sc (.bo false))], none⟩
    | false => (match (fcmp .lss .f32 b 0 : Bool) with
      | true => some ⟨[.nil, .el (.sc (.bo false))], none⟩
      | false => (match ((decide (1 = 1) && (Nat.ble xs.length big && (Nat.ble 2 xs.length && Nat.ble (([] : List Int).length + (xs.length - 1)) big))) : Bool) with
        | true => some ⟨[.fresh 2 ⟨.i64, rep (fun j zs => bif marked xs b j then zs ++ [(j : Int)] else zs) (xs.length - 1 - 1) 1 (([] : List Int) : (List Int))⟩, .el (.sc (.bo true))], none⟩
        | false => none)))) := by kernel_rfl
theorem s36 (xs : List Nat) (b : Nat) : runFn T6 a36 l36 Try.f36 [.vw none ⟨.f32, xs⟩, .el (.sc (.fl .f32 b))] = (match (markOk xs b : Bool) with
  | true => some ⟨[.fresh 2 ⟨.i64, marksOf xs b⟩, .el (.sc (.bo true))], none⟩
  | false => some ⟨[.nil, .el (.sc (.bo false))], none⟩) := by
  rw [e36]
  have hb : bins xs 3 = true → 3 ≤ xs.length ∧ xs.length ≤ 64 := fun h => by
    unfold bins at h
    simp only [Bool.and_eq_true, decide_eq_true_eq] at h
    omega
  cases h1 : bins xs 3 with
  | false => simp [markOk, h1]
  | true =>
    obtain ⟨h3, h4⟩ := hb h1
    have hx : Nat.ble xs.length big = true := big_of (by omega)
    have h2 : Nat.ble 2 xs.length = true := Nat.ble_eq_true_of_le (by omega)
    cases h5 : atLeast0 b with
    | false =>
      unfold markOk
      rw [h1, h5]
      have h6 := notRot_eq b
      rw [h5] at h6
      unfold notRot at h6
      cases h7 : fin b <;> cases h8 : fcmp .lss .f32 b 0 <;> simp [h7, h8] at h6 ⊢
    | true =>
      have hk : markOk xs b = true := by unfold markOk; rw [h1, h5]; rfl
      have hz : Nat.ble (0 + (xs.length - 1)) big = true := big_of (by omega)
      have e := rep_filter (marked xs b) (fun j : Nat => (j : Int)) (xs.length - 1 - 1) 1 []
      rw [List.nil_append] at e
      have e2 : ((fromTo 1 (xs.length - 1 - 1)).filter (marked xs b)).map (fun j : Nat => (j : Int)) = marksOf xs b := rfl
      rw [e2] at e
      have h6 := notRot_eq b
      rw [h5] at h6
      unfold notRot at h6
      rw [hk]
      have h7 : fin b = true := by unfold atLeast0 at h5; rw [Bool.and_eq_true] at h5; exact h5.1
      have h8 : fcmp .lss .f32 b 0 = false := by rw [h7] at h6; simpa using h6
      simp only [hx, hz, h2, e, h7, h8, List.length_nil, decide_true, Bool.and_self, Bool.not_true]
theorem c36 (xs : List Nat) (b : Nat) (k : List RV → R) (out : Out) (h : k [.fresh 2 ⟨.i64, orNil (markOk xs b) (marksOf xs b)⟩, .el (.sc (.bo (markOk xs b)))] = some out) : ∃ rs, Real Try.prog 36 ∧ COK Try.prog 36 [.vw none ⟨.f32, xs⟩, .el (.sc (.fl .f32 b))] rs ∧ k rs = some out := by
  cases g0 : (markOk xs b : Bool) with
  | true =>
    rw [g0] at h
    exact ⟨_, real Try.func36 (by kernel_rfl), fn_ok tok6 (A := a36) (L := l36) (r := none) Try.func36 (by kernel_rfl) (by kernel_rfl) (loops1 (by kernel_rfl) lk36) (by rw [s36, g0]; rfl), h⟩
  | false =>
    rw [g0] at h
    exact ⟨_, real Try.func36 (by kernel_rfl), COK.nil (fn_ok tok6 (A := a36) (L := l36) (r := none) Try.func36 (by kernel_rfl) (by kernel_rfl) (loops1 (by kernel_rfl) lk36) (by rw [s36, g0])), h⟩

/-! impl.WaveAt -/
def a85 : Ann := ann [(5, [0, 1, 6, 7], [6])] [4, 5] 0
def lp85 : St → (Ex → St → R) → R := fun s k => match s with
  | ⟨[(0, .fv (.vw (some 0) ⟨.f32, xs⟩)), (1, .fv (.el (.sc (.fl .f32 p)))), (6, .fv (.el (.sc (.fl .f32 x)))), (7, .fv (.el (.sc (.int .i64 i))))], []⟩ => (match (decide (i = (xs.length : Int) - 1) && Nat.ble xs.length big : Bool) with
    | true => k (.exit 0) ⟨[(6, .fv (.el (.sc (.fl .f32 (horner p x xs)))))], []⟩
    | false => none)
  | _ => none
def l85 : Loops := fun key s k => bif Nat.beq key 5 then lp85 s k else none
theorem st85 (xs : List Nat) (p : Nat) (x : Nat) (i : Int) (m : Nat) (k : Ex → St → R) : iterK a85 [0, 1, 6, 7] [6] (codeK T6 a85 l85 Try.f85.ntmps (loopAt Try.f85 0)) (m + 1) ⟨[(0, .fv (.vw (some 0) ⟨.f32, xs⟩)), (1, .fv (.el (.sc (.fl .f32 p)))), (6, .fv (.el (.sc (.fl .f32 x)))), (7, .fv (.el (.sc (.int .i64 i))))], []⟩ k = (match (decide ((i : Int) ≥ 0) : Bool) with
  | true => (match (decide (0 ≤ (i : Int) ∧ (i : Int) < (xs.length : Int)) && true : Bool) with
    | true => (match (xs : List Nat)[Int.toNat i]? with
      | some x1 => iterK a85 [0, 1, 6, 7] [6] (codeK T6 a85 l85 Try.f85.ntmps (loopAt Try.f85 0)) m ⟨[(0, .fv (.vw (some 0) ⟨.f32, xs⟩)), (1, .fv (.el (.sc (.fl .f32 p)))), (6, .fv (.el (.sc (.fl .f32 (fop .add .f32 (fop .mul .f32 x p) x1))))), (7, .fv (.el (.sc (.int .i64 (IntKind.i64.wrap (i - 1))))))], []⟩ k
      | none => none)
    | false => none)
  | false => k (.exit 0) ⟨[(6, .fv (.el (.sc (.fl .f32 x))))], []⟩) := by kernel_rfl
theorem ind85 (xs : List Nat) (p : Nat) (hx : Nat.ble xs.length big = true) (k : Ex → St → R) : ∀ (j : Nat) (x : Nat), j ≤ xs.length → iterK a85 [0, 1, 6, 7] [6] (codeK T6 a85 l85 Try.f85.ntmps (loopAt Try.f85 0)) (j + 1) ⟨[(0, .fv (.vw (some 0) ⟨.f32, xs⟩)), (1, .fv (.el (.sc (.fl .f32 p)))), (6, .fv (.el (.sc (.fl .f32 x)))), (7, .fv (.el (.sc (.int .i64 ((j : Int) - 1)))))], []⟩ k =
    k (.exit 0) ⟨[(6, .fv (.el (.sc (.fl .f32 (horner p x (xs.take j))))))], []⟩ := by
  intro j
  induction j with
  | zero =>
    intro x hj
    have h1 : ¬ (((0 : Nat) : Int) - 1 ≥ 0) := by omega
    rw [st85]
    simp [horner]
  | succ j ih =>
    intro x hj
    have hlt : j < xs.length := by omega
    have hxl := Nat.le_of_ble_eq_true hx
    unfold big at hxl
    have e1 : ((j + 1 : Nat) : Int) - 1 = (j : Int) := by omega
    rw [e1, st85]
    have h1 : ((j : Int) ≥ 0) := by omega
    have h2 : (0 : Int) ≤ (j : Int) ∧ (j : Int) < (xs.length : Int) := by omega
    have hw : IntKind.i64.wrap ((j : Int) - 1) = (j : Int) - 1 := wrap64 (by omega) (by omega)
    have h3 : xs[Int.toNat (j : Int)]? = some xs[j] := by simp [hlt]
    rw [hw]
    simp only [h1, h2, h3, and_self, decide_true, Bool.and_true]
    refine (ih _ (by omega)).trans ?_
    have h5 : horner p x (xs.take (j + 1)) = horner p (fop .add .f32 (fop .mul .f32 x p) xs[j]) (xs.take j) := by
      unfold horner
      rw [List.take_succ_eq_append_getElem hlt, List.foldr_append]
      rfl
    rw [h5]

theorem lk85 : LOK T6 a85 l85 Try.f85.ntmps (loopAt Try.f85 0) := by
  intro ins outs hA s k out h
  have hA' : ([0, 1, 6, 7], [6]) = (ins, outs) := Option.some.inj ((show a85.lp (firstRegion (loopAt Try.f85 0)) = some ([0, 1, 6, 7], [6]) by kernel_rfl).symm.trans hA)
  cases hA'
  have hk : firstRegion (loopAt Try.f85 0) = 5 := by kernel_rfl
  rw [hk] at h
  change lp85 s k = some out at h
  unfold lp85 at h
  split at h
  · rename_i xs p x i
    cases hg : (decide (i = (xs.length : Int) - 1) && Nat.ble xs.length big) with
    | false => rw [hg] at h; cases h
    | true =>
      rw [hg] at h
      simp only [Bool.and_eq_true, decide_eq_true_eq] at hg
      obtain ⟨rfl, hx⟩ := hg
      refine ⟨xs.length + 1, ?_⟩
      have hh := ind85 xs p hx k xs.length x (Nat.le_refl _)
      rw [List.take_length] at hh
      exact hh.trans h
  · cases h
theorem e85 (xs : List Nat) (p : Nat) : runFn T6 a85 l85 Try.f85 [.vw none ⟨.f32, xs⟩, .el (.sc (.fl .f32 p))] = (match (!(xs.all fin && (decide (xs.length ≥ 1) && decide (xs.length ≤ 3))) : Bool) with
  | true => some ⟨[.el (.sc (.fl .f32 0)), .el (.sc (.bo false))], none⟩
  | false => (match (!(fin p) : Bool) with
    | true => some ⟨[.el (.sc (.fl .f32 0)), .el (.sc (.bo false))], none⟩
    | false => (match (decide (IntKind.i64.wrap (((xs.length : Int)) - 1) = (xs.length : Int) - 1) && Nat.ble xs.length big : Bool) with
      | true => some ⟨[.el (.sc (.fl .f32 (numOf (horner p 0 xs)))), .el (.sc (.bo (fin (horner p 0 xs))))], none⟩
      | false => none))) := by kernel_rfl
theorem s85 (xs : List Nat) (p : Nat) : runFn T6 a85 l85 Try.f85 [.vw none ⟨.f32, xs⟩, .el (.sc (.fl .f32 p))] = some ⟨[.el (.sc (.fl .f32 (orZero (((xs.all fin && (decide (xs.length ≥ 1) && decide (xs.length ≤ 3))) && fin p) && fin (horner p 0 xs)) (horner p 0 xs)))), .el (.sc (.bo (((xs.all fin && (decide (xs.length ≥ 1) && decide (xs.length ≤ 3))) && fin p) && fin (horner p 0 xs))))], none⟩ := by
  rw [e85]
  cases h : (xs.all fin && (decide (xs.length ≥ 1) && decide (xs.length ≤ 3))) with
  | false => simp [orZero]
  | true =>
    have h2 := h
    simp only [Bool.and_eq_true, decide_eq_true_eq] at h2
    have hb : Nat.ble xs.length big = true := Nat.ble_eq_true_of_le (by unfold big; omega)
    have hw : IntKind.i64.wrap ((xs.length : Int) - 1) = (xs.length : Int) - 1 := wrap64 (by omega) (by omega)
    unfold orZero numOf
    cases fin p <;> cases fin (horner p 0 xs) <;> simp [hb, hw]
theorem c85 (xs : List Nat) (p : Nat) (k : List RV → R) (out : Out) (h : k [.el (.sc (.fl .f32 (orZero (((xs.all fin && (decide (xs.length ≥ 1) && decide (xs.length ≤ 3))) && fin p) && fin (horner p 0 xs)) (horner p 0 xs)))), .el (.sc (.bo (((xs.all fin && (decide (xs.length ≥ 1) && decide (xs.length ≤ 3))) && fin p) && fin (horner p 0 xs))))] = some out) : ∃ rs, Real Try.prog 85 ∧ COK Try.prog 85 [.vw none ⟨.f32, xs⟩, .el (.sc (.fl .f32 p))] rs ∧ k rs = some out := by
  exact ⟨_, real Try.func85 (by kernel_rfl), fn_ok tok6 (A := a85) (L := l85) (r := none) Try.func85 (by kernel_rfl) (by kernel_rfl) (loops1 (by kernel_rfl) lk85) (by rw [s85]), h⟩

def S7 : SFn := fun f args k => match f, args with
  | 17, [.vw none ⟨.f32, xs⟩, .el (.sc (.int .i64 n))] => k [.fresh 37 ⟨.f32, orNil (padOk xs n) (padX xs n)⟩, .el (.sc (.bo (padOk xs n)))]
  | 22, [.vw none ⟨.f32, xs⟩] => k [.fresh 37 ⟨.f32, orNil (bendOk xs) (bends xs)⟩, .el (.sc (.bo (bendOk xs)))]
  | 29, [.vw none ⟨.f32, xs⟩, .el (.sc (.int .i64 i))] => k [.el (.sc (.fl .f32 (orZero (halfOk xs i) (halfX xs i)))), .el (.sc (.bo (halfOk xs i)))]
  | 32, [.vw none ⟨.f32, xs⟩, .vw none ⟨.f32, ys⟩] => k [.el (.sc (.fl .f32 (orZero (lampOk xs ys) (lampBase xs ys)))), .el (.sc (.fl .f32 (orZero (lampOk xs ys) (lampSlope xs ys)))), .el (.sc (.bo (lampOk xs ys)))]
  | 36, [.vw none ⟨.f32, xs⟩, .el (.sc (.fl .f32 b))] => k [.fresh 2 ⟨.i64, orNil (markOk xs b) (marksOf xs b)⟩, .el (.sc (.bo (markOk xs b)))]
  | 85, [.vw none ⟨.f32, xs⟩, .el (.sc (.fl .f32 p))] => k [.el (.sc (.fl .f32 (orZero (((xs.all fin && (decide (xs.length ≥ 1) && decide (xs.length ≤ 3))) && fin p) && fin (horner p 0 xs)) (horner p 0 xs)))), .el (.sc (.bo (((xs.all fin && (decide (xs.length ≥ 1) && decide (xs.length ≤ 3))) && fin p) && fin (horner p 0 xs))))]
  | _, _ => S6 f args k
abbrev M7 : MFn := M6
def T7 : TT := tab.T S7 muts M7
theorem tok7 : TOK Try.prog T7 := by
  refine (tab_ok tabok).tok (fun f args k out h => ?_) (fun f vec args k out h => ?_)
  · change S7 f args k = some out at h
    unfold S7 at h
    split at h
    · exact c17 _ _ k out h
    · exact c22 _ k out h
    · exact c29 _ _ k out h
    · exact c32 _ _ k out h
    · exact c36 _ _ k out h
    · exact c85 _ _ k out h
    · exact tok6.S f args k out h
  · exact tok6.M f vec args k out h

end Go.Sm.Ytdnfgoolapikmaa
