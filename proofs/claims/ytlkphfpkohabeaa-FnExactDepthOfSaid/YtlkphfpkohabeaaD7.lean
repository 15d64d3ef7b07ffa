/- What the functions hand back: level 6. -/
import Derived.Test.YtlkphfpkohabeaaD6
namespace Go.Sm.Ytlkphfpkohabeaa
open Go Go.Sm Go.RowKit Go.Proofs

/-! impl.DepthOf -/
def a40 : Ann := ann [(5, [1, 6, 35, 36, 37], [6])] [4, 5] 0
def lp40 : St → (Ex → St → R) → R := fun s k => match s with
  | ⟨[(1, .fv (.vw (some 1) ⟨.f32, ys⟩)), (6, .fv (.own 0)), (35, .fv (.vw (some 0) ⟨.f32, xs⟩)), (36, .fv (.el (.sc (.int .i64 n)))), (37, .fv (.el (.sc (.int .i64 i))))], [some ⟨30, ⟨.f32, zs⟩⟩]⟩ => (match ((decide (n = (xs.length : Int)) && (decide (i = 0) && (Nat.ble xs.length big && (Nat.ble xs.length ys.length && (xs.all above && (ys.all above && Nat.ble ((zs : List Nat).length + xs.length) big)))))) : Bool) with
    | true => k (.exit 0) ⟨[(6, .fv (.own 0))], [some ⟨30, ⟨.f32, rep (fun j zs => zs ++ [depthAt xs ys j]) (xs.length) 0 ((zs : List Nat) : (List Nat))⟩⟩]⟩
    | false => none)
  | _ => none
def l40 : Loops := fun key s k => bif Nat.beq key 5 then lp40 s k else none
theorem st40 (ys : List Nat) (xs : List Nat) (n : Int) (i : Int) (zs : List Nat) (m : Nat) (k : Ex → St → R) : iterK a40 [1, 6, 35, 36, 37] [6] (codeK T6 a40 l40 Try.f40.ntmps (loopAt Try.f40 0)) (m + 1) ⟨[(1, .fv (.vw (some 1) ⟨.f32, ys⟩)), (6, .fv (.own 0)), (35, .fv (.vw (some 0) ⟨.f32, xs⟩)), (36, .fv (.el (.sc (.int .i64 n)))), (37, .fv (.el (.sc (.int .i64 i))))], [some ⟨30, ⟨.f32, zs⟩⟩]⟩ k = (match (decide ((i : Int) < n) : Bool) with
  | true => (match (decide (0 ≤ (i : Int) ∧ (i : Int) < (xs.length : Int)) && true : Bool) with
    | true => (match (xs : List Nat)[Int.toNat i]? with
      | some x1 => (match (decide (0 ≤ (i : Int) ∧ (i : Int) < (ys.length : Int)) && true : Bool) with
        | true => (match (ys : List Nat)[Int.toNat i]? with
          | some x2 => (match (logOk (fop .quo .f32 x1 x2) : Bool) with
            | true => (match (Nat.beq 30 30 && decide ((zs : List Nat).length + ([logF (fop .quo .f32 x1 x2)] : List Nat).length ≤ 1099511627776) : Bool) with
              | true => iterK a40 [1, 6, 35, 36, 37] [6] (codeK T6 a40 l40 Try.f40.ntmps (loopAt Try.f40 0)) m ⟨[(1, .fv (.vw (some 1) ⟨.f32, ys⟩)), (6, .fv (.own 0)), (35, .fv (.vw (some 0) ⟨.f32, xs⟩)), (36, .fv (.el (.sc (.int .i64 n)))), (37, .fv (.el (.sc (.int .i64 (IntKind.i64.wrap (i + 1))))))], [some ⟨30, ⟨.f32, (zs : List Nat) ++ ([logF (fop .quo .f32 x1 x2)])⟩⟩]⟩ k
              | false => none)
            | false => none)
          | none => none)
        | false => none)
      | none => none)
    | false => none)
  | false => k (.exit 0) ⟨[(6, .fv (.own 0))], [some ⟨30, ⟨.f32, zs⟩⟩]⟩) := by kernel_rfl
theorem ind40 (ys : List Nat) (xs : List Nat) (hx : (Nat.ble xs.length big) = true) (hl : (Nat.ble xs.length ys.length) = true) (hxa : (xs.all above) = true) (hya : (ys.all above) = true) (k : Ex → St → R) : ∀ (m j : Nat) (zs : List Nat), zs.length + m ≤ 1099511627776 → 0 ≤ j → j + m = xs.length → iterK a40 [1, 6, 35, 36, 37] [6] (codeK T6 a40 l40 Try.f40.ntmps (loopAt Try.f40 0)) (m + 1) ⟨[(1, .fv (.vw (some 1) ⟨.f32, ys⟩)), (6, .fv (.own 0)), (35, .fv (.vw (some 0) ⟨.f32, xs⟩)), (36, .fv (.el (.sc (.int .i64 (xs.length : Int))))), (37, .fv (.el (.sc (.int .i64 (j : Int)))))], [some ⟨30, ⟨.f32, zs⟩⟩]⟩ k =
    k (.exit 0) ⟨[(6, .fv (.own 0))], [some ⟨30, ⟨.f32, rep (fun j zs => zs ++ [depthAt xs ys j]) m j (zs : (List Nat))⟩⟩]⟩ := by
  intro m
  induction m with
  | zero =>
    intro j zs hs0 hlo hj
    have hx_ := big_le hx
    have hl_ := Nat.le_of_ble_eq_true hl
    have h1 : ¬ (((j : Int) < (xs.length : Int))) := by omega
    rw [st40]
    simp only [h1, rep, decide_false, List.length_singleton] <;> rfl
  | succ m ih =>
    intro j zs hs0 hlo hj
    have hx_ := big_le hx
    have hl_ := Nat.le_of_ble_eq_true hl
    have h1 : ((j : Int) < (xs.length : Int)) := by omega
    have hbq : Nat.beq 30 30 = true := rfl
    have hzl : zs.length + 1 ≤ 1099511627776 := by omega
    have xb : (0 : Int) ≤ ((j : Nat) : Int) ∧ ((j : Nat) : Int) < (xs.length : Int) := by omega
    have xq : xs[Int.toNat ((j : Nat) : Int)]? = some (xs.getD (j) 0) := getI (by omega)
    have xp : xs[j]? = some (xs.getD (j) 0) := getI2 (by omega)
    have yl : j < ys.length := by omega
    have yb : (0 : Int) ≤ ((j : Nat) : Int) ∧ ((j : Nat) : Int) < (ys.length : Int) := by omega
    have yq : ys[Int.toNat ((j : Nat) : Int)]? = some (ys.getD (j) 0) := getI (by omega)
    have yp : ys[j]? = some (ys.getD (j) 0) := getI2 (by omega)
    have lo : logOk (fop .quo .f32 (xs.getD j 0) (ys.getD j 0)) = true := quo_logOk (above_getD hxa (by omega)) (above_getD hya (by omega))
    have wn : IntKind.i64.wrap ((j : Int) + 1) = ((j + 1 : Nat) : Int) := wrapN (by omega) (by omega)
    rw [st40]
    simp only [h1, wn, hbq, hzl, xb, xq, xp, yl, yb, yq, yp, lo, and_self, decide_true, Bool.and_true, Int.le_refl, List.length_singleton]
    exact ih (j + 1) _ (by simp; omega) (by omega) (by omega)

theorem lk40 : LOK T6 a40 l40 Try.f40.ntmps (loopAt Try.f40 0) := by
  intro ins outs hA s k out h
  have hA' : ([1, 6, 35, 36, 37], [6]) = (ins, outs) := Option.some.inj ((show a40.lp (firstRegion (loopAt Try.f40 0)) = some ([1, 6, 35, 36, 37], [6]) by kernel_rfl).symm.trans hA)
  cases hA'
  have hk : firstRegion (loopAt Try.f40 0) = 5 := by kernel_rfl
  rw [hk] at h
  change lp40 s k = some out at h
  unfold lp40 at h
  split at h
  · rename_i ys xs n i zs
    cases hg : (decide (n = (xs.length : Int)) && (decide (i = 0) && (Nat.ble xs.length big && (Nat.ble xs.length ys.length && (xs.all above && (ys.all above && Nat.ble (zs.length + xs.length) big)))))) with
    | false => rw [hg] at h; cases h
    | true =>
      rw [hg] at h
      simp only [Bool.and_eq_true, decide_eq_true_eq] at hg
      obtain ⟨rfl, rfl, hx, hl, hxa, hya, gs0⟩ := hg
      refine ⟨(xs.length) + 1, ?_⟩
      have hx_ := big_le hx
      have hl_ := Nat.le_of_ble_eq_true hl
      have gs0_ := big_le gs0
      exact (ind40 ys xs hx hl hxa hya k (xs.length) 0 zs (by omega) (by omega) (by omega)).trans h
  · cases h
theorem e40 (xs : List Nat) (ys : List Nat) : runFn T6 a40 l40 Try.f40 [.vw none ⟨.f32, xs⟩, .vw none ⟨.f32, ys⟩] = (match (decide (((xs.length : Int) : Int) < 1) : Bool) with
  | true => some ⟨[.nil, .el (.sc (.bo false))], none⟩
  | false => (match (decide (((xs.length : Int) : Int) > 64) : Bool) with
    | true => some ⟨[.nil, .el (.sc (.bo false))], none⟩
    | false => (match (!(((ys.length : Int) : Int) == (xs.length : Int)) : Bool) with
      | true => some ⟨[.nil, .el (.sc (.bo false))], none⟩
      | false => (match (Nat.ble xs.length big : Bool) with
        | true => (match (!(xs.all above) : Bool) with
          | true => some ⟨[.nil, .el (.sc (.bo false))], none⟩
          | false => (match (Nat.ble ys.length big : Bool) with
            | true => (match (!(ys.all above) : Bool) with
              | true => some ⟨[.nil, .el (.sc (.bo false))], none⟩
              | false => (match ((decide (((xs.length : Int)) = (xs.length : Int)) && (decide (0 = 0) && (Nat.ble xs.length big && (Nat.ble xs.length ys.length && (xs.all above && (ys.all above && Nat.ble (([] : List Nat).length + xs.length) big)))))) : Bool) with
                | true => (match (Nat.ble (rep (fun j zs => zs ++ [depthAt xs ys j]) (xs.length) 0 (([] : List Nat) : (List Nat))).length big : Bool) with
                  | true => (match ((rep (fun j zs => zs ++ [depthAt xs ys j]) (xs.length) 0 (([] : List Nat) : (List Nat))).all fin : Bool) with
                    | true => some ⟨[.fresh 30 ⟨.f32, rep (fun j zs => zs ++ [depthAt xs ys j]) (xs.length) 0 (([] : List Nat) : (List Nat))⟩, .el (.sc (.bo true))], none⟩
                    | false => some ⟨[.nil, .el (.sc (.bo false))], none⟩)
                  | false => none)
                | false => none))
            | false => none))
        | false => none)))) := by kernel_rfl
theorem s40 (xs : List Nat) (ys : List Nat) : runFn T6 a40 l40 Try.f40 [.vw none ⟨.f32, xs⟩, .vw none ⟨.f32, ys⟩] = (match (depthOk xs ys : Bool) with
  | true => some ⟨[.fresh 30 ⟨.f32, depthX xs ys⟩, .el (.sc (.bo true))], none⟩
  | false => some ⟨[.nil, .el (.sc (.bo false))], none⟩) := by
  rw [e40]
  unfold depthOk
  have l1 := len_beq xs.length ys.length
  have l2 := len_beq ys.length xs.length
  have l3 : decide (xs.length = ys.length) = decide (ys.length = xs.length) := by rw [Bool.eq_iff_iff, decide_eq_true_eq, decide_eq_true_eq]; omega
  rw [l3] at l1
  cases ha : depthAsk xs ys with
  | false =>
    unfold depthAsk at ha
    by_cases c1 : (xs.length : Int) < 1
    · simp only [c1, decide_true]
      rfl
    · by_cases c2 : (xs.length : Int) > 64
      · simp only [c1, c2, decide_true, decide_false]
        rfl
      · have hx : Nat.ble xs.length big = true := big_of (by omega)
        rw [decide_eq_true (show 1 ≤ xs.length by omega), decide_eq_true (show xs.length ≤ 64 by omega), Bool.true_and, Bool.true_and] at ha
        simp only [c1, c2, l2, hx, decide_false]
        cases hd : decide (ys.length = xs.length) with
        | false => rfl
        | true =>
          have hy : Nat.ble ys.length big = true := big_of (by have := of_decide_eq_true hd; omega)
          rw [hd, Bool.true_and] at ha
          simp only [hy]
          cases h4 : xs.all above with
          | false => rfl
          | true =>
            rw [h4, Bool.true_and] at ha
            rw [ha]
            rfl
  | true =>
    have hb := ha
    unfold depthAsk at hb
    simp only [Bool.and_eq_true, decide_eq_true_eq] at hb
    obtain ⟨b1, b2, b3, b4, b5⟩ := hb
    have hx : Nat.ble xs.length big = true := big_of (by omega)
    have hy : Nat.ble ys.length big = true := big_of (by omega)
    have hl : Nat.ble xs.length ys.length = true := Nat.ble_eq_true_of_le (by omega)
    have hz : Nat.ble (0 + xs.length) big = true := big_of (by omega)
    have hr : Nat.ble (depthX xs ys).length big = true := big_of (by rw [depthX_len]; omega)
    have hd : decide (ys.length = xs.length) = true := decide_eq_true b3
    have hbx : bins xs 1 = true := by
      unfold bins
      rw [above_fin b4, decide_eq_true b2, decide_eq_true (show (xs.length : Int) ≥ 1 by omega)]
      rfl
    have hby : bins ys 1 = true := by
      unfold bins
      rw [above_fin b5, decide_eq_true (show ys.length ≤ 64 by omega), decide_eq_true (show (ys.length : Int) ≥ 1 by omega)]
      rfl
    have c1 : ¬ ((xs.length : Int) < 1) := by omega
    have c2 : ¬ ((xs.length : Int) > 64) := by omega
    have e := rep_map (depthAt xs ys) xs.length 0 []
    have e2 : (fromTo 0 xs.length).map (depthAt xs ys) = depthX xs ys := rfl
    rw [List.nil_append, e2] at e
    simp only [hbx, hby, l1, l2, hd, hx, hy, hl, b4, b5, c1, c2, e, hz, hr, List.length_nil, decide_true, decide_false, Bool.and_self, Bool.not_true, Bool.true_and, Bool.and_true]
    try (cases h6 : (depthX xs ys).all fin <;> simp)
theorem c40 (xs : List Nat) (ys : List Nat) (k : List RV → R) (out : Out) (h : k [.fresh 30 ⟨.f32, orNil (depthOk xs ys) (depthX xs ys)⟩, .el (.sc (.bo (depthOk xs ys)))] = some out) : ∃ rs, Real Try.prog 40 ∧ COK Try.prog 40 [.vw none ⟨.f32, xs⟩, .vw none ⟨.f32, ys⟩] rs ∧ k rs = some out := by
  cases g0 : (depthOk xs ys : Bool) with
  | true =>
    rw [g0] at h
    exact ⟨_, real Try.func40 (by kernel_rfl), fn_ok tok6 (A := a40) (L := l40) (r := none) Try.func40 (by kernel_rfl) (by kernel_rfl) (loops1 (by kernel_rfl) lk40) (by rw [s40, g0]; rfl), h⟩
  | false =>
    rw [g0] at h
    exact ⟨_, real Try.func40 (by kernel_rfl), COK.nil (fn_ok tok6 (A := a40) (L := l40) (r := none) Try.func40 (by kernel_rfl) (by kernel_rfl) (loops1 (by kernel_rfl) lk40) (by rw [s40, g0] <;> rfl)), h⟩

def S7 : SFn := fun f args k => match f, args with
  | 40, [.vw none ⟨.f32, xs⟩, .vw none ⟨.f32, ys⟩] => k [.fresh 30 ⟨.f32, orNil (depthOk xs ys) (depthX xs ys)⟩, .el (.sc (.bo (depthOk xs ys)))]
  | _, _ => S6 f args k
abbrev M7 : MFn := M6
def T7 : TT := tab.T S7 muts M7
theorem tok7 : TOK Try.prog T7 := by
  refine (tab_ok tabok).tok (fun f args k out h => ?_) (fun f vec args k out h => ?_)
  · change S7 f args k = some out at h
    unfold S7 at h
    split at h
    · exact (fun k out h => cok_call (c40 _ _ k out h)) k out h
    · exact tok6.S f args k out h
  · exact tok6.M f vec args k out h

end Go.Sm.Ytlkphfpkohabeaa
