/- What the functions hand back: level 5. -/
import Derived.Test.YtlkphfpkohabeaaD5
namespace Go.Sm.Ytlkphfpkohabeaa
open Go Go.Sm Go.RowKit Go.Proofs

/-! spec.DepthOf -/
def a39 : Ann := ann [(5, [0, 1, 6, 7], [6])] [4, 5] 0
def lp39 : St → (Ex → St → R) → R := fun s k => match s with
  | ⟨[(0, .fv (.vw (some 0) ⟨.f32, xs⟩)), (1, .fv (.vw (some 1) ⟨.f32, ys⟩)), (6, .fv (.own 0)), (7, .fv (.el (.sc (.int .i64 i))))], [some ⟨30, ⟨.f32, zs⟩⟩]⟩ => (match ((decide (i = 0) && (Nat.ble xs.length big && (Nat.ble xs.length ys.length && (xs.all above && (ys.all above && Nat.ble ((zs : List Nat).length + xs.length) big))))) : Bool) with
    | true => k (.exit 0) ⟨[(6, .fv (.own 0))], [some ⟨30, ⟨.f32, rep (fun j zs => zs ++ [depthAt xs ys j]) (xs.length) 0 ((zs : List Nat) : (List Nat))⟩⟩]⟩
    | false => none)
  | _ => none
def l39 : Loops := fun key s k => bif Nat.beq key 5 then lp39 s k else none
theorem st39 (xs : List Nat) (ys : List Nat) (i : Int) (zs : List Nat) (m : Nat) (k : Ex → St → R) : iterK a39 [0, 1, 6, 7] [6] (codeK T5 a39 l39 Try.f39.ntmps (loopAt Try.f39 0)) (m + 1) ⟨[(0, .fv (.vw (some 0) ⟨.f32, xs⟩)), (1, .fv (.vw (some 1) ⟨.f32, ys⟩)), (6, .fv (.own 0)), (7, .fv (.el (.sc (.int .i64 i))))], [some ⟨30, ⟨.f32, zs⟩⟩]⟩ k = (match (decide ((i : Int) < (xs.length : Int)) : Bool) with
  | true => (match (decide (0 ≤ (i : Int) ∧ (i : Int) < (xs.length : Int)) && true : Bool) with
    | true => (match (xs : List Nat)[Int.toNat i]? with
      | some x1 => (match (decide (0 ≤ (i : Int) ∧ (i : Int) < (ys.length : Int)) && true : Bool) with
        | true => (match (ys : List Nat)[Int.toNat i]? with
          | some x2 => (match (logOk (fop .quo .f32 x1 x2) : Bool) with
            | true => (match (Nat.beq 30 30 && decide ((zs : List Nat).length + ([logF (fop .quo .f32 x1 x2)] : List Nat).length ≤ 1099511627776) : Bool) with
              | true => iterK a39 [0, 1, 6, 7] [6] (codeK T5 a39 l39 Try.f39.ntmps (loopAt Try.f39 0)) m ⟨[(0, .fv (.vw (some 0) ⟨.f32, xs⟩)), (1, .fv (.vw (some 1) ⟨.f32, ys⟩)), (6, .fv (.own 0)), (7, .fv (.el (.sc (.int .i64 (IntKind.i64.wrap (i + 1))))))], [some ⟨30, ⟨.f32, (zs : List Nat) ++ ([logF (fop .quo .f32 x1 x2)])⟩⟩]⟩ k
              | false => none)
            | false => none)
          | none => none)
        | false => none)
      | none => none)
    | false => none)
  | false => k (.exit 0) ⟨[(6, .fv (.own 0))], [some ⟨30, ⟨.f32, zs⟩⟩]⟩) := by kernel_rfl
theorem ind39 (xs : List Nat) (ys : List Nat) (hx : (Nat.ble xs.length big) = true) (hl : (Nat.ble xs.length ys.length) = true) (hxa : (xs.all above) = true) (hya : (ys.all above) = true) (k : Ex → St → R) : ∀ (m j : Nat) (zs : List Nat), zs.length + m ≤ 1099511627776 → 0 ≤ j → j + m = xs.length → iterK a39 [0, 1, 6, 7] [6] (codeK T5 a39 l39 Try.f39.ntmps (loopAt Try.f39 0)) (m + 1) ⟨[(0, .fv (.vw (some 0) ⟨.f32, xs⟩)), (1, .fv (.vw (some 1) ⟨.f32, ys⟩)), (6, .fv (.own 0)), (7, .fv (.el (.sc (.int .i64 (j : Int)))))], [some ⟨30, ⟨.f32, zs⟩⟩]⟩ k =
    k (.exit 0) ⟨[(6, .fv (.own 0))], [some ⟨30, ⟨.f32, rep (fun j zs => zs ++ [depthAt xs ys j]) m j (zs : (List Nat))⟩⟩]⟩ := by
  intro m
  induction m with
  | zero =>
    intro j zs hs0 hlo hj
    have hx_ := big_le hx
    have hl_ := Nat.le_of_ble_eq_true hl
    have h1 : ¬ (((j : Int) < (xs.length : Int))) := by omega
    rw [st39]
    simp only [h1, rep, decide_false, List.length_singleton] <;> rfl
  | succ m ih =>
    intro j zs hs0 hlo hj
    have hx_ := big_le hx
    have hl_ := Nat.le_of_ble_eq_true hl
    have h1 : ((j : Int) < (xs.length : Int)) := by omega
    have hbq : Nat.beq 30 30 = true := rfl
    have hzl : zs.length + 1 ≤ 1099511627776 := by omega
    have xb : (0 : Int) ≤ ((j : Nat) : Int) ∧ ((j : Nat) : Int) < (xs.length : Int) := by omega
    have xq : xs[Int.toNat ((j : Nat) : Int)]? = some (xs.getD (j) 0) := getI (by omega)
    have xp : xs[j]? = some (xs.getD (j) 0) := getI2 (by omega)
    have yl : j < ys.length := by omega
    have yb : (0 : Int) ≤ ((j : Nat) : Int) ∧ ((j : Nat) : Int) < (ys.length : Int) := by omega
    have yq : ys[Int.toNat ((j : Nat) : Int)]? = some (ys.getD (j) 0) := getI (by omega)
    have yp : ys[j]? = some (ys.getD (j) 0) := getI2 (by omega)
    have lo : logOk (fop .quo .f32 (xs.getD j 0) (ys.getD j 0)) = true := quo_logOk (above_getD hxa (by omega)) (above_getD hya (by omega))
    have wn : IntKind.i64.wrap ((j : Int) + 1) = ((j + 1 : Nat) : Int) := wrapN (by omega) (by omega)
    rw [st39]
    simp only [h1, wn, hbq, hzl, xb, xq, xp, yl, yb, yq, yp, lo, and_self, decide_true, Bool.and_true, Int.le_refl, List.length_singleton]
    exact ih (j + 1) _ (by simp; omega) (by omega) (by omega)

theorem lk39 : LOK T5 a39 l39 Try.f39.ntmps (loopAt Try.f39 0) := by
  intro ins outs hA s k out h
  have hA' : ([0, 1, 6, 7], [6]) = (ins, outs) := Option.some.inj ((show a39.lp (firstRegion (loopAt Try.f39 0)) = some ([0, 1, 6, 7], [6]) by kernel_rfl).symm.trans hA)
  cases hA'
  have hk : firstRegion (loopAt Try.f39 0) = 5 := by kernel_rfl
  rw [hk] at h
  change lp39 s k = some out at h
  unfold lp39 at h
  split at h
  · rename_i xs ys i zs
    cases hg : (decide (i = 0) && (Nat.ble xs.length big && (Nat.ble xs.length ys.length && (xs.all above && (ys.all above && Nat.ble (zs.length + xs.length) big))))) with
    | false => rw [hg] at h; cases h
    | true =>
      rw [hg] at h
      simp only [Bool.and_eq_true, decide_eq_true_eq] at hg
      obtain ⟨rfl, hx, hl, hxa, hya, gs0⟩ := hg
      refine ⟨(xs.length) + 1, ?_⟩
      have hx_ := big_le hx
      have hl_ := Nat.le_of_ble_eq_true hl
      have gs0_ := big_le gs0
      exact (ind39 xs ys hx hl hxa hya k (xs.length) 0 zs (by omega) (by omega) (by omega)).trans h
  · cases h
theorem e39 (xs : List Nat) (ys : List Nat) : runFn T5 a39 l39 Try.f39 [.vw none ⟨.f32, xs⟩, .vw none ⟨.f32, ys⟩] = (match (!(bins xs 1) : Bool) with
  | true => some ⟨[.nil, .el (.sc (.bo false))], none⟩
  | false => (match (!(bins ys 1) : Bool) with
    | true => some ⟨[.nil, .el (.sc (.bo false))], none⟩
    | false => (match (!(((xs.length : Int) : Int) == (ys.length : Int)) : Bool) with
      | true => some ⟨[.nil, .el (.sc (.bo false))], none⟩
      | false => (match (Nat.ble xs.length big : Bool) with
        | true => (match (!(xs.all above) : Bool) with
          | true => some ⟨[.nil, .el (.sc (.bo false))], none⟩
          | false => (match (Nat.ble ys.length big : Bool) with
            | true => (match (!(ys.all above) : Bool) with
              | true => some ⟨[.nil, .el (.sc (.bo false))], none⟩
              | false => (match ((decide (0 = 0) && (Nat.ble xs.length big && (Nat.ble xs.length ys.length && (xs.all above && (ys.all above && Nat.ble (([] : List Nat).length + xs.length) big))))) : Bool) with
                | true => (match (Nat.ble (rep (fun j zs => zs ++ [depthAt xs ys j]) (xs.length) 0 (([] : List Nat) : (List Nat))).length big : Bool) with
                  | true => (match ((rep (fun j zs => zs ++ [depthAt xs ys j]) (xs.length) 0 (([] : List Nat) : (List Nat))).all fin : Bool) with
                    | true => some ⟨[.fresh 30 ⟨.f32, rep (fun j zs => zs ++ [depthAt xs ys j]) (xs.length) 0 (([] : List Nat) : (List Nat))⟩, .el (.sc (.bo true))], none⟩
                    | false => some ⟨[.nil, .el (.sc (.bo false))], none⟩)
                  | false => none)
                | false => none))
            | false => none))
        | false => none)))) := by kernel_rfl
theorem s39 (xs : List Nat) (ys : List Nat) : runFn T5 a39 l39 Try.f39 [.vw none ⟨.f32, xs⟩, .vw none ⟨.f32, ys⟩] = (match (depthOk xs ys : Bool) with
  | true => some ⟨[.fresh 30 ⟨.f32, depthX xs ys⟩, .el (.sc (.bo true))], none⟩
  | false => some ⟨[.nil, .el (.sc (.bo false))], none⟩) := by
  rw [e39]
  unfold depthOk
  have l1 := len_beq xs.length ys.length
  have l2 := len_beq ys.length xs.length
  have l3 : decide (xs.length = ys.length) = decide (ys.length = xs.length) := by rw [Bool.eq_iff_iff, decide_eq_true_eq, decide_eq_true_eq]; omega
  rw [l3] at l1
  cases ha : depthAsk xs ys with
  | false =>
    unfold depthAsk at ha
    cases h1 : bins xs 1 with
    | false => rfl
    | true =>
      cases h2 : bins ys 1 with
      | false => rfl
      | true =>
        have b1 := h1
        unfold bins at b1
        simp only [Bool.and_eq_true, decide_eq_true_eq] at b1
        have b2 := h2
        unfold bins at b2
        simp only [Bool.and_eq_true, decide_eq_true_eq] at b2
        have hx : Nat.ble xs.length big = true := big_of (by omega)
        have hy : Nat.ble ys.length big = true := big_of (by omega)
        rw [decide_eq_true (show 1 ≤ xs.length by omega), decide_eq_true (show xs.length ≤ 64 by omega), Bool.true_and, Bool.true_and] at ha
        simp only [l1, hx, hy]
        cases hd : decide (ys.length = xs.length) with
        | false => rfl
        | true =>
          rw [hd, Bool.true_and] at ha
          cases h4 : xs.all above with
          | false => rfl
          | true =>
            rw [h4, Bool.true_and] at ha
            rw [ha]
            rfl
  | true =>
    have hb := ha
    unfold depthAsk at hb
    simp only [Bool.and_eq_true, decide_eq_true_eq] at hb
    obtain ⟨b1, b2, b3, b4, b5⟩ := hb
    have hx : Nat.ble xs.length big = true := big_of (by omega)
    have hy : Nat.ble ys.length big = true := big_of (by omega)
    have hl : Nat.ble xs.length ys.length = true := Nat.ble_eq_true_of_le (by omega)
    have hz : Nat.ble (0 + xs.length) big = true := big_of (by omega)
    have hr : Nat.ble (depthX xs ys).length big = true := big_of (by rw [depthX_len]; omega)
    have hd : decide (ys.length = xs.length) = true := decide_eq_true b3
    have hbx : bins xs 1 = true := by
      unfold bins
      rw [above_fin b4, decide_eq_true b2, decide_eq_true (show (xs.length : Int) ≥ 1 by omega)]
      rfl
    have hby : bins ys 1 = true := by
      unfold bins
      rw [above_fin b5, decide_eq_true (show ys.length ≤ 64 by omega), decide_eq_true (show (ys.length : Int) ≥ 1 by omega)]
      rfl
    have c1 : ¬ ((xs.length : Int) < 1) := by omega
    have c2 : ¬ ((xs.length : Int) > 64) := by omega
    have e := rep_map (depthAt xs ys) xs.length 0 []
    have e2 : (fromTo 0 xs.length).map (depthAt xs ys) = depthX xs ys := rfl
    rw [List.nil_append, e2] at e
    simp only [hbx, hby, l1, l2, hd, hx, hy, hl, b4, b5, c1, c2, e, hz, hr, List.length_nil, decide_true, decide_false, Bool.and_self, Bool.not_true, Bool.true_and, Bool.and_true]
    try (cases h6 : (depthX xs ys).all fin <;> simp)
theorem c39 (xs : List Nat) (ys : List Nat) (k : List RV → R) (out : Out) (h : k [.fresh 30 ⟨.f32, orNil (depthOk xs ys) (depthX xs ys)⟩, .el (.sc (.bo (depthOk xs ys)))] = some out) : ∃ rs, Real Try.prog 39 ∧ COK Try.prog 39 [.vw none ⟨.f32, xs⟩, .vw none ⟨.f32, ys⟩] rs ∧ k rs = some out := by
  cases g0 : (depthOk xs ys : Bool) with
  | true =>
    rw [g0] at h
    exact ⟨_, real Try.func39 (by kernel_rfl), fn_ok tok5 (A := a39) (L := l39) (r := none) Try.func39 (by kernel_rfl) (by kernel_rfl) (loops1 (by kernel_rfl) lk39) (by rw [s39, g0]; rfl), h⟩
  | false =>
    rw [g0] at h
    exact ⟨_, real Try.func39 (by kernel_rfl), COK.nil (fn_ok tok5 (A := a39) (L := l39) (r := none) Try.func39 (by kernel_rfl) (by kernel_rfl) (loops1 (by kernel_rfl) lk39) (by rw [s39, g0] <;> rfl)), h⟩

/-! impl.checkedNumbers -/
theorem e66 (xs : List Nat) : runFn T5 none0 noL Try.f66 [.vw none ⟨.f32, xs⟩] = (match (Nat.ble xs.length big : Bool) with
  | true => (match (!(xs.all fin) : Bool) with
    | true => some ⟨[.nil, .el (.sc (.bo false))], none⟩
    | false => some ⟨[.arg 0, .el (.sc (.bo true))], none⟩)
  | false => none) := by kernel_rfl
theorem s66 (xs : List Nat) : runFn T5 none0 noL Try.f66 [.vw none ⟨.f32, xs⟩] = (match (Nat.ble xs.length big : Bool) with
  | true => (match (xs.all fin : Bool) with
    | true => some ⟨[.arg 0, .el (.sc (.bo true))], none⟩
    | false => some ⟨[.nil, .el (.sc (.bo false))], none⟩)
  | false => none) := by
  rw [e66]
  cases Nat.ble xs.length big <;> cases xs.all fin <;> simp
theorem c66 (xs : List Nat) (k : List RV → R) (out : Out) (h : (match (Nat.ble xs.length big : Bool) with
  | true => (match (xs.all fin : Bool) with
    | true => k [.arg 0, .el (.sc (.bo true))]
    | false => k [.nil, .el (.sc (.bo false))])
  | false => none) = some out) : ∃ rs, Real Try.prog 66 ∧ COK Try.prog 66 [.vw none ⟨.f32, xs⟩] rs ∧ k rs = some out := by
  cases g0 : (Nat.ble xs.length big : Bool) with
  | true =>
    rw [g0] at h
    cases g1 : (xs.all fin : Bool) with
    | true =>
      rw [g1] at h
      exact ⟨_, real Try.func66 (by kernel_rfl), fn_ok tok5 (A := none0) (L := noL) (r := none) Try.func66 (by kernel_rfl) (by kernel_rfl) (loops0 (by kernel_rfl)) (by rw [s66, g0, g1]), h⟩
    | false =>
      rw [g1] at h
      exact ⟨_, real Try.func66 (by kernel_rfl), fn_ok tok5 (A := none0) (L := noL) (r := none) Try.func66 (by kernel_rfl) (by kernel_rfl) (loops0 (by kernel_rfl)) (by rw [s66, g0, g1]), h⟩
  | false =>
    rw [g0] at h
    cases h

def S6 : SFn := fun f args k => match f, args with
  | 39, [.vw none ⟨.f32, xs⟩, .vw none ⟨.f32, ys⟩] => k [.fresh 30 ⟨.f32, orNil (depthOk xs ys) (depthX xs ys)⟩, .el (.sc (.bo (depthOk xs ys)))]
  | 66, [.vw none ⟨.f32, xs⟩] => (match (Nat.ble xs.length big : Bool) with
    | true => (match (xs.all fin : Bool) with
      | true => k [.arg 0, .el (.sc (.bo true))]
      | false => k [.nil, .el (.sc (.bo false))])
    | false => none)
  | _, _ => S5 f args k
abbrev M6 : MFn := M5
def T6 : TT := tab.T S6 muts M6
theorem tok6 : TOK Try.prog T6 := by
  refine (tab_ok tabok).tok (fun f args k out h => ?_) (fun f vec args k out h => ?_)
  · change S6 f args k = some out at h
    unfold S6 at h
    split at h
    · exact (fun k out h => cok_call (c39 _ _ k out h)) k out h
    · exact (fun k out h => cok_call (c66 _ k out h)) k out h
    · exact tok5.S f args k out h
  · exact tok5.M f vec args k out h

end Go.Sm.Ytlkphfpkohabeaa
