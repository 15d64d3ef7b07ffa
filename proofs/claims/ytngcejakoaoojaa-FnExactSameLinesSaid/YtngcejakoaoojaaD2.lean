/- What the functions hand back: level 1. -/
import Derived.Test.YtngcejakoaoojaaD1
namespace Go.Sm.Ytngcejakoaoojaa
open Go Go.Sm Go.RowKit Go.Proofs

/-! laws.toLineS -/
def a10 : Ann := ann [(3, [0, 3, 4], [3])] [2] 0
def lp10 : St → (Ex → St → R) → R := fun s k => match s with
  | ⟨[(0, .fv (.vw (some 0) ⟨.line, xs⟩)), (3, .fv (.own 0)), (4, .fv (.el (.sc (.int .i64 i))))], [some ⟨e0, ⟨.line, ys⟩⟩]⟩ => (match (decide (i = 0) && (Nat.beq (ys : List LineV).length xs.length && Nat.ble xs.length big) : Bool) with
    | true => k (.exit 0) ⟨[(3, .fv (.own 0))], [some ⟨e0, ⟨.line, xs⟩⟩]⟩
    | false => none)
  | _ => none
def l10 : Loops := fun key s k => bif Nat.beq key 3 then lp10 s k else none
theorem st10 (xs : List LineV) (i : Int) (ys : List LineV) (e0 : Nat) (m : Nat) (k : Ex → St → R) : iterK a10 [0, 3, 4] [3] (codeK T1 a10 l10 Try.f10.ntmps (loopAt Try.f10 0)) (m + 1) ⟨[(0, .fv (.vw (some 0) ⟨.line, xs⟩)), (3, .fv (.own 0)), (4, .fv (.el (.sc (.int .i64 i))))], [some ⟨e0, ⟨.line, ys⟩⟩]⟩ k = (match (decide ((i : Int) < (xs.length : Int)) : Bool) with
  | true => (match (decide (0 ≤ (i : Int) ∧ (i : Int) < (xs.length : Int)) && true : Bool) with
    | true => (match (xs : List LineV)[Int.toNat i]? with
      | some x1 => (match (decide (0 ≤ (i : Int) ∧ (i : Int) < (ys.length : Int)) && true : Bool) with
        | true => (match (ys : List LineV)[Int.toNat i]? with
          | some x2 => iterK a10 [0, 3, 4] [3] (codeK T1 a10 l10 Try.f10.ntmps (loopAt Try.f10 0)) m ⟨[(0, .fv (.vw (some 0) ⟨.line, xs⟩)), (3, .fv (.own 0)), (4, .fv (.el (.sc (.int .i64 (IntKind.i64.wrap (i + 1))))))], [some ⟨e0, ⟨.line, (ys : List LineV).set (Int.toNat i) x1⟩⟩]⟩ k
          | none => none)
        | false => none)
      | none => none)
    | false => none)
  | false => k (.exit 0) ⟨[(3, .fv (.own 0))], [some ⟨e0, ⟨.line, ys⟩⟩]⟩) := by kernel_rfl
theorem ind10 (xs : List LineV) (hx : Nat.ble xs.length big = true) (e0 : Nat) (k : Ex → St → R) : ∀ (m j : Nat) (ys : List LineV), ys.length = xs.length → j + m = xs.length → iterK a10 [0, 3, 4] [3] (codeK T1 a10 l10 Try.f10.ntmps (loopAt Try.f10 0)) (m + 1) ⟨[(0, .fv (.vw (some 0) ⟨.line, xs⟩)), (3, .fv (.own 0)), (4, .fv (.el (.sc (.int .i64 (j : Int)))))], [some ⟨e0, ⟨.line, ys⟩⟩]⟩ k =
    k (.exit 0) ⟨[(3, .fv (.own 0))], [some ⟨e0, ⟨.line, ys.take j ++ xs.drop j⟩⟩]⟩ := by
  intro m
  induction m with
  | zero =>
    intro j ys hl hj
    have h1 : ¬ ((j : Int) < (xs.length : Int)) := by omega
    rw [st10, List.drop_of_length_le (show xs.length ≤ j by omega), List.take_of_length_le (show ys.length ≤ j by omega)]
    simp [h1]
  | succ m ih =>
    intro j ys hl hj
    have hlt : j < xs.length := by omega
    have hlt2 : j < ys.length := by omega
    have h1 : ((j : Int) < (xs.length : Int)) := by omega
    have h12 : ((j : Int) < (ys.length : Int)) := by omega
    have h2 : (0 : Int) ≤ (j : Int) := by omega
    rw [st10, wrap_succ hlt hx]
    have h3 : xs[Int.toNat (j : Int)]? = some xs[j] := by simp [hlt]
    have h4 : ys[Int.toNat (j : Int)]? = some ys[j] := by simp [hlt2]
    simp only [h1, h12, h2, h3, h4, and_self, decide_true, Bool.and_true]
    refine (ih (j + 1) (ys.set (Int.toNat (j : Int)) xs[j]) (by simpa using hl) (by omega)).trans ?_
    have h5 : (ys.set (Int.toNat (j : Int)) xs[j]).take (j + 1) ++ xs.drop (j + 1) = ys.take j ++ xs.drop j := by
      rw [List.drop_eq_getElem_cons hlt]
      exact set_take hlt2 _ _
    rw [h5]

theorem lk10 : LOK T1 a10 l10 Try.f10.ntmps (loopAt Try.f10 0) := by
  intro ins outs hA s k out h
  have hA' : ([0, 3, 4], [3]) = (ins, outs) := Option.some.inj ((show a10.lp (firstRegion (loopAt Try.f10 0)) = some ([0, 3, 4], [3]) by kernel_rfl).symm.trans hA)
  cases hA'
  have hk : firstRegion (loopAt Try.f10 0) = 3 := by kernel_rfl
  rw [hk] at h
  change lp10 s k = some out at h
  unfold lp10 at h
  split at h
  · rename_i xs i e0 ys
    cases hg : (decide (i = 0) && (Nat.beq ys.length xs.length && Nat.ble xs.length big)) with
    | false => rw [hg] at h; cases h
    | true =>
      rw [hg] at h
      simp only [Bool.and_eq_true, decide_eq_true_eq] at hg
      obtain ⟨rfl, hl, hx⟩ := hg
      refine ⟨xs.length + 1, ?_⟩
      have hh := ind10 xs hx e0 k xs.length 0 ys (Nat.eq_of_beq_eq_true hl) (by omega)
      simp only [List.take_zero, List.nil_append, List.drop_zero] at hh
      exact hh.trans h
  · cases h
theorem e10 (xs : List LineV) : runFn T1 a10 l10 Try.f10 [.vw none ⟨.line, xs⟩] = (match (decide (0 ≤ ((xs.length : Int) : Int) ∧ ((xs.length : Int) : Int) = (xs.length : Int) ∧ ((xs.length : Int) : Int) ≤ 1099511627776) : Bool) with
  | true => (match (decide (0 = 0) && (Nat.beq (List.replicate (Int.toNat ((xs.length : Int))) (((⟨0, 0, 0, 0⟩ : LineV) : LineV)) : List LineV).length xs.length && Nat.ble xs.length big) : Bool) with
    | true => some ⟨[.fresh 55 ⟨.line, xs⟩], none⟩
    | false => none)
  | false => none) := by kernel_rfl
theorem s10 (xs : List LineV) : runFn T1 a10 l10 Try.f10 [.vw none ⟨.line, xs⟩] = (match (Nat.ble xs.length big : Bool) with
  | true => some ⟨[.fresh 55 ⟨.line, xs⟩], none⟩
  | false => none) := by
  rw [e10]
  cases h : Nat.ble xs.length big with
  | false => cases hd : decide ((xs.length : Int) ≤ 1099511627776) <;> simp [hd]
  | true =>
    have hx := Nat.le_of_ble_eq_true h
    unfold big at hx
    have h2 : ((xs.length : Int) ≤ 1099511627776) := by omega
    simp [h2]
theorem c10 (xs : List LineV) (k : List RV → R) (out : Out) (h : (match (Nat.ble xs.length big : Bool) with
  | true => k [.fresh 55 ⟨.line, xs⟩]
  | false => none) = some out) : ∃ rs, Real Try.prog 10 ∧ COK Try.prog 10 [.vw none ⟨.line, xs⟩] rs ∧ k rs = some out := by
  cases g0 : (Nat.ble xs.length big : Bool) with
  | true =>
    rw [g0] at h
    exact ⟨_, real Try.func10 (by kernel_rfl), fn_ok tok1 (A := a10) (L := l10) (r := none) Try.func10 (by kernel_rfl) (by kernel_rfl) (loops1 (by kernel_rfl) lk10) (by rw [s10, g0]), h⟩
  | false =>
    rw [g0] at h
    cases h

/-! laws.eqLine -/
theorem e38 (ap : Nat) (ah : Nat) (aw : Nat) (ak : Int) (bp : Nat) (bh : Nat) (bw : Nat) (bk : Int) : runFn T1 none0 noL Try.f38 [.el (.ag [(.fl .f32 ap), (.fl .f32 ah), (.fl .f32 aw), (.int .i64 ak)]), .el (.ag [(.fl .f32 bp), (.fl .f32 bh), (.fl .f32 bw), (.int .i64 bk)])] = (match (!(sameF (wid ap) (wid bp)) : Bool) with
  | true => some ⟨[.el (.sc (.bo false))], none⟩
  | false => (match (!(sameF (wid ah) (wid bh)) : Bool) with
    | true => some ⟨[.el (.sc (.bo false))], none⟩
    | false => (match (!(sameF (wid aw) (wid bw)) : Bool) with
      | true => some ⟨[.el (.sc (.bo false))], none⟩
      | false => (match (!((ak : Int) == bk) : Bool) with
        | true => some ⟨[.el (.sc (.bo false))], none⟩
        | false => some ⟨[.el (.sc (.bo true))], none⟩)))) := by kernel_rfl
theorem s38 (ap : Nat) (ah : Nat) (aw : Nat) (ak : Int) (bp : Nat) (bh : Nat) (bw : Nat) (bk : Int) : runFn T1 none0 noL Try.f38 [.el (.ag [(.fl .f32 ap), (.fl .f32 ah), (.fl .f32 aw), (.int .i64 ak)]), .el (.ag [(.fl .f32 bp), (.fl .f32 bh), (.fl .f32 bw), (.int .i64 bk)])] = some ⟨[.el (.sc (.bo (eqLineF ((⟨ap, ah, aw, ak⟩ : LineV)) ((⟨bp, bh, bw, bk⟩ : LineV)))))], none⟩ := by
  rw [e38]
  unfold eqLineF
  cases sameF (wid ap) (wid bp) <;> cases sameF (wid ah) (wid bh) <;> cases sameF (wid aw) (wid bw) <;> simp <;> (try split) <;> simp_all
theorem c38 (ap : Nat) (ah : Nat) (aw : Nat) (ak : Int) (bp : Nat) (bh : Nat) (bw : Nat) (bk : Int) (k : List RV → R) (out : Out) (h : k [.el (.sc (.bo (eqLineF ((⟨ap, ah, aw, ak⟩ : LineV)) ((⟨bp, bh, bw, bk⟩ : LineV)))))] = some out) : ∃ rs, Real Try.prog 38 ∧ COK Try.prog 38 [.el (.ag [(.fl .f32 ap), (.fl .f32 ah), (.fl .f32 aw), (.int .i64 ak)]), .el (.ag [(.fl .f32 bp), (.fl .f32 bh), (.fl .f32 bw), (.int .i64 bk)])] rs ∧ k rs = some out := by
  exact ⟨_, real Try.func38 (by kernel_rfl), fn_ok tok1 (A := none0) (L := noL) (r := none) Try.func38 (by kernel_rfl) (by kernel_rfl) (loops0 (by kernel_rfl)) (by rw [s38]), h⟩

/-! spec.l01Bits -/
theorem e60 (c : Nat) : runFn T1 none0 noL Try.f60 [.el (.sc (.fl .f32 c))] = (match (fcmp .neq .f32 c c : Bool) with
  | true => some ⟨[.el (.sc (.int .i64 2143289344))], none⟩
  | false => (match (isN .f32 c : Bool) with
    | true => none
    | false => some ⟨[.el (.sc (.int .i64 (IntKind.i64.wrap ((c : Int)))))], none⟩)) := by kernel_rfl
theorem s60 (c : Nat) (hg : (decide (c < 4294967296)) = true) : runFn T1 none0 noL Try.f60 [.el (.sc (.fl .f32 c))] = some ⟨[.el (.sc (.int .i64 (bitsI c)))], none⟩ := by
  rw [e60]
  unfold bitsI
  rw [fcmp_neq_self]
  rw [decide_eq_true_eq] at hg
  have w : IntKind.i64.wrap (c : Int) = (c : Int) := wrap64 (by omega) (by omega)
  rw [w]
  cases isN .f32 c <;> rfl
theorem c60 (c : Nat) (k : List RV → R) (out : Out) (h : (match (decide (c < 4294967296) : Bool) with
  | true => k [.el (.sc (.int .i64 (bitsI c)))]
  | false => none) = some out) : ∃ rs, Real Try.prog 60 ∧ COK Try.prog 60 [.el (.sc (.fl .f32 c))] rs ∧ k rs = some out := by
  cases g0 : (decide (c < 4294967296) : Bool) with
  | true =>
    rw [g0] at h
    exact ⟨_, real Try.func60 (by kernel_rfl), fn_ok tok1 (A := none0) (L := noL) (r := none) Try.func60 (by kernel_rfl) (by kernel_rfl) (loops0 (by kernel_rfl)) (by rw [s60 _ g0]), h⟩
  | false =>
    rw [g0] at h
    cases h

/-! math.Signbit -/
theorem e61 (c : Nat) : runFn T1 none0 noL Try.f61 [.el (.sc (.fl .f64 c))] = (match (isN .f64 c : Bool) with
  | true => none
  | false => some ⟨[.el (.sc (.bo (decide ((IntKind.i64.wrap ((c : Int)) : Int) < 0))))], none⟩) := by kernel_rfl
theorem s61 (c : Nat) (hg : (!isN .f64 c) = true) : runFn T1 none0 noL Try.f61 [.el (.sc (.fl .f64 c))] = some ⟨[.el (.sc (.bo (signF c)))], none⟩ := by
  rw [e61]
  have hN : isN .f64 c = false := by simpa using hg
  rw [hN]
  rfl
theorem c61 (c : Nat) (k : List RV → R) (out : Out) (h : (match (!isN .f64 c : Bool) with
  | true => k [.el (.sc (.bo (signF c)))]
  | false => none) = some out) : ∃ rs, Real Try.prog 61 ∧ COK Try.prog 61 [.el (.sc (.fl .f64 c))] rs ∧ k rs = some out := by
  cases g0 : (!isN .f64 c : Bool) with
  | true =>
    rw [g0] at h
    exact ⟨_, real Try.func61 (by kernel_rfl), fn_ok tok1 (A := none0) (L := noL) (r := none) Try.func61 (by kernel_rfl) (by kernel_rfl) (loops0 (by kernel_rfl)) (by rw [s61 _ g0]), h⟩
  | false =>
    rw [g0] at h
    cases h

def S2 : SFn := fun f args k => match f, args with
  | 10, [.vw none ⟨.line, xs⟩] => (match (Nat.ble xs.length big : Bool) with
    | true => k [.fresh 55 ⟨.line, xs⟩]
    | false => none)
  | 38, [.el (.ag [(.fl .f32 ap), (.fl .f32 ah), (.fl .f32 aw), (.int .i64 ak)]), .el (.ag [(.fl .f32 bp), (.fl .f32 bh), (.fl .f32 bw), (.int .i64 bk)])] => k [.el (.sc (.bo (eqLineF ((⟨ap, ah, aw, ak⟩ : LineV)) ((⟨bp, bh, bw, bk⟩ : LineV)))))]
  | 60, [.el (.sc (.fl .f32 c))] => (match (decide (c < 4294967296) : Bool) with
    | true => k [.el (.sc (.int .i64 (bitsI c)))]
    | false => none)
  | 61, [.el (.sc (.fl .f64 c))] => (match (!isN .f64 c : Bool) with
    | true => k [.el (.sc (.bo (signF c)))]
    | false => none)
  | _, _ => S1 f args k
abbrev M2 : MFn := M1
def T2 : TT := tab.T S2 muts M2
theorem tok2 : TOK Try.prog T2 := by
  refine (tab_ok tabok).tok (fun f args k out h => ?_) (fun f vec args k out h => ?_)
  · change S2 f args k = some out at h
    unfold S2 at h
    split at h
    · exact (fun k out h => cok_call (c10 _ k out h)) k out h
    · exact (fun k out h => cok_call (c38 _ _ _ _ _ _ _ _ k out h)) k out h
    · exact (fun k out h => cok_call (c60 _ k out h)) k out h
    · exact (fun k out h => cok_call (c61 _ k out h)) k out h
    · exact tok1.S f args k out h
  · exact tok1.M f vec args k out h

end Go.Sm.Ytngcejakoaoojaa
