/- What the functions hand back: level 1. -/
import Derived.Test.YtpckpfbjhnllbaaD1
import Derived.Test.YtpckpfbjhnllbaaQ23
import Derived.Test.YtpckpfbjhnllbaaQ29
namespace Go.Sm.Ytpckpfbjhnllbaa
open Go Go.Sm Go.RowKit Go.Proofs

/-! laws.eqFloat32S -/
def a11 : Ann := ann [(4, [0, 1, 5], [])] [4] 0
def lp11 : St → (Ex → St → R) → R := fun s k => match s with
  | ⟨[(0, .fv (.vw (some 0) ⟨.f32, xs⟩)), (1, .fv (.vw (some 1) ⟨.f32, ys⟩)), (5, .fv (.el (.sc (.int .i64 i))))], []⟩ => (match (decide (i = 0) && (Nat.beq xs.length ys.length && Nat.ble xs.length big) : Bool) with | true => (match (all2 sameW xs ys : Bool) with | true => k (.exit 0) ⟨[], []⟩ | false => k .ret ⟨[(4, .fv (.el (.sc (.bo false))))], []⟩) | false => none)
  | _ => none
def l11 : Loops := fun key s k => bif Nat.beq key 4 then lp11 s k else none
theorem st11 (xs : List Nat) (ys : List Nat) (i : Int) (m : Nat) (k : Ex → St → R) : iterK a11 [0, 1, 5] [] (codeK T1 a11 l11 Try.f11.ntmps (loopAt Try.f11 0)) (m + 1) ⟨[(0, .fv (.vw (some 0) ⟨.f32, xs⟩)), (1, .fv (.vw (some 1) ⟨.f32, ys⟩)), (5, .fv (.el (.sc (.int .i64 i))))], []⟩ k = (match (decide ((i : Int) < (xs.length : Int)) : Bool) with | true => (match (decide (0 ≤ (i : Int) ∧ (i : Int) < (xs.length : Int)) && true : Bool) with | true => (match (xs : List Nat)[Int.toNat i]? with | some x1 => (match (decide (0 ≤ (i : Int) ∧ (i : Int) < (ys.length : Int)) && true : Bool) with | true => (match (ys : List Nat)[Int.toNat i]? with | some x2 => (match (!(sameF (wid x1) (wid x2)) : Bool) with | true => k .ret ⟨[(4, .fv (.el (.sc (.bo false))))], []⟩ | false => iterK a11 [0, 1, 5] [] (codeK T1 a11 l11 Try.f11.ntmps (loopAt Try.f11 0)) m ⟨[(0, .fv (.vw (some 0) ⟨.f32, xs⟩)), (1, .fv (.vw (some 1) ⟨.f32, ys⟩)), (5, .fv (.el (.sc (.int .i64 (IntKind.i64.wrap (i + 1))))))], []⟩ k) | none => none) | false => none) | none => none) | false => none) | false => k (.exit 0) ⟨[], []⟩) := by kernel_rfl
theorem ind11 (xs ys : List Nat) (hl : xs.length = ys.length) (hx : Nat.ble xs.length big = true) (k : Ex → St → R) : ∀ (m j : Nat), j + m = xs.length → iterK a11 [0, 1, 5] [] (codeK T1 a11 l11 Try.f11.ntmps (loopAt Try.f11 0)) (m + 1) ⟨[(0, .fv (.vw (some 0) ⟨.f32, xs⟩)), (1, .fv (.vw (some 1) ⟨.f32, ys⟩)), (5, .fv (.el (.sc (.int .i64 (j : Int)))))], []⟩ k =
    (match all2 sameW (xs.drop j) (ys.drop j) with
    | true => k (.exit 0) ⟨[], []⟩
    | false => k .ret ⟨[(4, .fv (.el (.sc (.bo false))))], []⟩) := by
  intro m
  induction m with
  | zero =>
    intro j hj
    have h1 : ¬ ((j : Int) < (xs.length : Int)) := by omega
    rw [st11, List.drop_of_length_le (by omega)]
    simp [h1, all2]
  | succ m ih =>
    intro j hj
    have hlt : j < xs.length := by omega
    have hlt2 : j < ys.length := by omega
    have h1 : ((j : Int) < (xs.length : Int)) := by omega
    have h12 : ((j : Int) < (ys.length : Int)) := by omega
    have h2 : (0 : Int) ≤ (j : Int) := by omega
    rw [st11, wrap_succ hlt hx]
    have h3 : xs[Int.toNat (j : Int)]? = some xs[j] := by simp [hlt]
    have h4 : ys[Int.toNat (j : Int)]? = some ys[j] := by simp [hlt2]
    rw [List.drop_eq_getElem_cons hlt, List.drop_eq_getElem_cons hlt2, ih (j + 1) (by omega)]
    simp only [h1, h12, h2, h3, h4, and_self, decide_true, Bool.and_true, all2]
    unfold sameW
    cases hp : sameF (wid xs[j]) (wid ys[j]) <;> simp

theorem lk11 : LOK T1 a11 l11 Try.f11.ntmps (loopAt Try.f11 0) := by
  intro ins outs hA s k out h
  have hA' : ([0, 1, 5], []) = (ins, outs) := Option.some.inj ((show a11.lp (firstRegion (loopAt Try.f11 0)) = some ([0, 1, 5], []) by kernel_rfl).symm.trans hA)
  cases hA'
  have hk : firstRegion (loopAt Try.f11 0) = 4 := by kernel_rfl
  rw [hk] at h
  change lp11 s k = some out at h
  unfold lp11 at h
  split at h
  · rename_i xs ys i
    cases hg : (decide (i = 0) && (Nat.beq xs.length ys.length && Nat.ble xs.length big)) with
    | false => rw [hg] at h; cases h
    | true =>
      rw [hg] at h
      simp only [Bool.and_eq_true, decide_eq_true_eq] at hg
      obtain ⟨rfl, hl, hx⟩ := hg
      refine ⟨xs.length + 1, ?_⟩
      exact (ind11 xs ys (Nat.eq_of_beq_eq_true hl) hx k xs.length 0 (by omega)).trans h
  · cases h
theorem e11 (xs : List Nat) (ys : List Nat) : runFn T1 a11 l11 Try.f11 [.vw none ⟨.f32, xs⟩, .vw none ⟨.f32, ys⟩] = (match (!(((xs.length : Int) : Int) == (ys.length : Int)) : Bool) with | true => some ⟨[.el (.sc (.bo false))], none⟩ | false => (match (decide (0 = 0) && (Nat.beq xs.length ys.length && Nat.ble xs.length big) : Bool) with | true => (match (all2 sameW xs ys : Bool) with | true => some ⟨[.el (.sc (.bo true))], none⟩ | false => some ⟨[.el (.sc (.bo false))], none⟩) | false => none)) := by kernel_rfl
theorem s11 (xs : List Nat) (ys : List Nat) : runFn T1 a11 l11 Try.f11 [.vw none ⟨.f32, xs⟩, .vw none ⟨.f32, ys⟩] = (match (Nat.beq xs.length ys.length : Bool) with | true => (match (Nat.ble xs.length big : Bool) with | true => some ⟨[.el (.sc (.bo (all2 sameW xs ys)))], none⟩ | false => none) | false => some ⟨[.el (.sc (.bo false))], none⟩) := by
  rw [e11]
  cases hl : Nat.beq xs.length ys.length with
  | false =>
    have h1 : xs.length ≠ ys.length := fun e => by rw [e, Nat.beq_refl] at hl; cases hl
    have h2 : ((xs.length : Int) == (ys.length : Int)) = false := beq_false_of_ne (by omega)
    simp only [h2, Bool.not_false]
  | true =>
    have h1 := Nat.eq_of_beq_eq_true hl
    have h2 : ((xs.length : Int) == (ys.length : Int)) = true := beq_iff_eq.2 (by omega)
    simp only [h2, Bool.not_true]
    cases h : Nat.ble xs.length big with
    | false => simp
    | true => cases h3 : all2 sameW xs ys <;> simp
theorem c11 (xs : List Nat) (ys : List Nat) (k : List RV → R) (out : Out) (h : (match (Nat.beq xs.length ys.length : Bool) with | true => (match (Nat.ble xs.length big : Bool) with | true => k [.el (.sc (.bo (all2 sameW xs ys)))] | false => none) | false => k [.el (.sc (.bo false))]) = some out) : ∃ rs, Real Try.prog 11 ∧ COK Try.prog 11 [.vw none ⟨.f32, xs⟩, .vw none ⟨.f32, ys⟩] rs ∧ k rs = some out := by
  cases g0 : (Nat.beq xs.length ys.length : Bool) with
  | true =>
    rw [g0] at h
    cases g1 : (Nat.ble xs.length big : Bool) with
    | true =>
      rw [g1] at h
      exact ⟨_, real Try.func11 (by kernel_rfl), fn_ok tok1 (A := a11) (L := l11) (r := none) Try.func11 (by kernel_rfl) (by kernel_rfl) (loops1 (by kernel_rfl) lk11) (by rw [s11, g0, g1]), h⟩
    | false =>
      rw [g1] at h
      cases h
  | false =>
    rw [g0] at h
    exact ⟨_, real Try.func11 (by kernel_rfl), fn_ok tok1 (A := a11) (L := l11) (r := none) Try.func11 (by kernel_rfl) (by kernel_rfl) (loops1 (by kernel_rfl) lk11) (by rw [s11, g0]), h⟩

/-! laws.eqLine -/
theorem e18 (ap : Nat) (ah : Nat) (aw : Nat) (ak : Int) (bp : Nat) (bh : Nat) (bw : Nat) (bk : Int) : runFn T1 none0 noL Try.f18 [.el (.ag [(.fl .f32 ap), (.fl .f32 ah), (.fl .f32 aw), (.int .i64 ak)]), .el (.ag [(.fl .f32 bp), (.fl .f32 bh), (.fl .f32 bw), (.int .i64 bk)])] = (match (!(sameF (wid ap) (wid bp)) : Bool) with | true => some ⟨[.el (.sc (.bo false))], none⟩ | false => (match (!(sameF (wid ah) (wid bh)) : Bool) with | true => some ⟨[.el (.sc (.bo false))], none⟩ | false => (match (!(sameF (wid aw) (wid bw)) : Bool) with | true => some ⟨[.el (.sc (.bo false))], none⟩ | false => (match (!((ak : Int) == bk) : Bool) with | true => some ⟨[.el (.sc (.bo false))], none⟩ | false => some ⟨[.el (.sc (.bo true))], none⟩)))) := by kernel_rfl
theorem s18 (ap : Nat) (ah : Nat) (aw : Nat) (ak : Int) (bp : Nat) (bh : Nat) (bw : Nat) (bk : Int) : runFn T1 none0 noL Try.f18 [.el (.ag [(.fl .f32 ap), (.fl .f32 ah), (.fl .f32 aw), (.int .i64 ak)]), .el (.ag [(.fl .f32 bp), (.fl .f32 bh), (.fl .f32 bw), (.int .i64 bk)])] = some ⟨[.el (.sc (.bo (eqLineF ((⟨ap, ah, aw, ak⟩ : LineV)) ((⟨bp, bh, bw, bk⟩ : LineV)))))], none⟩ := by
  rw [e18]
  unfold eqLineF
  cases sameF (wid ap) (wid bp) <;> cases sameF (wid ah) (wid bh) <;> cases sameF (wid aw) (wid bw) <;> simp <;> (try split) <;> simp_all
theorem c18 (ap : Nat) (ah : Nat) (aw : Nat) (ak : Int) (bp : Nat) (bh : Nat) (bw : Nat) (bk : Int) (k : List RV → R) (out : Out) (h : k [.el (.sc (.bo (eqLineF ((⟨ap, ah, aw, ak⟩ : LineV)) ((⟨bp, bh, bw, bk⟩ : LineV)))))] = some out) : ∃ rs, Real Try.prog 18 ∧ COK Try.prog 18 [.el (.ag [(.fl .f32 ap), (.fl .f32 ah), (.fl .f32 aw), (.int .i64 ak)]), .el (.ag [(.fl .f32 bp), (.fl .f32 bh), (.fl .f32 bw), (.int .i64 bk)])] rs ∧ k rs = some out := by
  exact ⟨_, real Try.func18 (by kernel_rfl), fn_ok tok1 (A := none0) (L := noL) (r := none) Try.func18 (by kernel_rfl) (by kernel_rfl) (loops0 (by kernel_rfl)) (by rw [s18]), h⟩

/-! spec.l05Rows -/
def a24 : Ann := ann [(3, [0, 1, 5, 11, 12], [5]), (7, [0, 1, 5, 6, 7, 11, 12, 17, 18], [0, 1, 5, 6, 7, 11, 12])] [4] 0
def lp24 : St → (Ex → St → R) → R := fun s k => match s with
  | ⟨[(0, .fv (.vv none .f32 fs)), (1, .fv (.vw (some 1) ⟨.f32, ys⟩)), (5, .fv (.own 0)), (11, .fv (.el (.sc (.int .i64 n)))), (12, .fv (.el (.sc (.int .i64 i))))], [some ⟨23, ⟨.lf, gs⟩⟩]⟩ => (match ((decide (n = (fs.length : Int)) && (decide (i = 0) && (Nat.ble fs.length big && (Nat.ble (fs.length + 1) big && (fitsA fs (fs ++ [ys]) && Nat.ble ((gs : List ((List Nat))).length + fs.length) big))))) : Bool) with | true => k (.exit 0) ⟨[(5, .fv (.own 0))], [some ⟨23, ⟨.lf, rep (fun j gs => gs ++ [gramR fs ys (fs.getD j [])]) (fs.length) 0 ((gs : List ((List Nat))) : (List (List Nat)))⟩⟩]⟩ | false => none)
  | _ => none
def lp24_1 : St → (Ex → St → R) → R := fun s k => match s with
  | ⟨[(0, .fv (.vv none .f32 fs)), (1, .fv (.vw (some 1) ⟨.f32, ys⟩)), (5, .fv (.own 0)), (6, .fv (.el (.sc (.int .i64 z)))), (7, .fv (.own 1)), (11, .fv (.el (.sc (.int .i64 n)))), (12, .fv (.el (.sc (.int .i64 i)))), (17, .fv (.el (.sc (.int .i64 n2)))), (18, .fv (.el (.sc (.int .i64 q))))], [some ⟨23, ⟨.lf, gs⟩⟩, some ⟨24, ⟨.f32, rs⟩⟩]⟩ => (match ((decide (n2 = (fs.length : Int)) && (decide (q = 0) && (Nat.ble fs.length big && (decide (0 ≤ z ∧ z < (fs.length : Int)) && (fits1 (fs.getD z.toNat []) fs && Nat.ble ((rs : List Nat).length + fs.length) big))))) : Bool) with | true => k (.exit 2) ⟨[(0, .fv (.vv none .f32 fs)), (1, .fv (.vw (some 1) ⟨.f32, ys⟩)), (5, .fv (.own 0)), (6, .fv (.el (.sc (.int .i64 z)))), (7, .fv (.own 1)), (11, .fv (.el (.sc (.int .i64 n)))), (12, .fv (.el (.sc (.int .i64 i))))], [some ⟨23, ⟨.lf, (gs : List ((List Nat)))⟩⟩, some ⟨24, ⟨.f32, rep (fun j rs => rs ++ [dotP (fs.getD z.toNat []) (fs.getD j [])]) (fs.length) 0 ((rs : List Nat) : (List Nat))⟩⟩]⟩ | false => none)
  | _ => none
def l24 : Loops := fun key s k => bif Nat.beq key 3 then lp24 s k else bif Nat.beq key 7 then lp24_1 s k else none
theorem st24 (fs : List (List Nat)) (ys : List Nat) (n : Int) (i : Int) (gs : List ((List Nat))) (m : Nat) (k : Ex → St → R) : iterK a24 [0, 1, 5, 11, 12] [5] (codeK T1 a24 l24 Try.f24.ntmps (loopAt Try.f24 0)) (m + 1) ⟨[(0, .fv (.vv none .f32 fs)), (1, .fv (.vw (some 1) ⟨.f32, ys⟩)), (5, .fv (.own 0)), (11, .fv (.el (.sc (.int .i64 n)))), (12, .fv (.el (.sc (.int .i64 i))))], [some ⟨23, ⟨.lf, gs⟩⟩]⟩ k = (match (decide ((i : Int) < n) : Bool) with | true => (match ((decide (((fs.length : Int)) = (fs.length : Int)) && (decide (0 = 0) && (Nat.ble fs.length big && (decide (0 ≤ i ∧ i < (fs.length : Int)) && (fits1 (fs.getD i.toNat []) fs && Nat.ble (([] : List Nat).length + fs.length) big))))) : Bool) with | true => (match (decide (0 ≤ (i : Int) ∧ (i : Int) < (fs.length : Int)) : Bool) with | true => (match (fs : List (List Nat))[Int.toNat i]? with | some x1 => (match (Nat.ble x1.length big && Nat.ble x1.length ys.length : Bool) with | true => (match (Nat.beq 24 24 && decide ((rep (fun j rs => rs ++ [dotP (fs.getD i.toNat []) (fs.getD j [])]) (fs.length) 0 (([] : List Nat) : (List Nat)) : List Nat).length + ([dotP x1 ys] : List Nat).length ≤ 1099511627776) : Bool) with | true => (match (decide (((gs : List ((List Nat))) : List (List Nat)).length + ([(rep (fun j rs => rs ++ [dotP (fs.getD i.toNat []) (fs.getD j [])]) (fs.length) 0 (([] : List Nat) : (List Nat)) : List Nat) ++ ([dotP x1 ys])] : List (List Nat)).length ≤ 1099511627776) : Bool) with | true => iterK a24 [0, 1, 5, 11, 12] [5] (codeK T1 a24 l24 Try.f24.ntmps (loopAt Try.f24 0)) m ⟨[(0, .fv (.vv none .f32 fs)), (1, .fv (.vw (some 1) ⟨.f32, ys⟩)), (5, .fv (.own 0)), (11, .fv (.el (.sc (.int .i64 n)))), (12, .fv (.el (.sc (.int .i64 (IntKind.i64.wrap (i + 1))))))], [some ⟨23, ⟨.lf, ((gs : List ((List Nat))) : List (List Nat)) ++ ([(rep (fun j rs => rs ++ [dotP (fs.getD i.toNat []) (fs.getD j [])]) (fs.length) 0 (([] : List Nat) : (List Nat)) : List Nat) ++ ([dotP x1 ys])])⟩⟩]⟩ k | false => none) | false => none) | false => none) | none => none) | false => none) | false => none) | false => k (.exit 0) ⟨[(5, .fv (.own 0))], [some ⟨23, ⟨.lf, gs⟩⟩]⟩) := by kernel_rfl
theorem ind24 (fs : List (List Nat)) (ys : List Nat) (hx : (Nat.ble fs.length big) = true) (hq : (Nat.ble (fs.length + 1) big) = true) (hal : (fitsA fs (fs ++ [ys])) = true) (k : Ex → St → R) : ∀ (m j : Nat) (gs : List (List Nat)), gs.length + m ≤ 1099511627776 → 0 ≤ j → j + m = fs.length → iterK a24 [0, 1, 5, 11, 12] [5] (codeK T1 a24 l24 Try.f24.ntmps (loopAt Try.f24 0)) (m + 1) ⟨[(0, .fv (.vv none .f32 fs)), (1, .fv (.vw (some 1) ⟨.f32, ys⟩)), (5, .fv (.own 0)), (11, .fv (.el (.sc (.int .i64 (fs.length : Int))))), (12, .fv (.el (.sc (.int .i64 (j : Int)))))], [some ⟨23, ⟨.lf, gs⟩⟩]⟩ k =
    k (.exit 0) ⟨[(5, .fv (.own 0))], [some ⟨23, ⟨.lf, rep (fun j gs => gs ++ [gramR fs ys (fs.getD j [])]) m j (gs : (List (List Nat)))⟩⟩]⟩ := by
  intro m
  induction m with
  | zero =>
    intro j gs hs0 hlo hj
    have hx_ := big_le hx
    have hq_ := big_le hq
    have h1 : ¬ (((j : Int) < (fs.length : Int))) := by omega
    rw [st24]
    simp only [h1, rep, decide_false] <;> rfl
  | succ m ih =>
    intro j gs hs0 hlo hj
    have hx_ := big_le hx
    have hq_ := big_le hq
    have h1 : ((j : Int) < (fs.length : Int)) := by omega
    have hb : (0 : Int) ≤ ((j : Nat) : Int) ∧ ((j : Nat) : Int) < (fs.length : Int) := by omega
    have hq : fs[Int.toNat ((j : Nat) : Int)]? = some (fs.getD (j) []) := getI (by omega)
    have hp : fs[j]? = some (fs.getD (j) []) := getI2 (by omega)
    have hgl : gs.length + 1 ≤ 1099511627776 := by omega
    have hbq : Nat.beq 24 24 = true := rfl
    have wn : IntKind.i64.wrap ((j : Int) + 1) = ((j + 1 : Nat) : Int) := wrapN (by omega) (by omega)
    rw [st24]
    simp only [h1, wn, hb, hq, hp, hgl, hbq, and_self, decide_true, Bool.and_true, Int.le_refl]
    have e1 : fits1 (fs.getD j []) (fs ++ [ys]) = true := fitsA_get hal (by omega)
    have e2 := fits1_left e1
    have e3 := fits1_big e2.1
    have e4 : Nat.ble (([] : List Nat).length + fs.length) big = true := by simpa using hx
    have e5 := gramR_run2 fs ys (fs.getD j [])
    have e6 : (rep (fun q rs => rs ++ [dotP (fs.getD j []) (fs.getD q [])]) fs.length 0 []).length = fs.length := by
      rw [rep_each [] (dotP (fs.getD j [])) fs _ 0 [] (by omega)]
      simp
    have e7 : fs.length + 1 ≤ 1099511627776 := by omega
    simp only [Int.toNat_natCast, hx, e2.1, e2.2, e3, e4, e6, e7, hgl, List.length_singleton, decide_true, Bool.and_self, Bool.true_and, e5]
    exact ih (j + 1) (gs ++ [gramR fs ys (fs.getD j [])]) (by simp; omega) (by omega) (by omega)

theorem lk24 : LOK T1 a24 l24 Try.f24.ntmps (loopAt Try.f24 0) := by
  intro ins outs hA s k out h
  have hA' : ([0, 1, 5, 11, 12], [5]) = (ins, outs) := Option.some.inj ((show a24.lp (firstRegion (loopAt Try.f24 0)) = some ([0, 1, 5, 11, 12], [5]) by kernel_rfl).symm.trans hA)
  cases hA'
  have hk : firstRegion (loopAt Try.f24 0) = 3 := by kernel_rfl
  rw [hk] at h
  change lp24 s k = some out at h
  unfold lp24 at h
  split at h
  · rename_i fs ys n i gs
    cases hg : (decide (n = (fs.length : Int)) && (decide (i = 0) && (Nat.ble fs.length big && (Nat.ble (fs.length + 1) big && (fitsA fs (fs ++ [ys]) && Nat.ble (gs.length + fs.length) big))))) with
    | false => rw [hg] at h; cases h
    | true =>
      rw [hg] at h
      simp only [Bool.and_eq_true, decide_eq_true_eq] at hg
      obtain ⟨rfl, rfl, hx, hq, hal, gs0⟩ := hg
      refine ⟨(fs.length) + 1, ?_⟩
      have hx_ := big_le hx
      have hq_ := big_le hq
      have gs0_ := big_le gs0
      exact (ind24 fs ys hx hq hal k (fs.length) 0 gs (by omega) (by omega) (by omega)).trans h
  · cases h
theorem st24_1 (fs : List (List Nat)) (ys : List Nat) (z : Int) (n : Int) (i : Int) (n2 : Int) (q : Int) (gs : List ((List Nat))) (rs : List Nat) (m : Nat) (k : Ex → St → R) : iterK a24 [0, 1, 5, 6, 7, 11, 12, 17, 18] [0, 1, 5, 6, 7, 11, 12] (codeK T1 a24 l24 Try.f24.ntmps (loopAt Try.f24 1)) (m + 1) ⟨[(0, .fv (.vv none .f32 fs)), (1, .fv (.vw (some 1) ⟨.f32, ys⟩)), (5, .fv (.own 0)), (6, .fv (.el (.sc (.int .i64 z)))), (7, .fv (.own 1)), (11, .fv (.el (.sc (.int .i64 n)))), (12, .fv (.el (.sc (.int .i64 i)))), (17, .fv (.el (.sc (.int .i64 n2)))), (18, .fv (.el (.sc (.int .i64 q))))], [some ⟨23, ⟨.lf, gs⟩⟩, some ⟨24, ⟨.f32, rs⟩⟩]⟩ k = (match (decide ((q : Int) < n2) : Bool) with | true => (match (decide (0 ≤ (z : Int) ∧ (z : Int) < (fs.length : Int)) : Bool) with | true => (match (fs : List (List Nat))[Int.toNat z]? with | some x1 => (match (decide (0 ≤ (q : Int) ∧ (q : Int) < (fs.length : Int)) : Bool) with | true => (match (fs : List (List Nat))[Int.toNat q]? with | some x2 => (match (Nat.ble x1.length big && Nat.ble x1.length x2.length : Bool) with | true => (match (Nat.beq 24 24 && decide ((rs : List Nat).length + ([dotP x1 x2] : List Nat).length ≤ 1099511627776) : Bool) with | true => iterK a24 [0, 1, 5, 6, 7, 11, 12, 17, 18] [0, 1, 5, 6, 7, 11, 12] (codeK T1 a24 l24 Try.f24.ntmps (loopAt Try.f24 1)) m ⟨[(0, .fv (.vv none .f32 fs)), (1, .fv (.vw (some 1) ⟨.f32, ys⟩)), (5, .fv (.own 0)), (6, .fv (.el (.sc (.int .i64 z)))), (7, .fv (.own 1)), (11, .fv (.el (.sc (.int .i64 n)))), (12, .fv (.el (.sc (.int .i64 i)))), (17, .fv (.el (.sc (.int .i64 n2)))), (18, .fv (.el (.sc (.int .i64 (IntKind.i64.wrap (q + 1))))))], [some ⟨23, ⟨.lf, gs⟩⟩, some ⟨24, ⟨.f32, (rs : List Nat) ++ ([dotP x1 x2])⟩⟩]⟩ k | false => none) | false => none) | none => none) | false => none) | none => none) | false => none) | false => k (.exit 2) ⟨[(0, .fv (.vv none .f32 fs)), (1, .fv (.vw (some 1) ⟨.f32, ys⟩)), (5, .fv (.own 0)), (6, .fv (.el (.sc (.int .i64 z)))), (7, .fv (.own 1)), (11, .fv (.el (.sc (.int .i64 n)))), (12, .fv (.el (.sc (.int .i64 i))))], [some ⟨23, ⟨.lf, gs⟩⟩, some ⟨24, ⟨.f32, rs⟩⟩]⟩) := by kernel_rfl
theorem ind24_1 (fs : List (List Nat)) (ys : List Nat) (z : Int) (n : Int) (i : Int) (gs : List ((List Nat))) (hx : (Nat.ble fs.length big) = true) (hz : (decide (0 ≤ z ∧ z < (fs.length : Int))) = true) (hal : (fits1 (fs.getD z.toNat []) fs) = true) (k : Ex → St → R) : ∀ (m j : Nat) (rs : List Nat), rs.length + m ≤ 1099511627776 → 0 ≤ j → j + m = fs.length → iterK a24 [0, 1, 5, 6, 7, 11, 12, 17, 18] [0, 1, 5, 6, 7, 11, 12] (codeK T1 a24 l24 Try.f24.ntmps (loopAt Try.f24 1)) (m + 1) ⟨[(0, .fv (.vv none .f32 fs)), (1, .fv (.vw (some 1) ⟨.f32, ys⟩)), (5, .fv (.own 0)), (6, .fv (.el (.sc (.int .i64 z)))), (7, .fv (.own 1)), (11, .fv (.el (.sc (.int .i64 n)))), (12, .fv (.el (.sc (.int .i64 i)))), (17, .fv (.el (.sc (.int .i64 (fs.length : Int))))), (18, .fv (.el (.sc (.int .i64 (j : Int)))))], [some ⟨23, ⟨.lf, gs⟩⟩, some ⟨24, ⟨.f32, rs⟩⟩]⟩ k =
    k (.exit 2) ⟨[(0, .fv (.vv none .f32 fs)), (1, .fv (.vw (some 1) ⟨.f32, ys⟩)), (5, .fv (.own 0)), (6, .fv (.el (.sc (.int .i64 z)))), (7, .fv (.own 1)), (11, .fv (.el (.sc (.int .i64 n)))), (12, .fv (.el (.sc (.int .i64 i))))], [some ⟨23, ⟨.lf, gs⟩⟩, some ⟨24, ⟨.f32, rep (fun j rs => rs ++ [dotP (fs.getD z.toNat []) (fs.getD j [])]) m j (rs : (List Nat))⟩⟩]⟩ := by
  intro m
  induction m with
  | zero =>
    intro j rs hs0 hlo hj
    have hx_ := big_le hx
    have h1 : ¬ (((j : Int) < (fs.length : Int))) := by omega
    rw [st24_1]
    simp only [h1, rep, decide_false] <;> rfl
  | succ m ih =>
    intro j rs hs0 hlo hj
    have hx_ := big_le hx
    have h1 : ((j : Int) < (fs.length : Int)) := by omega
    have hb : (0 : Int) ≤ ((j : Nat) : Int) ∧ ((j : Nat) : Int) < (fs.length : Int) := by omega
    have hq : fs[Int.toNat ((j : Nat) : Int)]? = some (fs.getD (j) []) := getI (by omega)
    have hp : fs[j]? = some (fs.getD (j) []) := getI2 (by omega)
    have hbq : Nat.beq 24 24 = true := rfl
    have hrl : rs.length + 1 ≤ 1099511627776 := by omega
    have wn : IntKind.i64.wrap ((j : Int) + 1) = ((j + 1 : Nat) : Int) := wrapN (by omega) (by omega)
    rw [st24_1]
    simp only [h1, wn, hb, hq, hp, hbq, hrl, and_self, decide_true, Bool.and_true, Int.le_refl]
    have hz2 := of_decide_eq_true hz
    have e1 : fs[z.toNat]? = some (fs.getD z.toNat []) := getI2 (by omega)
    have e2 := fits1_big hal
    have e3 := fits1_get (j := j) hal (by omega)
    simp only [hz, e1, e2, e3, hrl, List.length_singleton, decide_true, Bool.and_self, Bool.true_and]
    exact ih (j + 1) (rs ++ [dotP (fs.getD z.toNat []) (fs.getD j [])]) (by simp; omega) (by omega) (by omega)

theorem lk24_1 : LOK T1 a24 l24 Try.f24.ntmps (loopAt Try.f24 1) := by
  intro ins outs hA s k out h
  have hA' : ([0, 1, 5, 6, 7, 11, 12, 17, 18], [0, 1, 5, 6, 7, 11, 12]) = (ins, outs) := Option.some.inj ((show a24.lp (firstRegion (loopAt Try.f24 1)) = some ([0, 1, 5, 6, 7, 11, 12, 17, 18], [0, 1, 5, 6, 7, 11, 12]) by kernel_rfl).symm.trans hA)
  cases hA'
  have hk : firstRegion (loopAt Try.f24 1) = 7 := by kernel_rfl
  rw [hk] at h
  change lp24_1 s k = some out at h
  unfold lp24_1 at h
  split at h
  · rename_i fs ys z n i n2 q gs rs
    cases hg : (decide (n2 = (fs.length : Int)) && (decide (q = 0) && (Nat.ble fs.length big && (decide (0 ≤ z ∧ z < (fs.length : Int)) && (fits1 (fs.getD z.toNat []) fs && Nat.ble (rs.length + fs.length) big))))) with
    | false => rw [hg] at h; cases h
    | true =>
      rw [hg] at h
      simp only [Bool.and_eq_true, decide_eq_true_eq] at hg
      obtain ⟨rfl, rfl, hx, hz, hal, gs0⟩ := hg
      refine ⟨(fs.length) + 1, ?_⟩
      have hx_ := big_le hx
      have gs0_ := big_le gs0
      exact (ind24_1 fs ys z n i gs hx (decide_eq_true hz) hal k (fs.length) 0 rs (by omega) (by omega) (by omega)).trans h
  · cases h
theorem e24 (fs : List (List Nat)) (ys : List Nat) : runFn T1 a24 l24 Try.f24 [.vv none .f32 fs, .vw none ⟨.f32, ys⟩] = (match ((decide (((fs.length : Int)) = (fs.length : Int)) && (decide (0 = 0) && (Nat.ble fs.length big && (Nat.ble (fs.length + 1) big && (fitsA fs (fs ++ [ys]) && Nat.ble ((([] : List (List Nat)) : List ((List Nat))).length + fs.length) big))))) : Bool) with | true => some ⟨[.new2 23 ⟨.lf, rep (fun j gs => gs ++ [gramR fs ys (fs.getD j [])]) (fs.length) 0 ((([] : List (List Nat)) : List ((List Nat))) : (List (List Nat)))⟩], none⟩ | false => none) := by kernel_rfl
theorem s24 (fs : List (List Nat)) (ys : List Nat) (hg : (rowsFit fs ys) = true) : runFn T1 a24 l24 Try.f24 [.vv none .f32 fs, .vw none ⟨.f32, ys⟩] = some ⟨[.new2 23 ⟨.lf, gram fs ys⟩], none⟩ := by
  rw [e24]
  obtain ⟨h1, h2⟩ := rowsFit_A hg
  have e1 : Nat.ble fs.length big = true := big_of (by omega)
  have e2 : Nat.ble (fs.length + 1) big = true := big_of (by omega)
  have e4 : Nat.ble (([] : List (List Nat)).length + fs.length) big = true := by
    rw [List.length_nil, Nat.zero_add]
    exact e1
  simp only [e1, e2, h2, e4, gram_run, decide_true, Bool.and_self]
theorem c24 (fs : List (List Nat)) (ys : List Nat) (k : List RV → R) (out : Out) (h : (match (rowsFit fs ys : Bool) with | true => k [.new2 23 ⟨.lf, gram fs ys⟩] | false => none) = some out) : ∃ rs, Real Try.prog 24 ∧ COK Try.prog 24 [.vv none .f32 fs, .vw none ⟨.f32, ys⟩] rs ∧ k rs = some out := by
  cases g0 : (rowsFit fs ys : Bool) with
  | true =>
    rw [g0] at h
    exact ⟨_, real Try.func24 (by kernel_rfl), fn_ok tok1 (A := a24) (L := l24) (r := none) Try.func24 (by kernel_rfl) (by kernel_rfl) (loops2 (by kernel_rfl) lk24 lk24_1) (by rw [s24 _ _ g0]), h⟩
  | false =>
    rw [g0] at h
    cases h

/-! impl.rowsOf -/
def a30 : Ann := ann [(3, [0, 1, 5, 15, 16, 17], [5]), (7, [0, 1, 5, 7, 8, 15, 16, 17, 26, 27, 28], [0, 1, 5, 8, 15, 16, 17]), (11, [0, 1, 5, 7, 8, 10, 11, 15, 16, 17, 26, 27, 28, 32, 33, 34], [0, 1, 5, 7, 8, 11, 15, 16, 17, 26, 27, 28])] [4] 0
def lp30 : St → (Ex → St → R) → R := fun s k => match s with
  | ⟨[(0, .fv (.vv none .f32 fs)), (1, .fv (.vw (some 1) ⟨.f32, ys⟩)), (5, .fv (.own 0)), (15, .fv (.vv none .f32 hs)), (16, .fv (.el (.sc (.int .i64 n)))), (17, .fv (.el (.sc (.int .i64 i))))], [some ⟨23, ⟨.lf, gs⟩⟩]⟩ => (match ((decide (n = (hs.length : Int)) && (decide (i = 0) && (Nat.ble hs.length big && (Nat.ble (fs.length + 1) big && (fitsA hs (fs ++ [ys]) && Nat.ble ((gs : List ((List Nat))).length + hs.length) big))))) : Bool) with | true => k (.exit 0) ⟨[(5, .fv (.own 0))], [some ⟨23, ⟨.lf, rep (fun j gs => gs ++ [gramR fs ys (hs.getD j [])]) (hs.length) 0 ((gs : List ((List Nat))) : (List (List Nat)))⟩⟩]⟩ | false => none)
  | _ => none
def lp30_1 : St → (Ex → St → R) → R := fun s k => match s with
  | ⟨[(0, .fv (.vv none .f32 fs)), (1, .fv (.vw (some 1) ⟨.f32, ys⟩)), (5, .fv (.own 0)), (7, .fv (.vw none ⟨.f32, av⟩)), (8, .fv (.own 1)), (15, .fv (.vv none .f32 hs)), (16, .fv (.el (.sc (.int .i64 n)))), (17, .fv (.el (.sc (.int .i64 i)))), (26, .fv (.vv none .f32 bs)), (27, .fv (.el (.sc (.int .i64 n2)))), (28, .fv (.el (.sc (.int .i64 q))))], [some ⟨23, ⟨.lf, gs⟩⟩, some ⟨24, ⟨.f32, rs⟩⟩]⟩ => (match ((decide (n2 = (bs.length : Int)) && (decide (q = 0) && (Nat.ble bs.length big && (fits1 av bs && Nat.ble ((rs : List Nat).length + bs.length) big)))) : Bool) with | true => k (.exit 2) ⟨[(0, .fv (.vv none .f32 fs)), (1, .fv (.vw (some 1) ⟨.f32, ys⟩)), (5, .fv (.own 0)), (8, .fv (.own 1)), (15, .fv (.vv none .f32 hs)), (16, .fv (.el (.sc (.int .i64 n)))), (17, .fv (.el (.sc (.int .i64 i))))], [some ⟨23, ⟨.lf, (gs : List ((List Nat)))⟩⟩, some ⟨24, ⟨.f32, rep (fun j rs => rs ++ [dotP av (bs.getD j [])]) (bs.length) 0 ((rs : List Nat) : (List Nat))⟩⟩]⟩ | false => none)
  | _ => none
def lp30_2 : St → (Ex → St → R) → R := fun s k => match s with
  | ⟨[(0, .fv (.vv none .f32 fs)), (1, .fv (.vw (some 1) ⟨.f32, ys⟩)), (5, .fv (.own 0)), (7, .fv (.vw none ⟨.f32, av⟩)), (8, .fv (.own 1)), (10, .fv (.vw none ⟨.f32, cs⟩)), (11, .fv (.el (.sc (.fl .f32 a)))), (15, .fv (.vv none .f32 hs)), (16, .fv (.el (.sc (.int .i64 n)))), (17, .fv (.el (.sc (.int .i64 i)))), (26, .fv (.vv none .f32 bs)), (27, .fv (.el (.sc (.int .i64 n2)))), (28, .fv (.el (.sc (.int .i64 q)))), (32, .fv (.vw none ⟨.f32, xs⟩)), (33, .fv (.el (.sc (.int .i64 n3)))), (34, .fv (.el (.sc (.int .i64 p))))], [some ⟨23, ⟨.lf, gs⟩⟩, some ⟨24, ⟨.f32, rs⟩⟩]⟩ => (match ((decide (n3 = (xs.length : Int)) && (decide (p = 0) && (Nat.ble xs.length big && Nat.ble xs.length cs.length))) : Bool) with | true => k (.exit 4) ⟨[(0, .fv (.vv none .f32 fs)), (1, .fv (.vw (some 1) ⟨.f32, ys⟩)), (5, .fv (.own 0)), (7, .fv (.vw none ⟨.f32, av⟩)), (8, .fv (.own 1)), (11, .fv (.el (.sc (.fl .f32 (rep (dotF xs cs) (xs.length) 0 (a : Nat)))))), (15, .fv (.vv none .f32 hs)), (16, .fv (.el (.sc (.int .i64 n)))), (17, .fv (.el (.sc (.int .i64 i)))), (26, .fv (.vv none .f32 bs)), (27, .fv (.el (.sc (.int .i64 n2)))), (28, .fv (.el (.sc (.int .i64 q))))], [some ⟨23, ⟨.lf, (gs : List ((List Nat)))⟩⟩, some ⟨24, ⟨.f32, (rs : List Nat)⟩⟩]⟩ | false => none)
  | _ => none
def l30 : Loops := fun key s k => bif Nat.beq key 3 then lp30 s k else bif Nat.beq key 7 then lp30_1 s k else bif Nat.beq key 11 then lp30_2 s k else none
theorem st30 (fs : List (List Nat)) (ys : List Nat) (hs : List (List Nat)) (n : Int) (i : Int) (gs : List ((List Nat))) (m : Nat) (k : Ex → St → R) : iterK a30 [0, 1, 5, 15, 16, 17] [5] (codeK T1 a30 l30 Try.f30.ntmps (loopAt Try.f30 0)) (m + 1) ⟨[(0, .fv (.vv none .f32 fs)), (1, .fv (.vw (some 1) ⟨.f32, ys⟩)), (5, .fv (.own 0)), (15, .fv (.vv none .f32 hs)), (16, .fv (.el (.sc (.int .i64 n)))), (17, .fv (.el (.sc (.int .i64 i))))], [some ⟨23, ⟨.lf, gs⟩⟩]⟩ k = (match (decide ((i : Int) < n) : Bool) with | true => (match (decide (0 ≤ (i : Int) ∧ (i : Int) < (hs.length : Int)) : Bool) with | true => (match (hs : List (List Nat))[Int.toNat i]? with | some x1 => (match (decide (fs.length ≤ 1099511627776) : Bool) with | true => (match (decide ((fs : List (List Nat)).length < 1099511627776) && true : Bool) with | true => (match ((decide ((((((fs : List (List Nat)) ++ [ys])).length : Int)) = ((((fs : List (List Nat)) ++ [ys])).length : Int)) && (decide (0 = 0) && (Nat.ble (((fs : List (List Nat)) ++ [ys])).length big && (fits1 x1 (((fs : List (List Nat)) ++ [ys])) && Nat.ble (([] : List Nat).length + (((fs : List (List Nat)) ++ [ys])).length) big)))) : Bool) with | true => (match (decide (((gs : List ((List Nat))) : List (List Nat)).length + ([rep (fun j rs => rs ++ [dotP x1 ((((fs : List (List Nat)) ++ [ys])).getD j [])]) ((((fs : List (List Nat)) ++ [ys])).length) 0 (([] : List Nat) : (List Nat))] : List (List Nat)).length ≤ 1099511627776) : Bool) with | true => iterK a30 [0, 1, 5, 15, 16, 17] [5] (codeK T1 a30 l30 Try.f30.ntmps (loopAt Try.f30 0)) m ⟨[(0, .fv (.vv none .f32 fs)), (1, .fv (.vw (some 1) ⟨.f32, ys⟩)), (5, .fv (.own 0)), (15, .fv (.vv none .f32 hs)), (16, .fv (.el (.sc (.int .i64 n)))), (17, .fv (.el (.sc (.int .i64 (IntKind.i64.wrap (i + 1))))))], [some ⟨23, ⟨.lf, ((gs : List ((List Nat))) : List (List Nat)) ++ ([rep (fun j rs => rs ++ [dotP x1 ((((fs : List (List Nat)) ++ [ys])).getD j [])]) ((((fs : List (List Nat)) ++ [ys])).length) 0 (([] : List Nat) : (List Nat))])⟩⟩]⟩ k | false => none) | false => none) | false => none) | false => none) | none => none) | false => none) | false => k (.exit 0) ⟨[(5, .fv (.own 0))], [some ⟨23, ⟨.lf, gs⟩⟩]⟩) := by kernel_rfl
theorem ind30 (fs : List (List Nat)) (ys : List Nat) (hs : List (List Nat)) (hx : (Nat.ble hs.length big) = true) (hfq : (Nat.ble (fs.length + 1) big) = true) (hal : (fitsA hs (fs ++ [ys])) = true) (k : Ex → St → R) : ∀ (m j : Nat) (gs : List (List Nat)), gs.length + m ≤ 1099511627776 → 0 ≤ j → j + m = hs.length → iterK a30 [0, 1, 5, 15, 16, 17] [5] (codeK T1 a30 l30 Try.f30.ntmps (loopAt Try.f30 0)) (m + 1) ⟨[(0, .fv (.vv none .f32 fs)), (1, .fv (.vw (some 1) ⟨.f32, ys⟩)), (5, .fv (.own 0)), (15, .fv (.vv none .f32 hs)), (16, .fv (.el (.sc (.int .i64 (hs.length : Int))))), (17, .fv (.el (.sc (.int .i64 (j : Int)))))], [some ⟨23, ⟨.lf, gs⟩⟩]⟩ k =
    k (.exit 0) ⟨[(5, .fv (.own 0))], [some ⟨23, ⟨.lf, rep (fun j gs => gs ++ [gramR fs ys (hs.getD j [])]) m j (gs : (List (List Nat)))⟩⟩]⟩ := by
  intro m
  induction m with
  | zero =>
    intro j gs hs0 hlo hj
    have hx_ := big_le hx
    have hfq_ := big_le hfq
    have h1 : ¬ (((j : Int) < (hs.length : Int))) := by omega
    rw [st30]
    simp only [h1, rep, decide_false] <;> rfl
  | succ m ih =>
    intro j gs hs0 hlo hj
    have hx_ := big_le hx
    have hfq_ := big_le hfq
    have h1 : ((j : Int) < (hs.length : Int)) := by omega
    have hb : (0 : Int) ≤ ((j : Nat) : Int) ∧ ((j : Nat) : Int) < (hs.length : Int) := by omega
    have hq : hs[Int.toNat ((j : Nat) : Int)]? = some (hs.getD (j) []) := getI (by omega)
    have hp : hs[j]? = some (hs.getD (j) []) := getI2 (by omega)
    have hgl : gs.length + 1 ≤ 1099511627776 := by omega
    have hbq : Nat.beq 24 24 = true := rfl
    have wn : IntKind.i64.wrap ((j : Int) + 1) = ((j + 1 : Nat) : Int) := wrapN (by omega) (by omega)
    rw [st30]
    simp only [h1, wn, hb, hq, hp, hgl, hbq, and_self, decide_true, Bool.and_true, Int.le_refl]
    have e1 : fits1 (hs.getD j []) (fs ++ [ys]) = true := fitsA_get hal (by omega)
    have e0 : Nat.ble (fs ++ [ys]).length big = true := by
      rw [List.length_append, List.length_singleton]
      exact hfq
    have e4 : Nat.ble (([] : List Nat).length + (fs ++ [ys]).length) big = true := by
      rw [List.length_nil, Nat.zero_add]
      exact e0
    have e5 := gramR_run fs ys (hs.getD j [])
    have e7 : fs.length ≤ 1099511627776 := by omega
    have e8 : fs.length < 1099511627776 := by omega
    simp only [e0, e1, e4, e5, e7, e8, hgl, List.length_singleton, decide_true, Bool.and_self, Bool.true_and, Bool.and_true]
    exact ih (j + 1) (gs ++ [gramR fs ys (hs.getD j [])]) (by simp; omega) (by omega) (by omega)

theorem lk30 : LOK T1 a30 l30 Try.f30.ntmps (loopAt Try.f30 0) := by
  intro ins outs hA s k out h
  have hA' : ([0, 1, 5, 15, 16, 17], [5]) = (ins, outs) := Option.some.inj ((show a30.lp (firstRegion (loopAt Try.f30 0)) = some ([0, 1, 5, 15, 16, 17], [5]) by kernel_rfl).symm.trans hA)
  cases hA'
  have hk : firstRegion (loopAt Try.f30 0) = 3 := by kernel_rfl
  rw [hk] at h
  change lp30 s k = some out at h
  unfold lp30 at h
  split at h
  · rename_i fs ys hs n i gs
    cases hg : (decide (n = (hs.length : Int)) && (decide (i = 0) && (Nat.ble hs.length big && (Nat.ble (fs.length + 1) big && (fitsA hs (fs ++ [ys]) && Nat.ble (gs.length + hs.length) big))))) with
    | false => rw [hg] at h; cases h
    | true =>
      rw [hg] at h
      simp only [Bool.and_eq_true, decide_eq_true_eq] at hg
      obtain ⟨rfl, rfl, hx, hfq, hal, gs0⟩ := hg
      refine ⟨(hs.length) + 1, ?_⟩
      have hx_ := big_le hx
      have hfq_ := big_le hfq
      have gs0_ := big_le gs0
      exact (ind30 fs ys hs hx hfq hal k (hs.length) 0 gs (by omega) (by omega) (by omega)).trans h
  · cases h
theorem st30_1 (fs : List (List Nat)) (ys : List Nat) (av : List Nat) (hs : List (List Nat)) (n : Int) (i : Int) (bs : List (List Nat)) (n2 : Int) (q : Int) (gs : List ((List Nat))) (rs : List Nat) (m : Nat) (k : Ex → St → R) : iterK a30 [0, 1, 5, 7, 8, 15, 16, 17, 26, 27, 28] [0, 1, 5, 8, 15, 16, 17] (codeK T1 a30 l30 Try.f30.ntmps (loopAt Try.f30 1)) (m + 1) ⟨[(0, .fv (.vv none .f32 fs)), (1, .fv (.vw (some 1) ⟨.f32, ys⟩)), (5, .fv (.own 0)), (7, .fv (.vw none ⟨.f32, av⟩)), (8, .fv (.own 1)), (15, .fv (.vv none .f32 hs)), (16, .fv (.el (.sc (.int .i64 n)))), (17, .fv (.el (.sc (.int .i64 i)))), (26, .fv (.vv none .f32 bs)), (27, .fv (.el (.sc (.int .i64 n2)))), (28, .fv (.el (.sc (.int .i64 q))))], [some ⟨23, ⟨.lf, gs⟩⟩, some ⟨24, ⟨.f32, rs⟩⟩]⟩ k = (match (decide ((q : Int) < n2) : Bool) with | true => (match (decide (0 ≤ (q : Int) ∧ (q : Int) < (bs.length : Int)) : Bool) with | true => (match (bs : List (List Nat))[Int.toNat q]? with | some x1 => (match ((decide (((av.length : Int)) = (av.length : Int)) && (decide (0 = 0) && (Nat.ble av.length big && Nat.ble av.length x1.length))) : Bool) with | true => (match (Nat.beq 24 24 && decide (((rs : List Nat) : List Nat).length + ([rep (dotF av x1) (av.length) 0 (0 : Nat)] : List Nat).length ≤ 1099511627776) : Bool) with | true => iterK a30 [0, 1, 5, 7, 8, 15, 16, 17, 26, 27, 28] [0, 1, 5, 8, 15, 16, 17] (codeK T1 a30 l30 Try.f30.ntmps (loopAt Try.f30 1)) m ⟨[(0, .fv (.vv none .f32 fs)), (1, .fv (.vw (some 1) ⟨.f32, ys⟩)), (5, .fv (.own 0)), (7, .fv (.vw none ⟨.f32, av⟩)), (8, .fv (.own 1)), (15, .fv (.vv none .f32 hs)), (16, .fv (.el (.sc (.int .i64 n)))), (17, .fv (.el (.sc (.int .i64 i)))), (26, .fv (.vv none .f32 bs)), (27, .fv (.el (.sc (.int .i64 n2)))), (28, .fv (.el (.sc (.int .i64 (IntKind.i64.wrap (q + 1))))))], [some ⟨23, ⟨.lf, (gs : List ((List Nat)))⟩⟩, some ⟨24, ⟨.f32, ((rs : List Nat) : List Nat) ++ ([rep (dotF av x1) (av.length) 0 (0 : Nat)])⟩⟩]⟩ k | false => none) | false => none) | none => none) | false => none) | false => k (.exit 2) ⟨[(0, .fv (.vv none .f32 fs)), (1, .fv (.vw (some 1) ⟨.f32, ys⟩)), (5, .fv (.own 0)), (8, .fv (.own 1)), (15, .fv (.vv none .f32 hs)), (16, .fv (.el (.sc (.int .i64 n)))), (17, .fv (.el (.sc (.int .i64 i))))], [some ⟨23, ⟨.lf, gs⟩⟩, some ⟨24, ⟨.f32, rs⟩⟩]⟩) := by kernel_rfl
theorem ind30_1 (fs : List (List Nat)) (ys : List Nat) (av : List Nat) (hs : List (List Nat)) (n : Int) (i : Int) (bs : List (List Nat)) (gs : List ((List Nat))) (hx : (Nat.ble bs.length big) = true) (hal : (fits1 av bs) = true) (k : Ex → St → R) : ∀ (m j : Nat) (rs : List Nat), rs.length + m ≤ 1099511627776 → 0 ≤ j → j + m = bs.length → iterK a30 [0, 1, 5, 7, 8, 15, 16, 17, 26, 27, 28] [0, 1, 5, 8, 15, 16, 17] (codeK T1 a30 l30 Try.f30.ntmps (loopAt Try.f30 1)) (m + 1) ⟨[(0, .fv (.vv none .f32 fs)), (1, .fv (.vw (some 1) ⟨.f32, ys⟩)), (5, .fv (.own 0)), (7, .fv (.vw none ⟨.f32, av⟩)), (8, .fv (.own 1)), (15, .fv (.vv none .f32 hs)), (16, .fv (.el (.sc (.int .i64 n)))), (17, .fv (.el (.sc (.int .i64 i)))), (26, .fv (.vv none .f32 bs)), (27, .fv (.el (.sc (.int .i64 (bs.length : Int))))), (28, .fv (.el (.sc (.int .i64 (j : Int)))))], [some ⟨23, ⟨.lf, gs⟩⟩, some ⟨24, ⟨.f32, rs⟩⟩]⟩ k =
    k (.exit 2) ⟨[(0, .fv (.vv none .f32 fs)), (1, .fv (.vw (some 1) ⟨.f32, ys⟩)), (5, .fv (.own 0)), (8, .fv (.own 1)), (15, .fv (.vv none .f32 hs)), (16, .fv (.el (.sc (.int .i64 n)))), (17, .fv (.el (.sc (.int .i64 i))))], [some ⟨23, ⟨.lf, gs⟩⟩, some ⟨24, ⟨.f32, rep (fun j rs => rs ++ [dotP av (bs.getD j [])]) m j (rs : (List Nat))⟩⟩]⟩ := by
  intro m
  induction m with
  | zero =>
    intro j rs hs0 hlo hj
    have hx_ := big_le hx
    have h1 : ¬ (((j : Int) < (bs.length : Int))) := by omega
    rw [st30_1]
    simp only [h1, rep, decide_false] <;> rfl
  | succ m ih =>
    intro j rs hs0 hlo hj
    have hx_ := big_le hx
    have h1 : ((j : Int) < (bs.length : Int)) := by omega
    have hb : (0 : Int) ≤ ((j : Nat) : Int) ∧ ((j : Nat) : Int) < (bs.length : Int) := by omega
    have hq : bs[Int.toNat ((j : Nat) : Int)]? = some (bs.getD (j) []) := getI (by omega)
    have hp : bs[j]? = some (bs.getD (j) []) := getI2 (by omega)
    have hbq : Nat.beq 24 24 = true := rfl
    have hrl : rs.length + 1 ≤ 1099511627776 := by omega
    have wn : IntKind.i64.wrap ((j : Int) + 1) = ((j + 1 : Nat) : Int) := wrapN (by omega) (by omega)
    rw [st30_1]
    simp only [h1, wn, hb, hq, hp, hbq, hrl, and_self, decide_true, Bool.and_true, Int.le_refl]
    have e2 := fits1_big hal
    have e3 := fits1_get (j := j) hal (by omega)
    have e5 : rep (dotF av (bs.getD j [])) av.length 0 0 = dotP av (bs.getD j []) := rfl
    simp only [e2, e3, e5, hrl, List.length_singleton, decide_true, Bool.and_self, Bool.true_and]
    exact ih (j + 1) (rs ++ [dotP av (bs.getD j [])]) (by simp; omega) (by omega) (by omega)

theorem lk30_1 : LOK T1 a30 l30 Try.f30.ntmps (loopAt Try.f30 1) := by
  intro ins outs hA s k out h
  have hA' : ([0, 1, 5, 7, 8, 15, 16, 17, 26, 27, 28], [0, 1, 5, 8, 15, 16, 17]) = (ins, outs) := Option.some.inj ((show a30.lp (firstRegion (loopAt Try.f30 1)) = some ([0, 1, 5, 7, 8, 15, 16, 17, 26, 27, 28], [0, 1, 5, 8, 15, 16, 17]) by kernel_rfl).symm.trans hA)
  cases hA'
  have hk : firstRegion (loopAt Try.f30 1) = 7 := by kernel_rfl
  rw [hk] at h
  change lp30_1 s k = some out at h
  unfold lp30_1 at h
  split at h
  · rename_i fs ys av hs n i bs n2 q gs rs
    cases hg : (decide (n2 = (bs.length : Int)) && (decide (q = 0) && (Nat.ble bs.length big && (fits1 av bs && Nat.ble (rs.length + bs.length) big)))) with
    | false => rw [hg] at h; cases h
    | true =>
      rw [hg] at h
      simp only [Bool.and_eq_true, decide_eq_true_eq] at hg
      obtain ⟨rfl, rfl, hx, hal, gs0⟩ := hg
      refine ⟨(bs.length) + 1, ?_⟩
      have hx_ := big_le hx
      have gs0_ := big_le gs0
      exact (ind30_1 fs ys av hs n i bs gs hx hal k (bs.length) 0 rs (by omega) (by omega) (by omega)).trans h
  · cases h
theorem st30_2 (fs : List (List Nat)) (ys : List Nat) (av : List Nat) (cs : List Nat) (a : Nat) (hs : List (List Nat)) (n : Int) (i : Int) (bs : List (List Nat)) (n2 : Int) (q : Int) (xs : List Nat) (n3 : Int) (p : Int) (gs : List ((List Nat))) (rs : List Nat) (m : Nat) (k : Ex → St → R) : iterK a30 [0, 1, 5, 7, 8, 10, 11, 15, 16, 17, 26, 27, 28, 32, 33, 34] [0, 1, 5, 7, 8, 11, 15, 16, 17, 26, 27, 28] (codeK T1 a30 l30 Try.f30.ntmps (loopAt Try.f30 2)) (m + 1) ⟨[(0, .fv (.vv none .f32 fs)), (1, .fv (.vw (some 1) ⟨.f32, ys⟩)), (5, .fv (.own 0)), (7, .fv (.vw none ⟨.f32, av⟩)), (8, .fv (.own 1)), (10, .fv (.vw none ⟨.f32, cs⟩)), (11, .fv (.el (.sc (.fl .f32 a)))), (15, .fv (.vv none .f32 hs)), (16, .fv (.el (.sc (.int .i64 n)))), (17, .fv (.el (.sc (.int .i64 i)))), (26, .fv (.vv none .f32 bs)), (27, .fv (.el (.sc (.int .i64 n2)))), (28, .fv (.el (.sc (.int .i64 q)))), (32, .fv (.vw none ⟨.f32, xs⟩)), (33, .fv (.el (.sc (.int .i64 n3)))), (34, .fv (.el (.sc (.int .i64 p))))], [some ⟨23, ⟨.lf, gs⟩⟩, some ⟨24, ⟨.f32, rs⟩⟩]⟩ k = (match (decide ((p : Int) < n3) : Bool) with | true => (match (decide (0 ≤ (p : Int) ∧ (p : Int) < (xs.length : Int)) && true : Bool) with | true => (match (xs : List Nat)[Int.toNat p]? with | some x1 => (match (decide (0 ≤ (p : Int) ∧ (p : Int) < (cs.length : Int)) && true : Bool) with | true => (match (cs : List Nat)[Int.toNat p]? with | some x2 => iterK a30 [0, 1, 5, 7, 8, 10, 11, 15, 16, 17, 26, 27, 28, 32, 33, 34] [0, 1, 5, 7, 8, 11, 15, 16, 17, 26, 27, 28] (codeK T1 a30 l30 Try.f30.ntmps (loopAt Try.f30 2)) m ⟨[(0, .fv (.vv none .f32 fs)), (1, .fv (.vw (some 1) ⟨.f32, ys⟩)), (5, .fv (.own 0)), (7, .fv (.vw none ⟨.f32, av⟩)), (8, .fv (.own 1)), (10, .fv (.vw none ⟨.f32, cs⟩)), (11, .fv (.el (.sc (.fl .f32 (fop .add .f32 a (fop .mul .f32 x1 x2)))))), (15, .fv (.vv none .f32 hs)), (16, .fv (.el (.sc (.int .i64 n)))), (17, .fv (.el (.sc (.int .i64 i)))), (26, .fv (.vv none .f32 bs)), (27, .fv (.el (.sc (.int .i64 n2)))), (28, .fv (.el (.sc (.int .i64 q)))), (32, .fv (.vw none ⟨.f32, xs⟩)), (33, .fv (.el (.sc (.int .i64 n3)))), (34, .fv (.el (.sc (.int .i64 (IntKind.i64.wrap (p + 1))))))], [some ⟨23, ⟨.lf, gs⟩⟩, some ⟨24, ⟨.f32, rs⟩⟩]⟩ k | none => none) | false => none) | none => none) | false => none) | false => k (.exit 4) ⟨[(0, .fv (.vv none .f32 fs)), (1, .fv (.vw (some 1) ⟨.f32, ys⟩)), (5, .fv (.own 0)), (7, .fv (.vw none ⟨.f32, av⟩)), (8, .fv (.own 1)), (11, .fv (.el (.sc (.fl .f32 a)))), (15, .fv (.vv none .f32 hs)), (16, .fv (.el (.sc (.int .i64 n)))), (17, .fv (.el (.sc (.int .i64 i)))), (26, .fv (.vv none .f32 bs)), (27, .fv (.el (.sc (.int .i64 n2)))), (28, .fv (.el (.sc (.int .i64 q))))], [some ⟨23, ⟨.lf, gs⟩⟩, some ⟨24, ⟨.f32, rs⟩⟩]⟩) := by kernel_rfl
theorem ind30_2 (fs : List (List Nat)) (ys : List Nat) (av : List Nat) (cs : List Nat) (hs : List (List Nat)) (n : Int) (i : Int) (bs : List (List Nat)) (n2 : Int) (q : Int) (xs : List Nat) (gs : List ((List Nat))) (rs : List Nat) (hx : (Nat.ble xs.length big) = true) (hl : (Nat.ble xs.length cs.length) = true) (k : Ex → St → R) : ∀ (m j : Nat) (a : Nat), 0 ≤ j → j + m = xs.length → iterK a30 [0, 1, 5, 7, 8, 10, 11, 15, 16, 17, 26, 27, 28, 32, 33, 34] [0, 1, 5, 7, 8, 11, 15, 16, 17, 26, 27, 28] (codeK T1 a30 l30 Try.f30.ntmps (loopAt Try.f30 2)) (m + 1) ⟨[(0, .fv (.vv none .f32 fs)), (1, .fv (.vw (some 1) ⟨.f32, ys⟩)), (5, .fv (.own 0)), (7, .fv (.vw none ⟨.f32, av⟩)), (8, .fv (.own 1)), (10, .fv (.vw none ⟨.f32, cs⟩)), (11, .fv (.el (.sc (.fl .f32 a)))), (15, .fv (.vv none .f32 hs)), (16, .fv (.el (.sc (.int .i64 n)))), (17, .fv (.el (.sc (.int .i64 i)))), (26, .fv (.vv none .f32 bs)), (27, .fv (.el (.sc (.int .i64 n2)))), (28, .fv (.el (.sc (.int .i64 q)))), (32, .fv (.vw none ⟨.f32, xs⟩)), (33, .fv (.el (.sc (.int .i64 (xs.length : Int))))), (34, .fv (.el (.sc (.int .i64 (j : Int)))))], [some ⟨23, ⟨.lf, gs⟩⟩, some ⟨24, ⟨.f32, rs⟩⟩]⟩ k =
    k (.exit 4) ⟨[(0, .fv (.vv none .f32 fs)), (1, .fv (.vw (some 1) ⟨.f32, ys⟩)), (5, .fv (.own 0)), (7, .fv (.vw none ⟨.f32, av⟩)), (8, .fv (.own 1)), (11, .fv (.el (.sc (.fl .f32 (rep (dotF xs cs) m j (a : Nat)))))), (15, .fv (.vv none .f32 hs)), (16, .fv (.el (.sc (.int .i64 n)))), (17, .fv (.el (.sc (.int .i64 i)))), (26, .fv (.vv none .f32 bs)), (27, .fv (.el (.sc (.int .i64 n2)))), (28, .fv (.el (.sc (.int .i64 q))))], [some ⟨23, ⟨.lf, gs⟩⟩, some ⟨24, ⟨.f32, rs⟩⟩]⟩ := by
  intro m
  induction m with
  | zero =>
    intro j a hlo hj
    have hx_ := big_le hx
    have hl_ := Nat.le_of_ble_eq_true hl
    have h1 : ¬ (((j : Int) < (xs.length : Int))) := by omega
    rw [st30_2]
    simp only [h1, rep, decide_false] <;> rfl
  | succ m ih =>
    intro j a hlo hj
    have hx_ := big_le hx
    have hl_ := Nat.le_of_ble_eq_true hl
    have h1 : ((j : Int) < (xs.length : Int)) := by omega
    have xb : (0 : Int) ≤ ((j : Nat) : Int) ∧ ((j : Nat) : Int) < (xs.length : Int) := by omega
    have xq : xs[Int.toNat ((j : Nat) : Int)]? = some (xs.getD (j) 0) := getI (by omega)
    have xp : xs[j]? = some (xs.getD (j) 0) := getI2 (by omega)
    have cl : j < cs.length := by omega
    have cb : (0 : Int) ≤ ((j : Nat) : Int) ∧ ((j : Nat) : Int) < (cs.length : Int) := by omega
    have cq : cs[Int.toNat ((j : Nat) : Int)]? = some (cs.getD (j) 0) := getI (by omega)
    have cp : cs[j]? = some (cs.getD (j) 0) := getI2 (by omega)
    have wn : IntKind.i64.wrap ((j : Int) + 1) = ((j + 1 : Nat) : Int) := wrapN (by omega) (by omega)
    rw [st30_2]
    simp only [h1, wn, xb, xq, xp, cl, cb, cq, cp, and_self, decide_true, Bool.and_true, Int.le_refl]
    exact ih (j + 1) _ (by omega) (by omega)

theorem lk30_2 : LOK T1 a30 l30 Try.f30.ntmps (loopAt Try.f30 2) := by
  intro ins outs hA s k out h
  have hA' : ([0, 1, 5, 7, 8, 10, 11, 15, 16, 17, 26, 27, 28, 32, 33, 34], [0, 1, 5, 7, 8, 11, 15, 16, 17, 26, 27, 28]) = (ins, outs) := Option.some.inj ((show a30.lp (firstRegion (loopAt Try.f30 2)) = some ([0, 1, 5, 7, 8, 10, 11, 15, 16, 17, 26, 27, 28, 32, 33, 34], [0, 1, 5, 7, 8, 11, 15, 16, 17, 26, 27, 28]) by kernel_rfl).symm.trans hA)
  cases hA'
  have hk : firstRegion (loopAt Try.f30 2) = 11 := by kernel_rfl
  rw [hk] at h
  change lp30_2 s k = some out at h
  unfold lp30_2 at h
  split at h
  · rename_i fs ys av cs a hs n i bs n2 q xs n3 p gs rs
    cases hg : (decide (n3 = (xs.length : Int)) && (decide (p = 0) && (Nat.ble xs.length big && Nat.ble xs.length cs.length))) with
    | false => rw [hg] at h; cases h
    | true =>
      rw [hg] at h
      simp only [Bool.and_eq_true, decide_eq_true_eq] at hg
      obtain ⟨rfl, rfl, hx, hl⟩ := hg
      refine ⟨(xs.length) + 1, ?_⟩
      have hx_ := big_le hx
      have hl_ := Nat.le_of_ble_eq_true hl
      exact (ind30_2 fs ys av cs hs n i bs n2 q xs gs rs hx hl k (xs.length) 0 a (by omega) (by omega)).trans h
  · cases h
theorem e30 (fs : List (List Nat)) (ys : List Nat) : runFn T1 a30 l30 Try.f30 [.vv none .f32 fs, .vw none ⟨.f32, ys⟩] = (match ((decide (((fs.length : Int)) = (fs.length : Int)) && (decide (0 = 0) && (Nat.ble fs.length big && (Nat.ble (fs.length + 1) big && (fitsA fs (fs ++ [ys]) && Nat.ble ((([] : List (List Nat)) : List ((List Nat))).length + fs.length) big))))) : Bool) with | true => some ⟨[.new2 23 ⟨.lf, rep (fun j gs => gs ++ [gramR fs ys (fs.getD j [])]) (fs.length) 0 ((([] : List (List Nat)) : List ((List Nat))) : (List (List Nat)))⟩], none⟩ | false => none) := by kernel_rfl
theorem s30 (fs : List (List Nat)) (ys : List Nat) (hg : (rowsFit fs ys) = true) : runFn T1 a30 l30 Try.f30 [.vv none .f32 fs, .vw none ⟨.f32, ys⟩] = some ⟨[.new2 23 ⟨.lf, gram fs ys⟩], none⟩ := by
  rw [e30]
  obtain ⟨h1, h2⟩ := rowsFit_A hg
  have e1 : Nat.ble fs.length big = true := big_of (by omega)
  have e2 : Nat.ble (fs.length + 1) big = true := big_of (by omega)
  have e4 : Nat.ble (([] : List (List Nat)).length + fs.length) big = true := by
    rw [List.length_nil, Nat.zero_add]
    exact e1
  simp only [e1, e2, h2, e4, gram_run, decide_true, Bool.and_self]
theorem c30 (fs : List (List Nat)) (ys : List Nat) (k : List RV → R) (out : Out) (h : (match (rowsFit fs ys : Bool) with | true => k [.new2 23 ⟨.lf, gram fs ys⟩] | false => none) = some out) : ∃ rs, Real Try.prog 30 ∧ COK Try.prog 30 [.vv none .f32 fs, .vw none ⟨.f32, ys⟩] rs ∧ k rs = some out := by
  cases g0 : (rowsFit fs ys : Bool) with
  | true =>
    rw [g0] at h
    exact ⟨_, real Try.func30 (by kernel_rfl), fn_ok tok1 (A := a30) (L := l30) (r := none) Try.func30 (by kernel_rfl) (by kernel_rfl) (loops3 (by kernel_rfl) lk30 lk30_1 lk30_2) (by rw [s30 _ _ g0]), h⟩
  | false =>
    rw [g0] at h
    cases h

/-! spec.l05Line -/
theorem e32 (xs : List LineV) (j : Nat) : runFn T1 none0 noL Try.f32 [.pt ⟨.v ⟨.line, xs⟩, 4, j, 0⟩] = (match (xs : List LineV)[j]? with | some x1 => (match (fin x1.p : Bool) with | true => (match (xs : List LineV)[j]? with | some x2 => (match (fin x2.h : Bool) with | true => (match (xs : List LineV)[j]? with | some x3 => (match (fin x3.w : Bool) with | true => (match (xs : List LineV)[j]? with | some x4 => (match (fcmp .gtr .f32 x4.w 0 : Bool) with | true => (match (xs : List LineV)[j]? with | some x5 => some ⟨[.el (.sc (.bo (within x5.k 0 3)))], none⟩ | none => none) | false => some ⟨[.el (.sc (.bo false))], none⟩) | none => none) | false => some ⟨[.el (.sc (.bo false))], none⟩) | none => none) | false => some ⟨[.el (.sc (.bo false))], none⟩) | none => none) | false => some ⟨[.el (.sc (.bo false))], none⟩) | none => none) := by kernel_rfl
theorem s32 (xs : List LineV) (j : Nat) : runFn T1 none0 noL Try.f32 [.pt ⟨.v ⟨.line, xs⟩, 4, j, 0⟩] = (match xs[j]? with | some l => some ⟨[.el (.sc (.bo (okLine l)))], none⟩ | none => none) := by
  rw [e32]
  cases h : xs[j]? with
  | none => simp [h]
  | some l =>
    obtain ⟨lp, lh, lw, lk⟩ := l
    simp only [h]
    unfold okLine above
    cases fin lp <;> cases fin lh <;> cases fin lw <;> cases fcmp .gtr .f32 lw 0 <;> simp
theorem c32 (xs : List LineV) (j : Nat) (k : List RV → R) (out : Out) (h : (match xs[j]? with | some l => k [.el (.sc (.bo (okLine l)))] | none => none) = some out) : ∃ rs, Real Try.prog 32 ∧ COK Try.prog 32 [.pt ⟨.v ⟨.line, xs⟩, 4, j, 0⟩] rs ∧ k rs = some out := by
  cases g0 : (xs[j]?) with
  | some l =>
    rw [g0] at h
    exact ⟨_, real Try.func32 (by kernel_rfl), fn_ok tok1 (A := none0) (L := noL) (r := none) Try.func32 (by kernel_rfl) (by kernel_rfl) (loops0 (by kernel_rfl)) (by rw [s32, g0]), h⟩
  | none =>
    rw [g0] at h
    cases h

/-! spec.l05List -/
def a33 : Ann := ann [(2, [0, 5, 6], [0])] [2] 0
def lp33 : St → (Ex → St → R) → R := fun s k => match s with
  | ⟨[(0, .fv (.vw (some 0) ⟨.f32, xs⟩)), (5, .fv (.el (.sc (.int .i64 n)))), (6, .fv (.el (.sc (.int .i64 i))))], []⟩ => (match ((decide (n = (xs.length : Int)) && (decide (i = 0) && Nat.ble xs.length big)) : Bool) with | true => (match (xs.all fin : Bool) with | true => k (.exit 0) ⟨[(0, .fv (.vw (some 0) ⟨.f32, xs⟩))], []⟩ | false => k .ret ⟨[(2, .fv (.el (.sc (.bo false))))], []⟩) | false => none)
  | _ => none
def l33 : Loops := fun key s k => bif Nat.beq key 2 then lp33 s k else none
theorem st33 (xs : List Nat) (n : Int) (i : Int) (m : Nat) (k : Ex → St → R) : iterK a33 [0, 5, 6] [0] (codeK T1 a33 l33 Try.f33.ntmps (loopAt Try.f33 0)) (m + 1) ⟨[(0, .fv (.vw (some 0) ⟨.f32, xs⟩)), (5, .fv (.el (.sc (.int .i64 n)))), (6, .fv (.el (.sc (.int .i64 i))))], []⟩ k = (match (decide ((i : Int) < n) : Bool) with | true => (match (decide (0 ≤ (i : Int) ∧ (i : Int) < (xs.length : Int)) && true : Bool) with | true => (match (xs : List Nat)[Int.toNat i]? with | some x1 => (match (!(fin x1) : Bool) with | true => k .ret ⟨[(2, .fv (.el (.sc (.bo false))))], []⟩ | false => iterK a33 [0, 5, 6] [0] (codeK T1 a33 l33 Try.f33.ntmps (loopAt Try.f33 0)) m ⟨[(0, .fv (.vw (some 0) ⟨.f32, xs⟩)), (5, .fv (.el (.sc (.int .i64 n)))), (6, .fv (.el (.sc (.int .i64 (IntKind.i64.wrap (i + 1))))))], []⟩ k) | none => none) | false => none) | false => k (.exit 0) ⟨[(0, .fv (.vw (some 0) ⟨.f32, xs⟩))], []⟩) := by kernel_rfl
theorem ind33 (xs : List Nat)  (hx : Nat.ble xs.length big = true) (k : Ex → St → R) : ∀ (m j : Nat), j + m = xs.length → iterK a33 [0, 5, 6] [0] (codeK T1 a33 l33 Try.f33.ntmps (loopAt Try.f33 0)) (m + 1) ⟨[(0, .fv (.vw (some 0) ⟨.f32, xs⟩)), (5, .fv (.el (.sc (.int .i64 (xs.length : Int))))), (6, .fv (.el (.sc (.int .i64 (j : Int)))))], []⟩ k =
    (match (xs.drop j).all fin with
    | true => k (.exit 0) ⟨[(0, .fv (.vw (some 0) ⟨.f32, xs⟩))], []⟩
    | false => k .ret ⟨[(2, .fv (.el (.sc (.bo false))))], []⟩) := by
  intro m
  induction m with
  | zero =>
    intro j hj
    have h1 : ¬ ((j : Int) < (xs.length : Int)) := by omega
    rw [st33, List.drop_of_length_le (by omega)]
    simp [h1]
  | succ m ih =>
    intro j hj
    have hlt : j < xs.length := by omega
    have h1 : ((j : Int) < (xs.length : Int)) := by omega
    have h2 : (0 : Int) ≤ (j : Int) := by omega
    rw [st33, wrap_succ hlt hx]
    have h3 : xs[Int.toNat (j : Int)]? = some xs[j] := by simp [hlt]
    rw [List.drop_eq_getElem_cons hlt, List.all_cons, ih (j + 1) (by omega)]
    simp only [h1, h2, h3, and_self, decide_true, Bool.and_true]
    cases hp : fin xs[j] <;> simp [hp]

theorem lk33 : LOK T1 a33 l33 Try.f33.ntmps (loopAt Try.f33 0) := by
  intro ins outs hA s k out h
  have hA' : ([0, 5, 6], [0]) = (ins, outs) := Option.some.inj ((show a33.lp (firstRegion (loopAt Try.f33 0)) = some ([0, 5, 6], [0]) by kernel_rfl).symm.trans hA)
  cases hA'
  have hk : firstRegion (loopAt Try.f33 0) = 2 := by kernel_rfl
  rw [hk] at h
  change lp33 s k = some out at h
  unfold lp33 at h
  split at h
  · rename_i xs n i
    cases hg : (decide (n = (xs.length : Int)) && (decide (i = 0) && Nat.ble xs.length big)) with
    | false => rw [hg] at h; cases h
    | true =>
      rw [hg] at h
      simp only [Bool.and_eq_true, decide_eq_true_eq] at hg
      obtain ⟨rfl, rfl, hx⟩ := hg
      refine ⟨xs.length + 1, ?_⟩
      exact (ind33 xs  hx k xs.length 0 (by omega)).trans h
  · cases h
theorem e33 (xs : List Nat) : runFn T1 a33 l33 Try.f33 [.vw none ⟨.f32, xs⟩] = (match ((decide ((xs.length : Int) = (xs.length : Int)) && (decide (0 = 0) && Nat.ble xs.length big)) : Bool) with | true => (match (xs.all fin : Bool) with | true => (match (decide (((xs.length : Int) : Int) ≥ 1) : Bool) with | true => some ⟨[.el (.sc (.bo (decide (((xs.length : Int) : Int) ≤ 128))))], none⟩ | false => some ⟨[.el (.sc (.bo false))], none⟩) | false => some ⟨[.el (.sc (.bo false))], none⟩) | false => none) := by kernel_rfl
theorem s33 (xs : List Nat) : runFn T1 a33 l33 Try.f33 [.vw none ⟨.f32, xs⟩] = (match (Nat.ble xs.length big : Bool) with | true => some ⟨[.el (.sc (.bo (listOk xs 1)))], none⟩ | false => none) := by
  rw [e33]
  cases h : Nat.ble xs.length big with
  | false => simp
  | true =>
    unfold listOk
    cases h2 : xs.all fin with
    | false => simp
    | true =>
      have e3 : ((xs.length : Int) ≥ 1) ↔ xs.length ≥ 1 := by omega
      have e4 : ((xs.length : Int) ≤ 128) ↔ xs.length ≤ 128 := by omega
      by_cases h3 : (xs.length : Int) ≥ 1 <;> simp [e4, h3]
theorem c33 (xs : List Nat) (k : List RV → R) (out : Out) (h : (match (Nat.ble xs.length big : Bool) with | true => k [.el (.sc (.bo (listOk xs 1)))] | false => none) = some out) : ∃ rs, Real Try.prog 33 ∧ COK Try.prog 33 [.vw none ⟨.f32, xs⟩] rs ∧ k rs = some out := by
  cases g0 : (Nat.ble xs.length big : Bool) with
  | true =>
    rw [g0] at h
    exact ⟨_, real Try.func33 (by kernel_rfl), fn_ok tok1 (A := a33) (L := l33) (r := none) Try.func33 (by kernel_rfl) (by kernel_rfl) (loops1 (by kernel_rfl) lk33) (by rw [s33, g0]), h⟩
  | false =>
    rw [g0] at h
    cases h

/-! spec.l02Number -/
theorem e43 (c : Nat) : runFn T1 none0 noL Try.f43 [.el (.sc (.fl .f32 c))] = (match (!(fin c) : Bool) with | true => some ⟨[.el (.sc (.fl .f32 0)), .el (.sc (.bo false))], none⟩ | false => some ⟨[.el (.sc (.fl .f32 c)), .el (.sc (.bo true))], none⟩) := by kernel_rfl
theorem s43 (c : Nat) : runFn T1 none0 noL Try.f43 [.el (.sc (.fl .f32 c))] = some ⟨[.el (.sc (.fl .f32 (numOf c))), .el (.sc (.bo (fin c)))], none⟩ := by
  rw [e43]
  unfold numOf
  cases fin c <;> rfl
theorem c43 (c : Nat) (k : List RV → R) (out : Out) (h : k [.el (.sc (.fl .f32 (numOf c))), .el (.sc (.bo (fin c)))] = some out) : ∃ rs, Real Try.prog 43 ∧ COK Try.prog 43 [.el (.sc (.fl .f32 c))] rs ∧ k rs = some out := by
  exact ⟨_, real Try.func43 (by kernel_rfl), fn_ok tok1 (A := none0) (L := noL) (r := none) Try.func43 (by kernel_rfl) (by kernel_rfl) (loops0 (by kernel_rfl)) (by rw [s43]), h⟩

/-! impl.areFinite$1 -/
theorem s55 (c : Nat) : runFn T1 none0 noL Try.f55 [.el (.sc (.fl .f32 c))] = some ⟨[.el (.sc (.bo (notFin c)))], none⟩ := by kernel_rfl
theorem c55 (c : Nat) (k : List RV → R) (out : Out) (h : k [.el (.sc (.bo (notFin c)))] = some out) : ∃ rs, Real Try.prog 55 ∧ COK Try.prog 55 [.el (.sc (.fl .f32 c))] rs ∧ k rs = some out := by
  exact ⟨_, real Try.func55 (by kernel_rfl), fn_ok tok1 (A := none0) (L := noL) (r := none) Try.func55 (by kernel_rfl) (by kernel_rfl) (loops0 (by kernel_rfl)) (by rw [s55]), h⟩

/-! impl.checked -/
theorem e57 (c : Nat) : runFn T1 none0 noL Try.f57 [.el (.sc (.fl .f32 c))] = (match (!(fin c) : Bool) with | true => some ⟨[.el (.sc (.fl .f32 0)), .el (.sc (.bo false))], none⟩ | false => some ⟨[.el (.sc (.fl .f32 c)), .el (.sc (.bo true))], none⟩) := by kernel_rfl
theorem s57 (c : Nat) : runFn T1 none0 noL Try.f57 [.el (.sc (.fl .f32 c))] = some ⟨[.el (.sc (.fl .f32 (numOf c))), .el (.sc (.bo (fin c)))], none⟩ := by
  rw [e57]
  unfold numOf
  cases fin c <;> rfl
theorem c57 (c : Nat) (k : List RV → R) (out : Out) (h : k [.el (.sc (.fl .f32 (numOf c))), .el (.sc (.bo (fin c)))] = some out) : ∃ rs, Real Try.prog 57 ∧ COK Try.prog 57 [.el (.sc (.fl .f32 c))] rs ∧ k rs = some out := by
  exact ⟨_, real Try.func57 (by kernel_rfl), fn_ok tok1 (A := none0) (L := noL) (r := none) Try.func57 (by kernel_rfl) (by kernel_rfl) (loops0 (by kernel_rfl)) (by rw [s57]), h⟩

/-! impl.arePositive$1 -/
theorem e64 (c : Nat) : runFn T1 none0 noL Try.f64 [.el (.sc (.fl .f32 c))] = (match (!(fin c) : Bool) with | true => some ⟨[.el (.sc (.bo true))], none⟩ | false => some ⟨[.el (.sc (.bo (fcmp .leq .f32 c 0)))], none⟩) := by kernel_rfl
theorem s64 (c : Nat) : runFn T1 none0 noL Try.f64 [.el (.sc (.fl .f32 c))] = some ⟨[.el (.sc (.bo (notPos c)))], none⟩ := by
  rw [e64]
  unfold notPos
  cases fin c <;> rfl
theorem c64 (c : Nat) (k : List RV → R) (out : Out) (h : k [.el (.sc (.bo (notPos c)))] = some out) : ∃ rs, Real Try.prog 64 ∧ COK Try.prog 64 [.el (.sc (.fl .f32 c))] rs ∧ k rs = some out := by
  exact ⟨_, real Try.func64 (by kernel_rfl), fn_ok tok1 (A := none0) (L := noL) (r := none) Try.func64 (by kernel_rfl) (by kernel_rfl) (loops0 (by kernel_rfl)) (by rw [s64]), h⟩

/-! math.Inf -/
theorem e67 (n : Int) : runFn T1 none0 noL Try.f67 [.el (.sc (.int .i64 n))] = (match (decide ((n : Int) ≥ 0) : Bool) with | true => some ⟨[.el (.sc (.fl .f64 (cn .f64 (Int.toNat 9218868437227405312))))], none⟩ | false => some ⟨[.el (.sc (.fl .f64 (cn .f64 (Int.toNat 18442240474082181120))))], none⟩) := by kernel_rfl
theorem s67 (n : Int) : runFn T1 none0 noL Try.f67 [.el (.sc (.int .i64 n))] = some ⟨[.el (.sc (.fl .f64 (infOf n)))], none⟩ := by
  rw [e67]
  unfold infOf
  cases decide (n ≥ 0) <;> rfl
theorem c67 (n : Int) (k : List RV → R) (out : Out) (h : k [.el (.sc (.fl .f64 (infOf n)))] = some out) : ∃ rs, Real Try.prog 67 ∧ COK Try.prog 67 [.el (.sc (.int .i64 n))] rs ∧ k rs = some out := by
  exact ⟨_, real Try.func67 (by kernel_rfl), fn_ok tok1 (A := none0) (L := noL) (r := none) Try.func67 (by kernel_rfl) (by kernel_rfl) (loops0 (by kernel_rfl)) (by rw [s67]), h⟩

def S2 : SFn := fun f args k => match f, args with
  | 11, [.vw none ⟨.f32, xs⟩, .vw none ⟨.f32, ys⟩] => (match (Nat.beq xs.length ys.length : Bool) with | true => (match (Nat.ble xs.length big : Bool) with | true => k [.el (.sc (.bo (all2 sameW xs ys)))] | false => none) | false => k [.el (.sc (.bo false))])
  | 18, [.el (.ag [(.fl .f32 ap), (.fl .f32 ah), (.fl .f32 aw), (.int .i64 ak)]), .el (.ag [(.fl .f32 bp), (.fl .f32 bh), (.fl .f32 bw), (.int .i64 bk)])] => k [.el (.sc (.bo (eqLineF ((⟨ap, ah, aw, ak⟩ : LineV)) ((⟨bp, bh, bw, bk⟩ : LineV)))))]
  | 24, [.vv none .f32 fs, .vw none ⟨.f32, ys⟩] => (match (rowsFit fs ys : Bool) with | true => k [.new2 23 ⟨.lf, gram fs ys⟩] | false => none)
  | 30, [.vv none .f32 fs, .vw none ⟨.f32, ys⟩] => (match (rowsFit fs ys : Bool) with | true => k [.new2 23 ⟨.lf, gram fs ys⟩] | false => none)
  | 32, [.pt ⟨.v ⟨.line, xs⟩, 4, j, 0⟩] => (match xs[j]? with | some l => k [.el (.sc (.bo (okLine l)))] | none => none)
  | 33, [.vw none ⟨.f32, xs⟩] => (match (Nat.ble xs.length big : Bool) with | true => k [.el (.sc (.bo (listOk xs 1)))] | false => none)
  | 43, [.el (.sc (.fl .f32 c))] => k [.el (.sc (.fl .f32 (numOf c))), .el (.sc (.bo (fin c)))]
  | 55, [.el (.sc (.fl .f32 c))] => k [.el (.sc (.bo (notFin c)))]
  | 57, [.el (.sc (.fl .f32 c))] => k [.el (.sc (.fl .f32 (numOf c))), .el (.sc (.bo (fin c)))]
  | 64, [.el (.sc (.fl .f32 c))] => k [.el (.sc (.bo (notPos c)))]
  | 67, [.el (.sc (.int .i64 n))] => k [.el (.sc (.fl .f64 (infOf n)))]
  | _, _ => S1 f args k
def M2 : MFn := fun f vec args k => match f, vec, args with
  | 23, ⟨.lf, xss⟩, [] => (match (sqOk xss && Nat.ble xss.length 3 : Bool) with | true => (match solveL xss with | some l => k [.fresh 24 ⟨.f32, l⟩, .el (.sc (.bo true))] ⟨.al, [(23, 0)]⟩ | none => k [.nil, .el (.sc (.bo false))] ⟨.al, [(23, 0)]⟩) | false => none)
  | 29, ⟨.lf, xss⟩, [] => (match (sqOk xss && Nat.ble xss.length 3 : Bool) with | true => (match solveL xss with | some l => k [.fresh 24 ⟨.f32, l⟩, .el (.sc (.bo true))] ⟨.al, [(23, 0)]⟩ | none => k [.nil, .el (.sc (.bo false))] ⟨.al, [(23, 0)]⟩) | false => none)
  | _, _, _ => M1 f vec args k
def T2 : TT := tab.T S2 muts M2
theorem tok2 : TOK Try.prog T2 := by
  refine (tab_ok tabok).tok (fun f args k out h => ?_) (fun f vec args k out h => ?_)
  · change S2 f args k = some out at h
    unfold S2 at h
    split at h
    · exact (fun k out h => cok_call (c11 _ _ k out h)) k out h
    · exact (fun k out h => cok_call (c18 _ _ _ _ _ _ _ _ k out h)) k out h
    · exact (fun k out h => cok_call (c24 _ _ k out h)) k out h
    · exact (fun k out h => cok_call (c30 _ _ k out h)) k out h
    · exact (fun k out h => cok_call (c32 _ _ k out h)) k out h
    · exact (fun k out h => cok_call (c33 _ k out h)) k out h
    · exact (fun k out h => cok_call (c43 _ k out h)) k out h
    · exact (fun k out h => cok_call (c55 _ k out h)) k out h
    · exact (fun k out h => cok_call (c57 _ k out h)) k out h
    · exact (fun k out h => cok_call (c64 _ k out h)) k out h
    · exact (fun k out h => cok_call (c67 _ k out h)) k out h
    · exact tok1.S f args k out h
  · change M2 f vec args k = some out at h
    unfold M2 at h
    split at h
    · exact c23 _ k out h
    · exact c29 _ k out h
    · exact tok1.M f vec args k out h

end Go.Sm.Ytpckpfbjhnllbaa
