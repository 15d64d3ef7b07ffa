/- What the functions hand back: level 12. -/
import Derived.Test.YtpckpfbjhnllbaaD12
namespace Go.Sm.Ytpckpfbjhnllbaa
open Go Go.Sm Go.RowKit Go.Proofs

/-! impl.RestOf -/
def a41 : Ann := ann [(8, [10, 12, 30, 31, 32], [12])] [8, 9] 0
def lp41 : St → (Ex → St → R) → R := fun s k => match s with
  | ⟨[(10, .fv (.own 0)), (12, .fv (.el (.sc (.fl .f32 a)))), (30, .fv (.vw (some 1) ⟨.f32, ys⟩)), (31, .fv (.el (.sc (.int .i64 n)))), (32, .fv (.el (.sc (.int .i64 i))))], [some ⟨24, ⟨.f32, zs⟩⟩]⟩ => (match ((decide (n = (ys.length : Int)) && (decide (i = 0) && (Nat.ble ys.length big && Nat.ble ys.length (zs : List Nat).length))) : Bool) with | true => k (.exit 0) ⟨[(12, .fv (.el (.sc (.fl .f32 (rep (fun j a => sqTo (ys.getD j 0) ((zs : List Nat).getD j 0) a) (ys.length) 0 (a : Nat))))))], []⟩ | false => none)
  | _ => none
def l41 : Loops := fun key s k => bif Nat.beq key 8 then lp41 s k else none
theorem st41 (a : Nat) (ys : List Nat) (n : Int) (i : Int) (zs : List Nat) (m : Nat) (k : Ex → St → R) : iterK a41 [10, 12, 30, 31, 32] [12] (codeK T12 a41 l41 Try.f41.ntmps (loopAt Try.f41 0)) (m + 1) ⟨[(10, .fv (.own 0)), (12, .fv (.el (.sc (.fl .f32 a)))), (30, .fv (.vw (some 1) ⟨.f32, ys⟩)), (31, .fv (.el (.sc (.int .i64 n)))), (32, .fv (.el (.sc (.int .i64 i))))], [some ⟨24, ⟨.f32, zs⟩⟩]⟩ k = (match (decide ((i : Int) < n) : Bool) with | true => (match (decide (0 ≤ (i : Int) ∧ (i : Int) < (ys.length : Int)) && true : Bool) with | true => (match (ys : List Nat)[Int.toNat i]? with | some x1 => (match (decide (0 ≤ (i : Int) ∧ (i : Int) < (zs.length : Int)) && true : Bool) with | true => (match (zs : List Nat)[Int.toNat i]? with | some x2 => iterK a41 [10, 12, 30, 31, 32] [12] (codeK T12 a41 l41 Try.f41.ntmps (loopAt Try.f41 0)) m ⟨[(10, .fv (.own 0)), (12, .fv (.el (.sc (.fl .f32 (fop .add .f32 a (fop .mul .f32 (fop .sub .f32 x1 x2) (fop .sub .f32 x1 x2))))))), (30, .fv (.vw (some 1) ⟨.f32, ys⟩)), (31, .fv (.el (.sc (.int .i64 n)))), (32, .fv (.el (.sc (.int .i64 (IntKind.i64.wrap (i + 1))))))], [some ⟨24, ⟨.f32, zs⟩⟩]⟩ k | none => none) | false => none) | none => none) | false => none) | false => k (.exit 0) ⟨[(12, .fv (.el (.sc (.fl .f32 a))))], []⟩) := by kernel_rfl
theorem ind41 (ys : List Nat) (zs : List Nat) (hy : (Nat.ble ys.length big) = true) (hlz : (Nat.ble ys.length zs.length) = true) (k : Ex → St → R) : ∀ (m j : Nat) (a : Nat), 0 ≤ j → j + m = ys.length → iterK a41 [10, 12, 30, 31, 32] [12] (codeK T12 a41 l41 Try.f41.ntmps (loopAt Try.f41 0)) (m + 1) ⟨[(10, .fv (.own 0)), (12, .fv (.el (.sc (.fl .f32 a)))), (30, .fv (.vw (some 1) ⟨.f32, ys⟩)), (31, .fv (.el (.sc (.int .i64 (ys.length : Int))))), (32, .fv (.el (.sc (.int .i64 (j : Int)))))], [some ⟨24, ⟨.f32, zs⟩⟩]⟩ k =
    k (.exit 0) ⟨[(12, .fv (.el (.sc (.fl .f32 (rep (fun j a => sqTo (ys.getD j 0) (zs.getD j 0) a) m j (a : Nat))))))], []⟩ := by
  intro m
  induction m with
  | zero =>
    intro j a hlo hj
    have hy_ := big_le hy
    have hlz_ := Nat.le_of_ble_eq_true hlz
    have h1 : ¬ (((j : Int) < (ys.length : Int))) := by omega
    rw [st41]
    simp only [h1, rep, decide_false] <;> rfl
  | succ m ih =>
    intro j a hlo hj
    have hy_ := big_le hy
    have hlz_ := Nat.le_of_ble_eq_true hlz
    have h1 : ((j : Int) < (ys.length : Int)) := by omega
    have yb : (0 : Int) ≤ ((j : Nat) : Int) ∧ ((j : Nat) : Int) < (ys.length : Int) := by omega
    have yq : ys[Int.toNat ((j : Nat) : Int)]? = some (ys.getD (j) 0) := getI (by omega)
    have yp : ys[j]? = some (ys.getD (j) 0) := getI2 (by omega)
    have hzj : j < zs.length := by have := Nat.le_of_ble_eq_true hlz; omega
    have zb : (0 : Int) ≤ ((j : Nat) : Int) ∧ ((j : Nat) : Int) < (zs.length : Int) := by omega
    have zq : zs[Int.toNat ((j : Nat) : Int)]? = some (zs.getD (j) 0) := getI (by omega)
    have zp : zs[j]? = some (zs.getD (j) 0) := getI2 (by omega)
    have wn : IntKind.i64.wrap ((j : Int) + 1) = ((j + 1 : Nat) : Int) := wrapN (by omega) (by omega)
    rw [st41]
    simp only [h1, wn, yb, yq, yp, hzj, zb, zq, zp, and_self, decide_true, Bool.and_true, Int.le_refl]
    exact ih (j + 1) _ (by omega) (by omega)

theorem lk41 : LOK T12 a41 l41 Try.f41.ntmps (loopAt Try.f41 0) := by
  intro ins outs hA s k out h
  have hA' : ([10, 12, 30, 31, 32], [12]) = (ins, outs) := Option.some.inj ((show a41.lp (firstRegion (loopAt Try.f41 0)) = some ([10, 12, 30, 31, 32], [12]) by kernel_rfl).symm.trans hA)
  cases hA'
  have hk : firstRegion (loopAt Try.f41 0) = 8 := by kernel_rfl
  rw [hk] at h
  change lp41 s k = some out at h
  unfold lp41 at h
  split at h
  · rename_i a ys n i zs
    cases hg : (decide (n = (ys.length : Int)) && (decide (i = 0) && (Nat.ble ys.length big && Nat.ble ys.length zs.length))) with
    | false => rw [hg] at h; cases h
    | true =>
      rw [hg] at h
      simp only [Bool.and_eq_true, decide_eq_true_eq] at hg
      obtain ⟨rfl, rfl, hy, hlz⟩ := hg
      refine ⟨(ys.length) + 1, ?_⟩
      have hy_ := big_le hy
      have hlz_ := Nat.le_of_ble_eq_true hlz
      exact (ind41 ys zs hy hlz k (ys.length) 0 a (by omega) (by omega)).trans h
  · cases h
theorem e41 (xs : List LineV) (ys : List Nat) (b : Nat) (d : Nat) : runFn T12 a41 l41 Try.f41 [.vw none ⟨.line, xs⟩, .vw none ⟨.f32, ys⟩, .el (.sc (.fl .f32 b)), .el (.sc (.fl .f32 d))] = (match (!(listOk ys 1) : Bool) with | true => some ⟨[.el (.sc (.fl .f32 0)), .el (.sc (.bo false))], none⟩ | false => (match (!(spOk xs b d ((ys.length : Int))) : Bool) with | true => some ⟨[.el (.sc (.fl .f32 0)), .el (.sc (.bo false))], none⟩ | false => (match ((decide (((ys.length : Int)) = (ys.length : Int)) && (decide (0 = 0) && (Nat.ble ys.length big && Nat.ble ys.length (orNil (spOk xs b d ((ys.length : Int))) (spX xs b d ((ys.length : Int))) : List Nat).length))) : Bool) with | true => some ⟨[.el (.sc (.fl .f32 (numOf (rep (fun j a => sqTo (ys.getD j 0) ((orNil (spOk xs b d ((ys.length : Int))) (spX xs b d ((ys.length : Int))) : List Nat).getD j 0) a) (ys.length) 0 (0 : Nat))))), .el (.sc (.bo (fin (rep (fun j a => sqTo (ys.getD j 0) ((orNil (spOk xs b d ((ys.length : Int))) (spX xs b d ((ys.length : Int))) : List Nat).getD j 0) a) (ys.length) 0 (0 : Nat)))))], none⟩ | false => none))) := by kernel_rfl
theorem s41 (xs : List LineV) (ys : List Nat) (b : Nat) (d : Nat) : runFn T12 a41 l41 Try.f41 [.vw none ⟨.line, xs⟩, .vw none ⟨.f32, ys⟩, .el (.sc (.fl .f32 b)), .el (.sc (.fl .f32 d))] = some ⟨[.el (.sc (.fl .f32 (orZero (restOk xs ys b d) (restSum xs ys b d)))), .el (.sc (.bo (restOk xs ys b d)))], none⟩ := by
  rw [e41]
  unfold restOk
  cases h1 : listOk ys 1 with
  | false => simp [orZero]
  | true =>
    have h1b := h1
    unfold listOk at h1b
    simp only [Bool.and_eq_true, decide_eq_true_eq] at h1b
    have hy : Nat.ble ys.length big = true := big_of (by omega)
    have hw : within (ys.length : Int) 1 128 = true := by unfold within; simp; omega
    have hsp : spOk xs b d (ys.length : Int) = (linesOk xs && (fin b && (fin d && spAll xs b d ys.length))) := by
      unfold spOk
      rw [hw]
      simp
    have hl : (spX xs b d (ys.length : Int)).length = ys.length := by rw [spX_len]; omega
    have hz : Nat.ble ys.length (spX xs b d (ys.length : Int)).length = true := by rw [hl]; exact Nat.ble_eq_true_of_le (Nat.le_refl _)
    have e : rep (fun j a => sqTo (ys.getD j 0) ((spX xs b d (ys.length : Int)).getD j 0) a) ys.length 0 0 = restSum xs ys b d := rest_made xs ys b d (by omega)
    rw [hsp]
    simp only [hy, hz, e, decide_true, Bool.not_true, Bool.true_and, Bool.and_true]
    cases linesOk xs <;> cases fin b <;> cases fin d <;> cases spAll xs b d ys.length <;> simp [-List.getD_eq_getElem?_getD, orZero, orNil, hz, e]
    all_goals unfold numOf; cases fin (restSum xs ys b d) <;> simp
theorem c41 (xs : List LineV) (ys : List Nat) (b : Nat) (d : Nat) (k : List RV → R) (out : Out) (h : k [.el (.sc (.fl .f32 (orZero (restOk xs ys b d) (restSum xs ys b d)))), .el (.sc (.bo (restOk xs ys b d)))] = some out) : ∃ rs, Real Try.prog 41 ∧ COK Try.prog 41 [.vw none ⟨.line, xs⟩, .vw none ⟨.f32, ys⟩, .el (.sc (.fl .f32 b)), .el (.sc (.fl .f32 d))] rs ∧ k rs = some out := by
  exact ⟨_, real Try.func41 (by kernel_rfl), fn_ok tok12 (A := a41) (L := l41) (r := none) Try.func41 (by kernel_rfl) (by kernel_rfl) (loops1 (by kernel_rfl) lk41) (by rw [s41]), h⟩

def S13 : SFn := fun f args k => match f, args with
  | 41, [.vw none ⟨.line, xs⟩, .vw none ⟨.f32, ys⟩, .el (.sc (.fl .f32 b)), .el (.sc (.fl .f32 d))] => k [.el (.sc (.fl .f32 (orZero (restOk xs ys b d) (restSum xs ys b d)))), .el (.sc (.bo (restOk xs ys b d)))]
  | _, _ => S12 f args k
abbrev M13 : MFn := M12
def T13 : TT := tab.T S13 muts M13
theorem tok13 : TOK Try.prog T13 := by
  refine (tab_ok tabok).tok (fun f args k out h => ?_) (fun f vec args k out h => ?_)
  · change S13 f args k = some out at h
    unfold S13 at h
    split at h
    · exact (fun k out h => cok_call (c41 _ _ _ _ k out h)) k out h
    · exact tok12.S f args k out h
  · exact tok12.M f vec args k out h

end Go.Sm.Ytpckpfbjhnllbaa
