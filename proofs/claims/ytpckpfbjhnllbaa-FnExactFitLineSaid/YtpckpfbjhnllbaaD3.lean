/- What the functions hand back: level 2. -/
import Derived.Test.YtpckpfbjhnllbaaD2
namespace Go.Sm.Ytpckpfbjhnllbaa
open Go Go.Sm Go.RowKit Go.Proofs

/-! spec.l05Lines -/
def a25 : Ann := ann [(2, [0, 5, 6], [0])] [2] 0
def lp25 : St → (Ex → St → R) → R := fun s k => match s with
  | ⟨[(0, .fv (.vw (some 0) ⟨.line, xs⟩)), (5, .fv (.el (.sc (.int .i64 n)))), (6, .fv (.el (.sc (.int .i64 i))))], []⟩ => (match ((decide (n = (xs.length : Int)) && (decide (i = 0) && Nat.ble xs.length big)) : Bool) with | true => (match (xs.all okLine : Bool) with | true => k (.exit 0) ⟨[(0, .fv (.vw (some 0) ⟨.line, xs⟩))], []⟩ | false => k .ret ⟨[(2, .fv (.el (.sc (.bo false))))], []⟩) | false => none)
  | _ => none
def l25 : Loops := fun key s k => bif Nat.beq key 2 then lp25 s k else none
theorem st25 (xs : List LineV) (n : Int) (i : Int) (m : Nat) (k : Ex → St → R) : iterK a25 [0, 5, 6] [0] (codeK T2 a25 l25 Try.f25.ntmps (loopAt Try.f25 0)) (m + 1) ⟨[(0, .fv (.vw (some 0) ⟨.line, xs⟩)), (5, .fv (.el (.sc (.int .i64 n)))), (6, .fv (.el (.sc (.int .i64 i))))], []⟩ k = (match (decide ((i : Int) < n) : Bool) with | true => (match (decide (0 ≤ (i : Int) ∧ (i : Int) < (xs.length : Int)) && true : Bool) with | true => (match xs[Int.toNat i]? with | some l => (match (!(okLine l) : Bool) with | true => k .ret ⟨[(2, .fv (.el (.sc (.bo false))))], []⟩ | false => iterK a25 [0, 5, 6] [0] (codeK T2 a25 l25 Try.f25.ntmps (loopAt Try.f25 0)) m ⟨[(0, .fv (.vw (some 0) ⟨.line, xs⟩)), (5, .fv (.el (.sc (.int .i64 n)))), (6, .fv (.el (.sc (.int .i64 (IntKind.i64.wrap (i + 1))))))], []⟩ k) | none => none) | false => none) | false => k (.exit 0) ⟨[(0, .fv (.vw (some 0) ⟨.line, xs⟩))], []⟩) := by kernel_rfl
theorem ind25 (xs : List LineV)  (hx : Nat.ble xs.length big = true) (k : Ex → St → R) : ∀ (m j : Nat), j + m = xs.length → iterK a25 [0, 5, 6] [0] (codeK T2 a25 l25 Try.f25.ntmps (loopAt Try.f25 0)) (m + 1) ⟨[(0, .fv (.vw (some 0) ⟨.line, xs⟩)), (5, .fv (.el (.sc (.int .i64 (xs.length : Int))))), (6, .fv (.el (.sc (.int .i64 (j : Int)))))], []⟩ k =
    (match (xs.drop j).all okLine with
    | true => k (.exit 0) ⟨[(0, .fv (.vw (some 0) ⟨.line, xs⟩))], []⟩
    | false => k .ret ⟨[(2, .fv (.el (.sc (.bo false))))], []⟩) := by
  intro m
  induction m with
  | zero =>
    intro j hj
    have h1 : ¬ ((j : Int) < (xs.length : Int)) := by omega
    rw [st25, List.drop_of_length_le (by omega)]
    simp [h1]
  | succ m ih =>
    intro j hj
    have hlt : j < xs.length := by omega
    have h1 : ((j : Int) < (xs.length : Int)) := by omega
    have h2 : (0 : Int) ≤ (j : Int) := by omega
    rw [st25, wrap_succ hlt hx]
    have h3 : xs[Int.toNat (j : Int)]? = some xs[j] := by simp [hlt]
    rw [List.drop_eq_getElem_cons hlt, List.all_cons, ih (j + 1) (by omega)]
    simp only [h1, h2, h3, and_self, decide_true, Bool.and_true]
    cases hp : okLine xs[j] <;> simp [hp]

theorem lk25 : LOK T2 a25 l25 Try.f25.ntmps (loopAt Try.f25 0) := by
  intro ins outs hA s k out h
  have hA' : ([0, 5, 6], [0]) = (ins, outs) := Option.some.inj ((show a25.lp (firstRegion (loopAt Try.f25 0)) = some ([0, 5, 6], [0]) by kernel_rfl).symm.trans hA)
  cases hA'
  have hk : firstRegion (loopAt Try.f25 0) = 2 := by kernel_rfl
  rw [hk] at h
  change lp25 s k = some out at h
  unfold lp25 at h
  split at h
  · rename_i xs n i
    cases hg : (decide (n = (xs.length : Int)) && (decide (i = 0) && Nat.ble xs.length big)) with
    | false => rw [hg] at h; cases h
    | true =>
      rw [hg] at h
      simp only [Bool.and_eq_true, decide_eq_true_eq] at hg
      obtain ⟨rfl, rfl, hx⟩ := hg
      refine ⟨xs.length + 1, ?_⟩
      exact (ind25 xs  hx k xs.length 0 (by omega)).trans h
  · cases h
theorem e25 (xs : List LineV) : runFn T2 a25 l25 Try.f25 [.vw none ⟨.line, xs⟩] = (match ((decide ((xs.length : Int) = (xs.length : Int)) && (decide (0 = 0) && Nat.ble xs.length big)) : Bool) with | true => (match (xs.all okLine : Bool) with | true => some ⟨[.el (.sc (.bo (decide (((xs.length : Int) : Int) ≤ 12))))], none⟩ | false => some ⟨[.el (.sc (.bo false))], none⟩) | false => none) := by kernel_rfl
theorem s25 (xs : List LineV) : runFn T2 a25 l25 Try.f25 [.vw none ⟨.line, xs⟩] = (match (Nat.ble xs.length big : Bool) with | true => some ⟨[.el (.sc (.bo (linesOk xs)))], none⟩ | false => none) := by
  rw [e25]
  unfold linesOk
  cases h : Nat.ble xs.length big with
  | false => simp [h]
  | true =>
    have e4 : ((xs.length : Int) ≤ 12) ↔ xs.length ≤ 12 := by omega
    cases h2 : xs.all okLine <;> simp [h, h2, e4]
theorem c25 (xs : List LineV) (k : List RV → R) (out : Out) (h : (match (Nat.ble xs.length big : Bool) with | true => k [.el (.sc (.bo (linesOk xs)))] | false => none) = some out) : ∃ rs, Real Try.prog 25 ∧ COK Try.prog 25 [.vw none ⟨.line, xs⟩] rs ∧ k rs = some out := by
  cases g0 : (Nat.ble xs.length big : Bool) with
  | true =>
    rw [g0] at h
    exact ⟨_, real Try.func25 (by kernel_rfl), fn_ok tok2 (A := a25) (L := l25) (r := none) Try.func25 (by kernel_rfl) (by kernel_rfl) (loops1 (by kernel_rfl) lk25) (by rw [s25, g0]), h⟩
  | false =>
    rw [g0] at h
    cases h

/-! spec.l01ExpWide -/
def a63 : Ann := ann [(10, [3, 4, 5], [4]), (14, [4, 6], [4])] [2] 0
def lp63 : St → (Ex → St → R) → R := fun s k => match s with
  | ⟨[(3, .fv (.el (.sc (.fl .f64 t)))), (4, .fv (.el (.sc (.fl .f64 p)))), (5, .fv (.el (.sc (.int .i64 i))))], []⟩ => (match (decide (i = 12) : Bool) with | true => k (.exit 0) ⟨[(4, .fv (.el (.sc (.fl .f64 (expPoly t p)))))], []⟩ | false => none)
  | _ => none
def lp63_1 : St → (Ex → St → R) → R := fun s k => match s with
  | ⟨[(4, .fv (.el (.sc (.fl .f64 p)))), (6, .fv (.el (.sc (.int .i64 i))))], []⟩ => (match (decide (i = 0) : Bool) with | true => k (.exit 2) ⟨[(4, .fv (.el (.sc (.fl .f64 (sqn 8 p)))))], []⟩ | false => none)
  | _ => none
def l63 : Loops := fun key s k => bif Nat.beq key 10 then lp63 s k else bif Nat.beq key 14 then lp63_1 s k else none
theorem st63 (t : Nat) (p : Nat) (i : Int) (m : Nat) (k : Ex → St → R) : iterK a63 [3, 4, 5] [4] (codeK T2 a63 l63 Try.f63.ntmps (loopAt Try.f63 0)) (m + 1) ⟨[(3, .fv (.el (.sc (.fl .f64 t)))), (4, .fv (.el (.sc (.fl .f64 p)))), (5, .fv (.el (.sc (.int .i64 i))))], []⟩ k = (match (decide ((i : Int) ≥ 1) : Bool) with | true => iterK a63 [3, 4, 5] [4] (codeK T2 a63 l63 Try.f63.ntmps (loopAt Try.f63 0)) m ⟨[(3, .fv (.el (.sc (.fl .f64 t)))), (4, .fv (.el (.sc (.fl .f64 (fop .add .f64 4607182418800017408 (fop .quo .f64 (fop .mul .f64 t p) (fint .f64 i))))))), (5, .fv (.el (.sc (.int .i64 (IntKind.i64.wrap (i - 1))))))], []⟩ k | false => k (.exit 0) ⟨[(4, .fv (.el (.sc (.fl .f64 p))))], []⟩) := by kernel_rfl
theorem un63 (t : Nat) (p : Nat) (k : Ex → St → R) : iterK a63 [3, 4, 5] [4] (codeK T2 a63 l63 Try.f63.ntmps (loopAt Try.f63 0)) 13 ⟨[(3, .fv (.el (.sc (.fl .f64 t)))), (4, .fv (.el (.sc (.fl .f64 p)))), (5, .fv (.el (.sc (.int .i64 12))))], []⟩ k = k (.exit 0) ⟨[(4, .fv (.el (.sc (.fl .f64 (expPoly t p)))))], []⟩ := by kernel_rfl

theorem lk63 : LOK T2 a63 l63 Try.f63.ntmps (loopAt Try.f63 0) := by
  intro ins outs hA s k out h
  have hA' : ([3, 4, 5], [4]) = (ins, outs) := Option.some.inj ((show a63.lp (firstRegion (loopAt Try.f63 0)) = some ([3, 4, 5], [4]) by kernel_rfl).symm.trans hA)
  cases hA'
  have hk : firstRegion (loopAt Try.f63 0) = 10 := by kernel_rfl
  rw [hk] at h
  change lp63 s k = some out at h
  unfold lp63 at h
  split at h
  · rename_i t p i
    cases hg : decide (i = 12) with
    | false => rw [hg] at h; cases h
    | true =>
      rw [hg] at h
      replace hg := of_decide_eq_true hg
      subst hg
      refine ⟨13, ?_⟩
      exact (un63 t p k).trans h
  · cases h
theorem st63_1 (p : Nat) (i : Int) (m : Nat) (k : Ex → St → R) : iterK a63 [4, 6] [4] (codeK T2 a63 l63 Try.f63.ntmps (loopAt Try.f63 1)) (m + 1) ⟨[(4, .fv (.el (.sc (.fl .f64 p)))), (6, .fv (.el (.sc (.int .i64 i))))], []⟩ k = (match (decide ((i : Int) < 8) : Bool) with | true => iterK a63 [4, 6] [4] (codeK T2 a63 l63 Try.f63.ntmps (loopAt Try.f63 1)) m ⟨[(4, .fv (.el (.sc (.fl .f64 (fop .mul .f64 p p))))), (6, .fv (.el (.sc (.int .i64 (IntKind.i64.wrap (i + 1))))))], []⟩ k | false => k (.exit 2) ⟨[(4, .fv (.el (.sc (.fl .f64 p))))], []⟩) := by kernel_rfl
theorem un63_1 (p : Nat) (k : Ex → St → R) : iterK a63 [4, 6] [4] (codeK T2 a63 l63 Try.f63.ntmps (loopAt Try.f63 1)) 9 ⟨[(4, .fv (.el (.sc (.fl .f64 p)))), (6, .fv (.el (.sc (.int .i64 0))))], []⟩ k = k (.exit 2) ⟨[(4, .fv (.el (.sc (.fl .f64 (sqn 8 p)))))], []⟩ := by kernel_rfl

theorem lk63_1 : LOK T2 a63 l63 Try.f63.ntmps (loopAt Try.f63 1) := by
  intro ins outs hA s k out h
  have hA' : ([4, 6], [4]) = (ins, outs) := Option.some.inj ((show a63.lp (firstRegion (loopAt Try.f63 1)) = some ([4, 6], [4]) by kernel_rfl).symm.trans hA)
  cases hA'
  have hk : firstRegion (loopAt Try.f63 1) = 14 := by kernel_rfl
  rw [hk] at h
  change lp63_1 s k = some out at h
  unfold lp63_1 at h
  split at h
  · rename_i p i
    cases hg : decide (i = 0) with
    | false => rw [hg] at h; cases h
    | true =>
      rw [hg] at h
      replace hg := of_decide_eq_true hg
      subst hg
      refine ⟨9, ?_⟩
      exact (un63_1 p k).trans h
  · cases h
theorem e63 (y : Nat) : runFn T2 a63 l63 Try.f63 [.el (.sc (.fl .f64 y))] = (match (fcmp .neq .f64 y y : Bool) with | true => some ⟨[.el (.sc (.fl .f64 y))], none⟩ | false => (match (fcmp .gtr .f64 y 4641240890982006784 : Bool) with | true => some ⟨[.el (.sc (.fl .f64 (infOf 1)))], none⟩ | false => (match (fcmp .lss .f64 y 13864612927836782592 : Bool) with | true => some ⟨[.el (.sc (.fl .f64 0))], none⟩ | false => (match (decide (12 = 12) : Bool) with | true => (match (decide (0 = 0) : Bool) with | true => some ⟨[.el (.sc (.fl .f64 (sqn 8 (expPoly (fop .quo .f64 y 4643211215818981376) 4607182418800017408))))], none⟩ | false => none) | false => none)))) := by kernel_rfl
theorem s63 (y : Nat) : runFn T2 a63 l63 Try.f63 [.el (.sc (.fl .f64 y))] = some ⟨[.el (.sc (.fl .f64 (expS y)))], none⟩ := by
  rw [e63]
  unfold expS expI
  cases fcmp .neq .f64 y y <;> cases fcmp .gtr .f64 y 4641240890982006784 <;> cases fcmp .lss .f64 y 13864612927836782592 <;> kernel_rfl
theorem c63 (y : Nat) (k : List RV → R) (out : Out) (h : k [.el (.sc (.fl .f64 (expS y)))] = some out) : ∃ rs, Real Try.prog 63 ∧ COK Try.prog 63 [.el (.sc (.fl .f64 y))] rs ∧ k rs = some out := by
  exact ⟨_, real Try.func63 (by kernel_rfl), fn_ok tok2 (A := a63) (L := l63) (r := none) Try.func63 (by kernel_rfl) (by kernel_rfl) (loops2 (by kernel_rfl) lk63 lk63_1) (by rw [s63]), h⟩

/-! slices.IndexFunc[[]float32,float32] -/
def a65 : Ann := ann [(2, [0, 1, 7, 8], [])] [4] 0
def lp65 : St → (Ex → St → R) → R := fun s k => match s with
  | ⟨[(0, .fv (.vw (some 0) ⟨.f32, xs⟩)), (1, .fv (.fn 55 [])), (7, .fv (.el (.sc (.int .i64 n)))), (8, .fv (.el (.sc (.int .i64 i))))], []⟩ => (match (decide (n = (xs.length : Int)) && (decide (i = 0) && Nat.ble xs.length big) : Bool) with | true => (match xs.findIdx? notFin with | some q => k .ret ⟨[(4, .fv (.el (.sc (.int .i64 ((q : Int))))))], []⟩ | none => k (.exit 0) ⟨[], []⟩) | false => none)
  | _ => none
def l65 : Loops := fun key s k => bif Nat.beq key 2 then lp65 s k else none
theorem st65 (xs : List Nat) (n : Int) (i : Int) (m : Nat) (k : Ex → St → R) : iterK a65 [0, 1, 7, 8] [] (codeK T2 a65 l65 Try.f65.ntmps (loopAt Try.f65 0)) (m + 1) ⟨[(0, .fv (.vw (some 0) ⟨.f32, xs⟩)), (1, .fv (.fn 55 [])), (7, .fv (.el (.sc (.int .i64 n)))), (8, .fv (.el (.sc (.int .i64 i))))], []⟩ k = (match (decide ((i : Int) < n) : Bool) with | true => (match (decide (0 ≤ (i : Int) ∧ (i : Int) < (xs.length : Int)) && true : Bool) with | true => (match (xs : List Nat)[Int.toNat i]? with | some x1 => (match (notFin x1 : Bool) with | true => k .ret ⟨[(4, .fv (.el (.sc (.int .i64 i))))], []⟩ | false => iterK a65 [0, 1, 7, 8] [] (codeK T2 a65 l65 Try.f65.ntmps (loopAt Try.f65 0)) m ⟨[(0, .fv (.vw (some 0) ⟨.f32, xs⟩)), (1, .fv (.fn 55 [])), (7, .fv (.el (.sc (.int .i64 n)))), (8, .fv (.el (.sc (.int .i64 (IntKind.i64.wrap (i + 1))))))], []⟩ k) | none => none) | false => none) | false => k (.exit 0) ⟨[], []⟩) := by kernel_rfl
theorem ind65 (xs : List Nat) (hx : Nat.ble xs.length big = true) (k : Ex → St → R) : ∀ (m j : Nat), j + m = xs.length → iterK a65 [0, 1, 7, 8] [] (codeK T2 a65 l65 Try.f65.ntmps (loopAt Try.f65 0)) (m + 1) ⟨[(0, .fv (.vw (some 0) ⟨.f32, xs⟩)), (1, .fv (.fn 55 [])), (7, .fv (.el (.sc (.int .i64 (xs.length : Int))))), (8, .fv (.el (.sc (.int .i64 (j : Int)))))], []⟩ k =
    (match (xs.drop j).findIdx? notFin with
    | some q => k .ret ⟨[(4, .fv (.el (.sc (.int .i64 ((j + q : Nat) : Int)))))], []⟩
    | none => k (.exit 0) ⟨[], []⟩) := by
  intro m
  induction m with
  | zero =>
    intro j hj
    have h1 : ¬ ((j : Int) < (xs.length : Int)) := by omega
    rw [st65]
    have h2 : xs.drop j = [] := List.drop_of_length_le (by omega)
    simp [h1, h2]
  | succ m ih =>
    intro j hj
    have hlt : j < xs.length := by omega
    have h1 : ((j : Int) < (xs.length : Int)) := by omega
    have h2 : (0 : Int) ≤ (j : Int) := by omega
    rw [st65, wrap_succ hlt hx]
    have h3 : xs[Int.toNat (j : Int)]? = some xs[j] := by simp [hlt]
    rw [List.drop_eq_getElem_cons hlt, List.findIdx?_cons]
    simp only [h1, h2, h3, and_self, decide_true, Bool.and_true]
    cases hp : notFin xs[j] with
    | true => simp
    | false =>
      rw [ih (j + 1) (by omega)]
      cases (xs.drop (j + 1)).findIdx? notFin with
      | none => rfl
      | some q => simp only [Bool.false_eq_true, if_false, Option.map_some]; rw [show j + 1 + q = j + (q + 1) by omega]
theorem lk65 : LOK T2 a65 l65 Try.f65.ntmps (loopAt Try.f65 0) := by
  intro ins outs hA s k out h
  have hA' : ([0, 1, 7, 8], []) = (ins, outs) := Option.some.inj ((show a65.lp (firstRegion (loopAt Try.f65 0)) = some ([0, 1, 7, 8], []) by kernel_rfl).symm.trans hA)
  cases hA'
  have hk : firstRegion (loopAt Try.f65 0) = 2 := by kernel_rfl
  rw [hk] at h
  change lp65 s k = some out at h
  unfold lp65 at h
  split at h
  · rename_i xs n i
    cases hg : (decide (n = (xs.length : Int)) && (decide (i = 0) && Nat.ble xs.length big)) with
    | false => rw [hg] at h; cases h
    | true =>
      rw [hg] at h
      simp only [Bool.and_eq_true, decide_eq_true_eq] at hg
      obtain ⟨rfl, rfl, hx⟩ := hg
      refine ⟨xs.length + 1, ?_⟩
      have := ind65 xs hx k xs.length 0 (by omega)
      simp only [List.drop_zero, Nat.zero_add] at this
      exact this.trans h
  · cases h
theorem e65 (xs : List Nat) : runFn T2 a65 l65 Try.f65 [.vw none ⟨.f32, xs⟩, .fn 55 []] = (match (decide ((xs.length : Int) = (xs.length : Int)) && (decide (0 = 0) && Nat.ble xs.length big) : Bool) with | true => (match xs.findIdx? notFin with | some q => some ⟨[.el (.sc (.int .i64 ((q : Int))))], none⟩ | none => some ⟨[.el (.sc (.int .i64 ((-1))))], none⟩) | false => none) := by kernel_rfl
theorem s65 (xs : List Nat) : runFn T2 a65 l65 Try.f65 [.vw none ⟨.f32, xs⟩, .fn 55 []] = (match (Nat.ble xs.length big : Bool) with | true => some ⟨[.el (.sc (.int .i64 (firstAt notFin xs)))], none⟩ | false => none) := by
  rw [e65]
  unfold firstAt
  cases h : Nat.ble xs.length big with
  | false => simp [h]
  | true =>
    cases h2 : xs.findIdx? notFin with
    | some q => simp [h, h2]
    | none => simp [h, h2]
theorem c65 (xs : List Nat) (k : List RV → R) (out : Out) (h : (match (Nat.ble xs.length big : Bool) with | true => k [.el (.sc (.int .i64 (firstAt notFin xs)))] | false => none) = some out) : ∃ rs, Real Try.prog 65 ∧ COK Try.prog 65 [.vw none ⟨.f32, xs⟩, .fn 55 []] rs ∧ k rs = some out := by
  cases g0 : (Nat.ble xs.length big : Bool) with
  | true =>
    rw [g0] at h
    exact ⟨_, real Try.func65 (by kernel_rfl), fn_ok tok2 (A := a65) (L := l65) (r := none) Try.func65 (by kernel_rfl) (by kernel_rfl) (loops1 (by kernel_rfl) lk65) (by rw [s65, g0]), h⟩
  | false =>
    rw [g0] at h
    cases h

/-! slices.IndexFunc[[]float32,float32] -/
def a65b : Ann := ann [(2, [0, 1, 7, 8], [])] [4] 0
def lp65b : St → (Ex → St → R) → R := fun s k => match s with
  | ⟨[(0, .fv (.vw (some 0) ⟨.f32, xs⟩)), (1, .fv (.fn 64 [])), (7, .fv (.el (.sc (.int .i64 n)))), (8, .fv (.el (.sc (.int .i64 i))))], []⟩ => (match (decide (n = (xs.length : Int)) && (decide (i = 0) && Nat.ble xs.length big) : Bool) with | true => (match xs.findIdx? notPos with | some q => k .ret ⟨[(4, .fv (.el (.sc (.int .i64 ((q : Int))))))], []⟩ | none => k (.exit 0) ⟨[], []⟩) | false => none)
  | _ => none
def l65b : Loops := fun key s k => bif Nat.beq key 2 then lp65b s k else none
theorem st65b (xs : List Nat) (n : Int) (i : Int) (m : Nat) (k : Ex → St → R) : iterK a65b [0, 1, 7, 8] [] (codeK T2 a65b l65b Try.f65.ntmps (loopAt Try.f65 0)) (m + 1) ⟨[(0, .fv (.vw (some 0) ⟨.f32, xs⟩)), (1, .fv (.fn 64 [])), (7, .fv (.el (.sc (.int .i64 n)))), (8, .fv (.el (.sc (.int .i64 i))))], []⟩ k = (match (decide ((i : Int) < n) : Bool) with | true => (match (decide (0 ≤ (i : Int) ∧ (i : Int) < (xs.length : Int)) && true : Bool) with | true => (match (xs : List Nat)[Int.toNat i]? with | some x1 => (match (notPos x1 : Bool) with | true => k .ret ⟨[(4, .fv (.el (.sc (.int .i64 i))))], []⟩ | false => iterK a65b [0, 1, 7, 8] [] (codeK T2 a65b l65b Try.f65.ntmps (loopAt Try.f65 0)) m ⟨[(0, .fv (.vw (some 0) ⟨.f32, xs⟩)), (1, .fv (.fn 64 [])), (7, .fv (.el (.sc (.int .i64 n)))), (8, .fv (.el (.sc (.int .i64 (IntKind.i64.wrap (i + 1))))))], []⟩ k) | none => none) | false => none) | false => k (.exit 0) ⟨[], []⟩) := by kernel_rfl
theorem ind65b (xs : List Nat) (hx : Nat.ble xs.length big = true) (k : Ex → St → R) : ∀ (m j : Nat), j + m = xs.length → iterK a65b [0, 1, 7, 8] [] (codeK T2 a65b l65b Try.f65.ntmps (loopAt Try.f65 0)) (m + 1) ⟨[(0, .fv (.vw (some 0) ⟨.f32, xs⟩)), (1, .fv (.fn 64 [])), (7, .fv (.el (.sc (.int .i64 (xs.length : Int))))), (8, .fv (.el (.sc (.int .i64 (j : Int)))))], []⟩ k =
    (match (xs.drop j).findIdx? notPos with
    | some q => k .ret ⟨[(4, .fv (.el (.sc (.int .i64 ((j + q : Nat) : Int)))))], []⟩
    | none => k (.exit 0) ⟨[], []⟩) := by
  intro m
  induction m with
  | zero =>
    intro j hj
    have h1 : ¬ ((j : Int) < (xs.length : Int)) := by omega
    rw [st65b]
    have h2 : xs.drop j = [] := List.drop_of_length_le (by omega)
    simp [h1, h2]
  | succ m ih =>
    intro j hj
    have hlt : j < xs.length := by omega
    have h1 : ((j : Int) < (xs.length : Int)) := by omega
    have h2 : (0 : Int) ≤ (j : Int) := by omega
    rw [st65b, wrap_succ hlt hx]
    have h3 : xs[Int.toNat (j : Int)]? = some xs[j] := by simp [hlt]
    rw [List.drop_eq_getElem_cons hlt, List.findIdx?_cons]
    simp only [h1, h2, h3, and_self, decide_true, Bool.and_true]
    cases hp : notPos xs[j] with
    | true => simp
    | false =>
      rw [ih (j + 1) (by omega)]
      cases (xs.drop (j + 1)).findIdx? notPos with
      | none => rfl
      | some q => simp only [Bool.false_eq_true, if_false, Option.map_some]; rw [show j + 1 + q = j + (q + 1) by omega]
theorem lk65b : LOK T2 a65b l65b Try.f65.ntmps (loopAt Try.f65 0) := by
  intro ins outs hA s k out h
  have hA' : ([0, 1, 7, 8], []) = (ins, outs) := Option.some.inj ((show a65b.lp (firstRegion (loopAt Try.f65 0)) = some ([0, 1, 7, 8], []) by kernel_rfl).symm.trans hA)
  cases hA'
  have hk : firstRegion (loopAt Try.f65 0) = 2 := by kernel_rfl
  rw [hk] at h
  change lp65b s k = some out at h
  unfold lp65b at h
  split at h
  · rename_i xs n i
    cases hg : (decide (n = (xs.length : Int)) && (decide (i = 0) && Nat.ble xs.length big)) with
    | false => rw [hg] at h; cases h
    | true =>
      rw [hg] at h
      simp only [Bool.and_eq_true, decide_eq_true_eq] at hg
      obtain ⟨rfl, rfl, hx⟩ := hg
      refine ⟨xs.length + 1, ?_⟩
      have := ind65b xs hx k xs.length 0 (by omega)
      simp only [List.drop_zero, Nat.zero_add] at this
      exact this.trans h
  · cases h
theorem e65b (xs : List Nat) : runFn T2 a65b l65b Try.f65 [.vw none ⟨.f32, xs⟩, .fn 64 []] = (match (decide ((xs.length : Int) = (xs.length : Int)) && (decide (0 = 0) && Nat.ble xs.length big) : Bool) with | true => (match xs.findIdx? notPos with | some q => some ⟨[.el (.sc (.int .i64 ((q : Int))))], none⟩ | none => some ⟨[.el (.sc (.int .i64 ((-1))))], none⟩) | false => none) := by kernel_rfl
theorem s65b (xs : List Nat) : runFn T2 a65b l65b Try.f65 [.vw none ⟨.f32, xs⟩, .fn 64 []] = (match (Nat.ble xs.length big : Bool) with | true => some ⟨[.el (.sc (.int .i64 (firstAt notPos xs)))], none⟩ | false => none) := by
  rw [e65b]
  unfold firstAt
  cases h : Nat.ble xs.length big with
  | false => simp [h]
  | true =>
    cases h2 : xs.findIdx? notPos with
    | some q => simp [h, h2]
    | none => simp [h, h2]
theorem c65b (xs : List Nat) (k : List RV → R) (out : Out) (h : (match (Nat.ble xs.length big : Bool) with | true => k [.el (.sc (.int .i64 (firstAt notPos xs)))] | false => none) = some out) : ∃ rs, Real Try.prog 65 ∧ COK Try.prog 65 [.vw none ⟨.f32, xs⟩, .fn 64 []] rs ∧ k rs = some out := by
  cases g0 : (Nat.ble xs.length big : Bool) with
  | true =>
    rw [g0] at h
    exact ⟨_, real Try.func65 (by kernel_rfl), fn_ok tok2 (A := a65b) (L := l65b) (r := none) Try.func65 (by kernel_rfl) (by kernel_rfl) (loops1 (by kernel_rfl) lk65b) (by rw [s65b, g0]), h⟩
  | false =>
    rw [g0] at h
    cases h

/-! impl.exponential -/
def a70 : Ann := ann [(7, [3, 4, 5], [4]), (11, [4, 25], [4])] [2] 0
def lp70 : St → (Ex → St → R) → R := fun s k => match s with
  | ⟨[(3, .fv (.el (.sc (.fl .f64 t)))), (4, .fv (.el (.sc (.fl .f64 p)))), (5, .fv (.el (.sc (.fl .f64 i))))], []⟩ => (match (Nat.beq i 4622945017495814144 : Bool) with | true => k (.exit 1) ⟨[(4, .fv (.el (.sc (.fl .f64 (expPoly t p)))))], []⟩ | false => none)
  | _ => none
def lp70_1 : St → (Ex → St → R) → R := fun s k => match s with
  | ⟨[(4, .fv (.el (.sc (.fl .f64 p)))), (25, .fv (.el (.sc (.int .i64 i))))], []⟩ => (match (decide (i = 0) : Bool) with | true => k (.exit 3) ⟨[(4, .fv (.el (.sc (.fl .f64 (sqn 8 p)))))], []⟩ | false => none)
  | _ => none
def l70 : Loops := fun key s k => bif Nat.beq key 7 then lp70 s k else bif Nat.beq key 11 then lp70_1 s k else none
theorem st70 (t : Nat) (p : Nat) (i : Nat) (m : Nat) (k : Ex → St → R) : iterK a70 [3, 4, 5] [4] (codeK T2 a70 l70 Try.f70.ntmps (loopAt Try.f70 0)) (m + 1) ⟨[(3, .fv (.el (.sc (.fl .f64 t)))), (4, .fv (.el (.sc (.fl .f64 p)))), (5, .fv (.el (.sc (.fl .f64 i))))], []⟩ k = (match (fcmp .geq .f64 i 4607182418800017408 : Bool) with | true => iterK a70 [3, 4, 5] [4] (codeK T2 a70 l70 Try.f70.ntmps (loopAt Try.f70 0)) m ⟨[(3, .fv (.el (.sc (.fl .f64 t)))), (4, .fv (.el (.sc (.fl .f64 (fop .add .f64 4607182418800017408 (fop .quo .f64 (fop .mul .f64 t p) i)))))), (5, .fv (.el (.sc (.fl .f64 (fop .sub .f64 i 4607182418800017408)))))], []⟩ k | false => k (.exit 1) ⟨[(4, .fv (.el (.sc (.fl .f64 p))))], []⟩) := by kernel_rfl
theorem un70 (t : Nat) (p : Nat) (k : Ex → St → R) : iterK a70 [3, 4, 5] [4] (codeK T2 a70 l70 Try.f70.ntmps (loopAt Try.f70 0)) 13 ⟨[(3, .fv (.el (.sc (.fl .f64 t)))), (4, .fv (.el (.sc (.fl .f64 p)))), (5, .fv (.el (.sc (.fl .f64 4622945017495814144))))], []⟩ k = k (.exit 1) ⟨[(4, .fv (.el (.sc (.fl .f64 (expPoly t p)))))], []⟩ := by kernel_rfl

theorem lk70 : LOK T2 a70 l70 Try.f70.ntmps (loopAt Try.f70 0) := by
  intro ins outs hA s k out h
  have hA' : ([3, 4, 5], [4]) = (ins, outs) := Option.some.inj ((show a70.lp (firstRegion (loopAt Try.f70 0)) = some ([3, 4, 5], [4]) by kernel_rfl).symm.trans hA)
  cases hA'
  have hk : firstRegion (loopAt Try.f70 0) = 7 := by kernel_rfl
  rw [hk] at h
  change lp70 s k = some out at h
  unfold lp70 at h
  split at h
  · rename_i t p i
    cases hg : Nat.beq i 4622945017495814144 with
    | false => rw [hg] at h; cases h
    | true =>
      rw [hg] at h
      replace hg := Nat.eq_of_beq_eq_true hg
      subst hg
      refine ⟨13, ?_⟩
      exact (un70 t p k).trans h
  · cases h
theorem st70_1 (p : Nat) (i : Int) (m : Nat) (k : Ex → St → R) : iterK a70 [4, 25] [4] (codeK T2 a70 l70 Try.f70.ntmps (loopAt Try.f70 1)) (m + 1) ⟨[(4, .fv (.el (.sc (.fl .f64 p)))), (25, .fv (.el (.sc (.int .i64 i))))], []⟩ k = (match (decide ((i : Int) < 8) : Bool) with | true => iterK a70 [4, 25] [4] (codeK T2 a70 l70 Try.f70.ntmps (loopAt Try.f70 1)) m ⟨[(4, .fv (.el (.sc (.fl .f64 (fop .mul .f64 p p))))), (25, .fv (.el (.sc (.int .i64 (IntKind.i64.wrap (i + 1))))))], []⟩ k | false => k (.exit 3) ⟨[(4, .fv (.el (.sc (.fl .f64 p))))], []⟩) := by kernel_rfl
theorem un70_1 (p : Nat) (k : Ex → St → R) : iterK a70 [4, 25] [4] (codeK T2 a70 l70 Try.f70.ntmps (loopAt Try.f70 1)) 9 ⟨[(4, .fv (.el (.sc (.fl .f64 p)))), (25, .fv (.el (.sc (.int .i64 0))))], []⟩ k = k (.exit 3) ⟨[(4, .fv (.el (.sc (.fl .f64 (sqn 8 p)))))], []⟩ := by kernel_rfl

theorem lk70_1 : LOK T2 a70 l70 Try.f70.ntmps (loopAt Try.f70 1) := by
  intro ins outs hA s k out h
  have hA' : ([4, 25], [4]) = (ins, outs) := Option.some.inj ((show a70.lp (firstRegion (loopAt Try.f70 1)) = some ([4, 25], [4]) by kernel_rfl).symm.trans hA)
  cases hA'
  have hk : firstRegion (loopAt Try.f70 1) = 11 := by kernel_rfl
  rw [hk] at h
  change lp70_1 s k = some out at h
  unfold lp70_1 at h
  split at h
  · rename_i p i
    cases hg : decide (i = 0) with
    | false => rw [hg] at h; cases h
    | true =>
      rw [hg] at h
      replace hg := of_decide_eq_true hg
      subst hg
      refine ⟨9, ?_⟩
      exact (un70_1 p k).trans h
  · cases h
theorem e70 (y : Nat) : runFn T2 a70 l70 Try.f70 [.el (.sc (.fl .f64 y))] = (match (fcmp .gtr .f64 y 4641240890982006784 : Bool) with | true => some ⟨[.el (.sc (.fl .f64 (infOf 1)))], none⟩ | false => (match (fcmp .lss .f64 y 13864612927836782592 : Bool) with | true => some ⟨[.el (.sc (.fl .f64 0))], none⟩ | false => (match (Nat.beq 4622945017495814144 4622945017495814144 : Bool) with | true => (match (decide (0 = 0) : Bool) with | true => some ⟨[.el (.sc (.fl .f64 (sqn 8 (expPoly (fop .quo .f64 y 4643211215818981376) 4607182418800017408))))], none⟩ | false => none) | false => none))) := by kernel_rfl
theorem s70 (y : Nat) : runFn T2 a70 l70 Try.f70 [.el (.sc (.fl .f64 y))] = some ⟨[.el (.sc (.fl .f64 (expI y)))], none⟩ := by
  rw [e70]
  unfold expI
  cases fcmp .gtr .f64 y 4641240890982006784 <;> cases fcmp .lss .f64 y 13864612927836782592 <;> kernel_rfl
theorem c70 (y : Nat) (k : List RV → R) (out : Out) (h : k [.el (.sc (.fl .f64 (expI y)))] = some out) : ∃ rs, Real Try.prog 70 ∧ COK Try.prog 70 [.el (.sc (.fl .f64 y))] rs ∧ k rs = some out := by
  exact ⟨_, real Try.func70 (by kernel_rfl), fn_ok tok2 (A := a70) (L := l70) (r := none) Try.func70 (by kernel_rfl) (by kernel_rfl) (loops2 (by kernel_rfl) lk70 lk70_1) (by rw [s70]), h⟩

def S3 : SFn := fun f args k => match f, args with
  | 25, [.vw none ⟨.line, xs⟩] => (match (Nat.ble xs.length big : Bool) with | true => k [.el (.sc (.bo (linesOk xs)))] | false => none)
  | 63, [.el (.sc (.fl .f64 y))] => k [.el (.sc (.fl .f64 (expS y)))]
  | 65, [.vw none ⟨.f32, xs⟩, .fn 55 []] => (match (Nat.ble xs.length big : Bool) with | true => k [.el (.sc (.int .i64 (firstAt notFin xs)))] | false => none)
  | 65, [.vw none ⟨.f32, xs⟩, .fn 64 []] => (match (Nat.ble xs.length big : Bool) with | true => k [.el (.sc (.int .i64 (firstAt notPos xs)))] | false => none)
  | 70, [.el (.sc (.fl .f64 y))] => k [.el (.sc (.fl .f64 (expI y)))]
  | _, _ => S2 f args k
abbrev M3 : MFn := M2
def T3 : TT := tab.T S3 muts M3
theorem tok3 : TOK Try.prog T3 := by
  refine (tab_ok tabok).tok (fun f args k out h => ?_) (fun f vec args k out h => ?_)
  · change S3 f args k = some out at h
    unfold S3 at h
    split at h
    · exact (fun k out h => cok_call (c25 _ k out h)) k out h
    · exact (fun k out h => cok_call (c63 _ k out h)) k out h
    · exact (fun k out h => cok_call (c65 _ k out h)) k out h
    · exact (fun k out h => cok_call (c65b _ k out h)) k out h
    · exact (fun k out h => cok_call (c70 _ k out h)) k out h
    · exact tok2.S f args k out h
  · exact tok2.M f vec args k out h

end Go.Sm.Ytpckpfbjhnllbaa
