/- What the functions hand back: level 2. -/
import Derived.Test.YtdeplgocckdbiaaD2
namespace Go.Sm.Ytdeplgocckdbiaa
open Go Go.Sm Go.RowKit Go.Proofs

/-! spec.l05Lines -/
def a117 : Ann := ann [(2, [0, 5, 6], [0])] [2] 0
def lp117 : St → (Ex → St → R) → R := fun s k => match s with
  | ⟨[(0, .fv (.vw (some 0) ⟨.line, xs⟩)), (5, .fv (.el (.sc (.int .i64 n)))), (6, .fv (.el (.sc (.int .i64 i))))], []⟩ => (match ((decide (n = (xs.length : Int)) && (decide (i = 0) && Nat.ble xs.length wide)) : Bool) with
    | true => (match (xs.all okLine : Bool) with
      | true => k (.exit 0) ⟨[(0, .fv (.vw (some 0) ⟨.line, xs⟩))], []⟩
      | false => k .ret ⟨[(2, .fv (.el (.sc (.bo false))))], []⟩)
    | false => none)
  | _ => none
def l117 : Loops := fun key s k => bif Nat.beq key 2 then lp117 s k else none
theorem st117 (xs : List LineV) (n : Int) (i : Int) (m : Nat) (k : Ex → St → R) : iterK a117 [0, 5, 6] [0] (codeK T2 a117 l117 Try.f117.ntmps (loopAt Try.f117 0)) (m + 1) ⟨[(0, .fv (.vw (some 0) ⟨.line, xs⟩)), (5, .fv (.el (.sc (.int .i64 n)))), (6, .fv (.el (.sc (.int .i64 i))))], []⟩ k = (match (decide ((i : Int) < n) : Bool) with
  | true => (match (decide (0 ≤ (i : Int) ∧ (i : Int) < (xs.length : Int)) && true : Bool) with
    | true => (match xs[Int.toNat i]? with
      | some l => (match (!(okLine l) : Bool) with
        | true => k .ret ⟨[(2, .fv (.el (.sc (.bo false))))], []⟩
        | false => iterK a117 [0, 5, 6] [0] (codeK T2 a117 l117 Try.f117.ntmps (loopAt Try.f117 0)) m ⟨[(0, .fv (.vw (some 0) ⟨.line, xs⟩)), (5, .fv (.el (.sc (.int .i64 n)))), (6, .fv (.el (.sc (.int .i64 (IntKind.i64.wrap (i + 1))))))], []⟩ k)
      | none => none)
    | false => none)
  | false => k (.exit 0) ⟨[(0, .fv (.vw (some 0) ⟨.line, xs⟩))], []⟩) := by kernel_rfl
theorem ind117 (xs : List LineV)  (hx : Nat.ble xs.length wide = true) (k : Ex → St → R) : ∀ (m j : Nat), j + m = xs.length → iterK a117 [0, 5, 6] [0] (codeK T2 a117 l117 Try.f117.ntmps (loopAt Try.f117 0)) (m + 1) ⟨[(0, .fv (.vw (some 0) ⟨.line, xs⟩)), (5, .fv (.el (.sc (.int .i64 (xs.length : Int))))), (6, .fv (.el (.sc (.int .i64 (j : Int)))))], []⟩ k =
    (match (xs.drop j).all okLine with
    | true => k (.exit 0) ⟨[(0, .fv (.vw (some 0) ⟨.line, xs⟩))], []⟩
    | false => k .ret ⟨[(2, .fv (.el (.sc (.bo false))))], []⟩) := by
  intro m
  induction m with
  | zero =>
    intro j hj
    have h1 : ¬ ((j : Int) < (xs.length : Int)) := by omega
    rw [st117, List.drop_of_length_le (by omega)]
    simp [h1]
  | succ m ih =>
    intro j hj
    have hlt : j < xs.length := by omega
    have h1 : ((j : Int) < (xs.length : Int)) := by omega
    have h2 : (0 : Int) ≤ (j : Int) := by omega
    rw [st117, wrap_succW hlt hx]
    have h3 : xs[Int.toNat (j : Int)]? = some xs[j] := by simp [hlt]
    rw [List.drop_eq_getElem_cons hlt, List.all_cons, ih (j + 1) (by omega)]
    simp only [h1, h2, h3, and_self, decide_true, Bool.and_true]
    cases hp : okLine xs[j] <;> simp [hp]

theorem lk117 : LOK T2 a117 l117 Try.f117.ntmps (loopAt Try.f117 0) := by
  intro ins outs hA s k out h
  have hA' : ([0, 5, 6], [0]) = (ins, outs) := Option.some.inj ((show a117.lp (firstRegion (loopAt Try.f117 0)) = some ([0, 5, 6], [0]) by kernel_rfl).symm.trans hA)
  cases hA'
  have hk : firstRegion (loopAt Try.f117 0) = 2 := by kernel_rfl
  rw [hk] at h
  change lp117 s k = some out at h
  unfold lp117 at h
  split at h
  · rename_i xs n i
    cases hg : (decide (n = (xs.length : Int)) && (decide (i = 0) && Nat.ble xs.length wide)) with
    | false => rw [hg] at h; cases h
    | true =>
      rw [hg] at h
      simp only [Bool.and_eq_true, decide_eq_true_eq] at hg
      obtain ⟨rfl, rfl, hx⟩ := hg
      refine ⟨xs.length + 1, ?_⟩
      exact (ind117 xs  hx k xs.length 0 (by omega)).trans h
  · cases h
theorem e117 (xs : List LineV) : runFn T2 a117 l117 Try.f117 [.vw none ⟨.line, xs⟩] = (match ((decide ((xs.length : Int) = (xs.length : Int)) && (decide (0 = 0) && Nat.ble xs.length wide)) : Bool) with
  | true => (match (xs.all okLine : Bool) with
    | true => some ⟨[.el (.sc (.bo (decide (((xs.length : Int) : Int) ≤ 12))))], none⟩
    | false => some ⟨[.el (.sc (.bo false))], none⟩)
  | false => none) := by kernel_rfl
theorem s117 (xs : List LineV) : runFn T2 a117 l117 Try.f117 [.vw none ⟨.line, xs⟩] = (match (Nat.ble xs.length wide : Bool) with
  | true => some ⟨[.el (.sc (.bo (linesOk xs)))], none⟩
  | false => none) := by
  rw [e117]
  unfold linesOk
  cases h : Nat.ble xs.length wide with
  | false => simp [h]
  | true =>
    have e4 : ((xs.length : Int) ≤ 12) ↔ xs.length ≤ 12 := by omega
    cases h2 : xs.all okLine <;> simp [h, h2, e4]
theorem c117 (xs : List LineV) (k : List RV → R) (out : Out) (h : (match (Nat.ble xs.length wide : Bool) with
  | true => k [.el (.sc (.bo (linesOk xs)))]
  | false => none) = some out) : ∃ rs, Real Try.prog 117 ∧ COK Try.prog 117 [.vw none ⟨.line, xs⟩] rs ∧ k rs = some out := by
  cases g0 : (Nat.ble xs.length wide : Bool) with
  | true =>
    rw [g0] at h
    exact ⟨_, real Try.func117 (by kernel_rfl), fn_ok tok2 (A := a117) (L := l117) (r := none) Try.func117 (by kernel_rfl) (by kernel_rfl) (loops1 (by kernel_rfl) lk117) (by rw [s117, g0]), h⟩
  | false =>
    rw [g0] at h
    cases h

/-! slices.IndexFunc[[]float32,float32] -/
def a190 : Ann := ann [(2, [0, 1, 7, 8], [])] [4] 0
def lp190 : St → (Ex → St → R) → R := fun s k => match s with
  | ⟨[(0, .fv (.vw (some 0) ⟨.f32, xs⟩)), (1, .fv (.fn 157 [])), (7, .fv (.el (.sc (.int .i64 n)))), (8, .fv (.el (.sc (.int .i64 i))))], []⟩ => (match (decide (n = (xs.length : Int)) && (decide (i = 0) && Nat.ble xs.length big) : Bool) with
    | true => (match xs.findIdx? notFin with
      | some q => k .ret ⟨[(4, .fv (.el (.sc (.int .i64 ((q : Int))))))], []⟩
      | none => k (.exit 0) ⟨[], []⟩)
    | false => none)
  | _ => none
def l190 : Loops := fun key s k => bif Nat.beq key 2 then lp190 s k else none
theorem st190 (xs : List Nat) (n : Int) (i : Int) (m : Nat) (k : Ex → St → R) : iterK a190 [0, 1, 7, 8] [] (codeK T2 a190 l190 Try.f190.ntmps (loopAt Try.f190 0)) (m + 1) ⟨[(0, .fv (.vw (some 0) ⟨.f32, xs⟩)), (1, .fv (.fn 157 [])), (7, .fv (.el (.sc (.int .i64 n)))), (8, .fv (.el (.sc (.int .i64 i))))], []⟩ k = (match (decide ((i : Int) < n) : Bool) with
  | true => (match (decide (0 ≤ (i : Int) ∧ (i : Int) < (xs.length : Int)) && true : Bool) with
    | true => (match (xs : List Nat)[Int.toNat i]? with
      | some x1 => (match (notFin x1 : Bool) with
        | true => k .ret ⟨[(4, .fv (.el (.sc (.int .i64 i))))], []⟩
        | false => iterK a190 [0, 1, 7, 8] [] (codeK T2 a190 l190 Try.f190.ntmps (loopAt Try.f190 0)) m ⟨[(0, .fv (.vw (some 0) ⟨.f32, xs⟩)), (1, .fv (.fn 157 [])), (7, .fv (.el (.sc (.int .i64 n)))), (8, .fv (.el (.sc (.int .i64 (IntKind.i64.wrap (i + 1))))))], []⟩ k)
      | none => none)
    | false => none)
  | false => k (.exit 0) ⟨[], []⟩) := by kernel_rfl
theorem ind190 (xs : List Nat) (hx : Nat.ble xs.length big = true) (k : Ex → St → R) : ∀ (m j : Nat), j + m = xs.length → iterK a190 [0, 1, 7, 8] [] (codeK T2 a190 l190 Try.f190.ntmps (loopAt Try.f190 0)) (m + 1) ⟨[(0, .fv (.vw (some 0) ⟨.f32, xs⟩)), (1, .fv (.fn 157 [])), (7, .fv (.el (.sc (.int .i64 (xs.length : Int))))), (8, .fv (.el (.sc (.int .i64 (j : Int)))))], []⟩ k =
    (match (xs.drop j).findIdx? notFin with
    | some q => k .ret ⟨[(4, .fv (.el (.sc (.int .i64 ((j + q : Nat) : Int)))))], []⟩
    | none => k (.exit 0) ⟨[], []⟩) := by
  intro m
  induction m with
  | zero =>
    intro j hj
    have h1 : ¬ ((j : Int) < (xs.length : Int)) := by omega
    rw [st190]
    have h2 : xs.drop j = [] := List.drop_of_length_le (by omega)
    simp [h1, h2]
  | succ m ih =>
    intro j hj
    have hlt : j < xs.length := by omega
    have h1 : ((j : Int) < (xs.length : Int)) := by omega
    have h2 : (0 : Int) ≤ (j : Int) := by omega
    rw [st190, wrap_succ hlt hx]
    have h3 : xs[Int.toNat (j : Int)]? = some xs[j] := by simp [hlt]
    rw [List.drop_eq_getElem_cons hlt, List.findIdx?_cons]
    simp only [h1, h2, h3, and_self, decide_true, Bool.and_true]
    cases hp : notFin xs[j] with
    | true => simp
    | false =>
      rw [ih (j + 1) (by omega)]
      cases (xs.drop (j + 1)).findIdx? notFin with
      | none => rfl
      | some q => simp only [Bool.false_eq_true, if_false, Option.map_some]; rw [show j + 1 + q = j + (q + 1) by omega]
theorem lk190 : LOK T2 a190 l190 Try.f190.ntmps (loopAt Try.f190 0) := by
  intro ins outs hA s k out h
  have hA' : ([0, 1, 7, 8], []) = (ins, outs) := Option.some.inj ((show a190.lp (firstRegion (loopAt Try.f190 0)) = some ([0, 1, 7, 8], []) by kernel_rfl).symm.trans hA)
  cases hA'
  have hk : firstRegion (loopAt Try.f190 0) = 2 := by kernel_rfl
  rw [hk] at h
  change lp190 s k = some out at h
  unfold lp190 at h
  split at h
  · rename_i xs n i
    cases hg : (decide (n = (xs.length : Int)) && (decide (i = 0) && Nat.ble xs.length big)) with
    | false => rw [hg] at h; cases h
    | true =>
      rw [hg] at h
      simp only [Bool.and_eq_true, decide_eq_true_eq] at hg
      obtain ⟨rfl, rfl, hx⟩ := hg
      refine ⟨xs.length + 1, ?_⟩
      have := ind190 xs hx k xs.length 0 (by omega)
      simp only [List.drop_zero, Nat.zero_add] at this
      exact this.trans h
  · cases h
theorem e190 (xs : List Nat) : runFn T2 a190 l190 Try.f190 [.vw none ⟨.f32, xs⟩, .fn 157 []] = (match (decide ((xs.length : Int) = (xs.length : Int)) && (decide (0 = 0) && Nat.ble xs.length big) : Bool) with
  | true => (match xs.findIdx? notFin with
    | some q => some ⟨[.el (.sc (.int .i64 ((q : Int))))], none⟩
    | none => some ⟨[.el (.sc (.int .i64 ((-1))))], none⟩)
  | false => none) := by kernel_rfl
theorem s190 (xs : List Nat) : runFn T2 a190 l190 Try.f190 [.vw none ⟨.f32, xs⟩, .fn 157 []] = (match (Nat.ble xs.length big : Bool) with
  | true => some ⟨[.el (.sc (.int .i64 (firstAt notFin xs)))], none⟩
  | false => none) := by
  rw [e190]
  unfold firstAt
  cases h : Nat.ble xs.length big with
  | false => simp [h]
  | true =>
    cases h2 : xs.findIdx? notFin with
    | some q => simp [h, h2]
    | none => simp [h, h2]
theorem c190 (xs : List Nat) (k : List RV → R) (out : Out) (h : (match (Nat.ble xs.length big : Bool) with
  | true => k [.el (.sc (.int .i64 (firstAt notFin xs)))]
  | false => none) = some out) : ∃ rs, Real Try.prog 190 ∧ COK Try.prog 190 [.vw none ⟨.f32, xs⟩, .fn 157 []] rs ∧ k rs = some out := by
  cases g0 : (Nat.ble xs.length big : Bool) with
  | true =>
    rw [g0] at h
    exact ⟨_, real Try.func190 (by kernel_rfl), fn_ok tok2 (A := a190) (L := l190) (r := none) Try.func190 (by kernel_rfl) (by kernel_rfl) (loops1 (by kernel_rfl) lk190) (by rw [s190, g0]), h⟩
  | false =>
    rw [g0] at h
    cases h

/-! slices.IndexFunc[[]float32,float32] -/
def a190b : Ann := ann [(2, [0, 1, 7, 8], [])] [4] 0
def lp190b : St → (Ex → St → R) → R := fun s k => match s with
  | ⟨[(0, .fv (.vw (some 0) ⟨.f32, xs⟩)), (1, .fv (.fn 201 [])), (7, .fv (.el (.sc (.int .i64 n)))), (8, .fv (.el (.sc (.int .i64 i))))], []⟩ => (match (decide (n = (xs.length : Int)) && (decide (i = 0) && Nat.ble xs.length big) : Bool) with
    | true => (match xs.findIdx? notPos with
      | some q => k .ret ⟨[(4, .fv (.el (.sc (.int .i64 ((q : Int))))))], []⟩
      | none => k (.exit 0) ⟨[], []⟩)
    | false => none)
  | _ => none
def l190b : Loops := fun key s k => bif Nat.beq key 2 then lp190b s k else none
theorem st190b (xs : List Nat) (n : Int) (i : Int) (m : Nat) (k : Ex → St → R) : iterK a190b [0, 1, 7, 8] [] (codeK T2 a190b l190b Try.f190.ntmps (loopAt Try.f190 0)) (m + 1) ⟨[(0, .fv (.vw (some 0) ⟨.f32, xs⟩)), (1, .fv (.fn 201 [])), (7, .fv (.el (.sc (.int .i64 n)))), (8, .fv (.el (.sc (.int .i64 i))))], []⟩ k = (match (decide ((i : Int) < n) : Bool) with
  | true => (match (decide (0 ≤ (i : Int) ∧ (i : Int) < (xs.length : Int)) && true : Bool) with
    | true => (match (xs : List Nat)[Int.toNat i]? with
      | some x1 => (match (notPos x1 : Bool) with
        | true => k .ret ⟨[(4, .fv (.el (.sc (.int .i64 i))))], []⟩
        | false => iterK a190b [0, 1, 7, 8] [] (codeK T2 a190b l190b Try.f190.ntmps (loopAt Try.f190 0)) m ⟨[(0, .fv (.vw (some 0) ⟨.f32, xs⟩)), (1, .fv (.fn 201 [])), (7, .fv (.el (.sc (.int .i64 n)))), (8, .fv (.el (.sc (.int .i64 (IntKind.i64.wrap (i + 1))))))], []⟩ k)
      | none => none)
    | false => none)
  | false => k (.exit 0) ⟨[], []⟩) := by kernel_rfl
theorem ind190b (xs : List Nat) (hx : Nat.ble xs.length big = true) (k : Ex → St → R) : ∀ (m j : Nat), j + m = xs.length → iterK a190b [0, 1, 7, 8] [] (codeK T2 a190b l190b Try.f190.ntmps (loopAt Try.f190 0)) (m + 1) ⟨[(0, .fv (.vw (some 0) ⟨.f32, xs⟩)), (1, .fv (.fn 201 [])), (7, .fv (.el (.sc (.int .i64 (xs.length : Int))))), (8, .fv (.el (.sc (.int .i64 (j : Int)))))], []⟩ k =
    (match (xs.drop j).findIdx? notPos with
    | some q => k .ret ⟨[(4, .fv (.el (.sc (.int .i64 ((j + q : Nat) : Int)))))], []⟩
    | none => k (.exit 0) ⟨[], []⟩) := by
  intro m
  induction m with
  | zero =>
    intro j hj
    have h1 : ¬ ((j : Int) < (xs.length : Int)) := by omega
    rw [st190b]
    have h2 : xs.drop j = [] := List.drop_of_length_le (by omega)
    simp [h1, h2]
  | succ m ih =>
    intro j hj
    have hlt : j < xs.length := by omega
    have h1 : ((j : Int) < (xs.length : Int)) := by omega
    have h2 : (0 : Int) ≤ (j : Int) := by omega
    rw [st190b, wrap_succ hlt hx]
    have h3 : xs[Int.toNat (j : Int)]? = some xs[j] := by simp [hlt]
    rw [List.drop_eq_getElem_cons hlt, List.findIdx?_cons]
    simp only [h1, h2, h3, and_self, decide_true, Bool.and_true]
    cases hp : notPos xs[j] with
    | true => simp
    | false =>
      rw [ih (j + 1) (by omega)]
      cases (xs.drop (j + 1)).findIdx? notPos with
      | none => rfl
      | some q => simp only [Bool.false_eq_true, if_false, Option.map_some]; rw [show j + 1 + q = j + (q + 1) by omega]
theorem lk190b : LOK T2 a190b l190b Try.f190.ntmps (loopAt Try.f190 0) := by
  intro ins outs hA s k out h
  have hA' : ([0, 1, 7, 8], []) = (ins, outs) := Option.some.inj ((show a190b.lp (firstRegion (loopAt Try.f190 0)) = some ([0, 1, 7, 8], []) by kernel_rfl).symm.trans hA)
  cases hA'
  have hk : firstRegion (loopAt Try.f190 0) = 2 := by kernel_rfl
  rw [hk] at h
  change lp190b s k = some out at h
  unfold lp190b at h
  split at h
  · rename_i xs n i
    cases hg : (decide (n = (xs.length : Int)) && (decide (i = 0) && Nat.ble xs.length big)) with
    | false => rw [hg] at h; cases h
    | true =>
      rw [hg] at h
      simp only [Bool.and_eq_true, decide_eq_true_eq] at hg
      obtain ⟨rfl, rfl, hx⟩ := hg
      refine ⟨xs.length + 1, ?_⟩
      have := ind190b xs hx k xs.length 0 (by omega)
      simp only [List.drop_zero, Nat.zero_add] at this
      exact this.trans h
  · cases h
theorem e190b (xs : List Nat) : runFn T2 a190b l190b Try.f190 [.vw none ⟨.f32, xs⟩, .fn 201 []] = (match (decide ((xs.length : Int) = (xs.length : Int)) && (decide (0 = 0) && Nat.ble xs.length big) : Bool) with
  | true => (match xs.findIdx? notPos with
    | some q => some ⟨[.el (.sc (.int .i64 ((q : Int))))], none⟩
    | none => some ⟨[.el (.sc (.int .i64 ((-1))))], none⟩)
  | false => none) := by kernel_rfl
theorem s190b (xs : List Nat) : runFn T2 a190b l190b Try.f190 [.vw none ⟨.f32, xs⟩, .fn 201 []] = (match (Nat.ble xs.length big : Bool) with
  | true => some ⟨[.el (.sc (.int .i64 (firstAt notPos xs)))], none⟩
  | false => none) := by
  rw [e190b]
  unfold firstAt
  cases h : Nat.ble xs.length big with
  | false => simp [h]
  | true =>
    cases h2 : xs.findIdx? notPos with
    | some q => simp [h, h2]
    | none => simp [h, h2]
theorem c190b (xs : List Nat) (k : List RV → R) (out : Out) (h : (match (Nat.ble xs.length big : Bool) with
  | true => k [.el (.sc (.int .i64 (firstAt notPos xs)))]
  | false => none) = some out) : ∃ rs, Real Try.prog 190 ∧ COK Try.prog 190 [.vw none ⟨.f32, xs⟩, .fn 201 []] rs ∧ k rs = some out := by
  cases g0 : (Nat.ble xs.length big : Bool) with
  | true =>
    rw [g0] at h
    exact ⟨_, real Try.func190 (by kernel_rfl), fn_ok tok2 (A := a190b) (L := l190b) (r := none) Try.func190 (by kernel_rfl) (by kernel_rfl) (loops1 (by kernel_rfl) lk190b) (by rw [s190b, g0]), h⟩
  | false =>
    rw [g0] at h
    cases h

/-! spec.l01ExpWide -/
def a204 : Ann := ann [(10, [3, 4, 5], [4]), (14, [4, 6], [4])] [2] 0
def lp204 : St → (Ex → St → R) → R := fun s k => match s with
  | ⟨[(3, .fv (.el (.sc (.fl .f64 t)))), (4, .fv (.el (.sc (.fl .f64 p)))), (5, .fv (.el (.sc (.int .i64 i))))], []⟩ => (match (decide (i = 12) : Bool) with
    | true => k (.exit 0) ⟨[(4, .fv (.el (.sc (.fl .f64 (expPoly t p)))))], []⟩
    | false => none)
  | _ => none
def lp204_1 : St → (Ex → St → R) → R := fun s k => match s with
  | ⟨[(4, .fv (.el (.sc (.fl .f64 p)))), (6, .fv (.el (.sc (.int .i64 i))))], []⟩ => (match (decide (i = 0) : Bool) with
    | true => k (.exit 2) ⟨[(4, .fv (.el (.sc (.fl .f64 (sqn 8 p)))))], []⟩
    | false => none)
  | _ => none
def l204 : Loops := fun key s k => bif Nat.beq key 10 then lp204 s k else bif Nat.beq key 14 then lp204_1 s k else none
theorem st204 (t : Nat) (p : Nat) (i : Int) (m : Nat) (k : Ex → St → R) : iterK a204 [3, 4, 5] [4] (codeK T2 a204 l204 Try.f204.ntmps (loopAt Try.f204 0)) (m + 1) ⟨[(3, .fv (.el (.sc (.fl .f64 t)))), (4, .fv (.el (.sc (.fl .f64 p)))), (5, .fv (.el (.sc (.int .i64 i))))], []⟩ k = (match (decide ((i : Int) ≥ 1) : Bool) with
  | true => iterK a204 [3, 4, 5] [4] (codeK T2 a204 l204 Try.f204.ntmps (loopAt Try.f204 0)) m ⟨[(3, .fv (.el (.sc (.fl .f64 t)))), (4, .fv (.el (.sc (.fl .f64 (fop .add .f64 4607182418800017408 (fop .quo .f64 (fop .mul .f64 t p) (fint .f64 i))))))), (5, .fv (.el (.sc (.int .i64 (IntKind.i64.wrap (i - 1))))))], []⟩ k
  | false => k (.exit 0) ⟨[(4, .fv (.el (.sc (.fl .f64 p))))], []⟩) := by kernel_rfl
theorem un204 (t : Nat) (p : Nat) (k : Ex → St → R) : iterK a204 [3, 4, 5] [4] (codeK T2 a204 l204 Try.f204.ntmps (loopAt Try.f204 0)) 13 ⟨[(3, .fv (.el (.sc (.fl .f64 t)))), (4, .fv (.el (.sc (.fl .f64 p)))), (5, .fv (.el (.sc (.int .i64 12))))], []⟩ k = k (.exit 0) ⟨[(4, .fv (.el (.sc (.fl .f64 (expPoly t p)))))], []⟩ := by kernel_rfl

theorem lk204 : LOK T2 a204 l204 Try.f204.ntmps (loopAt Try.f204 0) := by
  intro ins outs hA s k out h
  have hA' : ([3, 4, 5], [4]) = (ins, outs) := Option.some.inj ((show a204.lp (firstRegion (loopAt Try.f204 0)) = some ([3, 4, 5], [4]) by kernel_rfl).symm.trans hA)
  cases hA'
  have hk : firstRegion (loopAt Try.f204 0) = 10 := by kernel_rfl
  rw [hk] at h
  change lp204 s k = some out at h
  unfold lp204 at h
  split at h
  · rename_i t p i
    cases hg : decide (i = 12) with
    | false => rw [hg] at h; cases h
    | true =>
      rw [hg] at h
      replace hg := of_decide_eq_true hg
      subst hg
      refine ⟨13, ?_⟩
      exact (un204 t p k).trans h
  · cases h
theorem st204_1 (p : Nat) (i : Int) (m : Nat) (k : Ex → St → R) : iterK a204 [4, 6] [4] (codeK T2 a204 l204 Try.f204.ntmps (loopAt Try.f204 1)) (m + 1) ⟨[(4, .fv (.el (.sc (.fl .f64 p)))), (6, .fv (.el (.sc (.int .i64 i))))], []⟩ k = (match (decide ((i : Int) < 8) : Bool) with
  | true => iterK a204 [4, 6] [4] (codeK T2 a204 l204 Try.f204.ntmps (loopAt Try.f204 1)) m ⟨[(4, .fv (.el (.sc (.fl .f64 (fop .mul .f64 p p))))), (6, .fv (.el (.sc (.int .i64 (IntKind.i64.wrap (i + 1))))))], []⟩ k
  | false => k (.exit 2) ⟨[(4, .fv (.el (.sc (.fl .f64 p))))], []⟩) := by kernel_rfl
theorem un204_1 (p : Nat) (k : Ex → St → R) : iterK a204 [4, 6] [4] (codeK T2 a204 l204 Try.f204.ntmps (loopAt Try.f204 1)) 9 ⟨[(4, .fv (.el (.sc (.fl .f64 p)))), (6, .fv (.el (.sc (.int .i64 0))))], []⟩ k = k (.exit 2) ⟨[(4, .fv (.el (.sc (.fl .f64 (sqn 8 p)))))], []⟩ := by kernel_rfl

theorem lk204_1 : LOK T2 a204 l204 Try.f204.ntmps (loopAt Try.f204 1) := by
  intro ins outs hA s k out h
  have hA' : ([4, 6], [4]) = (ins, outs) := Option.some.inj ((show a204.lp (firstRegion (loopAt Try.f204 1)) = some ([4, 6], [4]) by kernel_rfl).symm.trans hA)
  cases hA'
  have hk : firstRegion (loopAt Try.f204 1) = 14 := by kernel_rfl
  rw [hk] at h
  change lp204_1 s k = some out at h
  unfold lp204_1 at h
  split at h
  · rename_i p i
    cases hg : decide (i = 0) with
    | false => rw [hg] at h; cases h
    | true =>
      rw [hg] at h
      replace hg := of_decide_eq_true hg
      subst hg
      refine ⟨9, ?_⟩
      exact (un204_1 p k).trans h
  · cases h
theorem e204 (y : Nat) : runFn T2 a204 l204 Try.f204 [.el (.sc (.fl .f64 y))] = (match (fcmp .neq .f64 y y : Bool) with
  | true => some ⟨[.el (.sc (.fl .f64 y))], none⟩
  | false => (match (fcmp .gtr .f64 y 4641240890982006784 : Bool) with
    | true => some ⟨[.el (.sc (.fl .f64 (infOf 1)))], none⟩
    | false => (match (fcmp .lss .f64 y 13864612927836782592 : Bool) with
      | true => some ⟨[.el (.sc (.fl .f64 0))], none⟩
      | false => (match (decide (12 = 12) : Bool) with
        | true => (match (decide (0 = 0) : Bool) with
          | true => some ⟨[.el (.sc (.fl .f64 (sqn 8 (expPoly (fop .quo .f64 y 4643211215818981376) 4607182418800017408))))], none⟩
          | false => none)
        | false => none)))) := by kernel_rfl
theorem s204 (y : Nat) : runFn T2 a204 l204 Try.f204 [.el (.sc (.fl .f64 y))] = some ⟨[.el (.sc (.fl .f64 (expS y)))], none⟩ := by
  rw [e204]
  unfold expS expI
  cases fcmp .neq .f64 y y <;> cases fcmp .gtr .f64 y 4641240890982006784 <;> cases fcmp .lss .f64 y 13864612927836782592 <;> kernel_rfl
theorem c204 (y : Nat) (k : List RV → R) (out : Out) (h : k [.el (.sc (.fl .f64 (expS y)))] = some out) : ∃ rs, Real Try.prog 204 ∧ COK Try.prog 204 [.el (.sc (.fl .f64 y))] rs ∧ k rs = some out := by
  exact ⟨_, real Try.func204 (by kernel_rfl), fn_ok tok2 (A := a204) (L := l204) (r := none) Try.func204 (by kernel_rfl) (by kernel_rfl) (loops2 (by kernel_rfl) lk204 lk204_1) (by rw [s204]), h⟩

/-! impl.exponential -/
def a231 : Ann := ann [(7, [3, 4, 5], [4]), (11, [4, 25], [4])] [2] 0
def lp231 : St → (Ex → St → R) → R := fun s k => match s with
  | ⟨[(3, .fv (.el (.sc (.fl .f64 t)))), (4, .fv (.el (.sc (.fl .f64 p)))), (5, .fv (.el (.sc (.fl .f64 i))))], []⟩ => (match (Nat.beq i 4622945017495814144 : Bool) with
    | true => k (.exit 1) ⟨[(4, .fv (.el (.sc (.fl .f64 (expPoly t p)))))], []⟩
    | false => none)
  | _ => none
def lp231_1 : St → (Ex → St → R) → R := fun s k => match s with
  | ⟨[(4, .fv (.el (.sc (.fl .f64 p)))), (25, .fv (.el (.sc (.int .i64 i))))], []⟩ => (match (decide (i = 0) : Bool) with
    | true => k (.exit 3) ⟨[(4, .fv (.el (.sc (.fl .f64 (sqn 8 p)))))], []⟩
    | false => none)
  | _ => none
def l231 : Loops := fun key s k => bif Nat.beq key 7 then lp231 s k else bif Nat.beq key 11 then lp231_1 s k else none
theorem st231 (t : Nat) (p : Nat) (i : Nat) (m : Nat) (k : Ex → St → R) : iterK a231 [3, 4, 5] [4] (codeK T2 a231 l231 Try.f231.ntmps (loopAt Try.f231 0)) (m + 1) ⟨[(3, .fv (.el (.sc (.fl .f64 t)))), (4, .fv (.el (.sc (.fl .f64 p)))), (5, .fv (.el (.sc (.fl .f64 i))))], []⟩ k = (match (fcmp .geq .f64 i 4607182418800017408 : Bool) with
  | true => iterK a231 [3, 4, 5] [4] (codeK T2 a231 l231 Try.f231.ntmps (loopAt Try.f231 0)) m ⟨[(3, .fv (.el (.sc (.fl .f64 t)))), (4, .fv (.el (.sc (.fl .f64 (fop .add .f64 4607182418800017408 (fop .quo .f64 (fop .mul .f64 t p) i)))))), (5, .fv (.el (.sc (.fl .f64 (fop .sub .f64 i 4607182418800017408)))))], []⟩ k
  | false => k (.exit 1) ⟨[(4, .fv (.el (.sc (.fl .f64 p))))], []⟩) := by kernel_rfl
theorem un231 (t : Nat) (p : Nat) (k : Ex → St → R) : iterK a231 [3, 4, 5] [4] (codeK T2 a231 l231 Try.f231.ntmps (loopAt Try.f231 0)) 13 ⟨[(3, .fv (.el (.sc (.fl .f64 t)))), (4, .fv (.el (.sc (.fl .f64 p)))), (5, .fv (.el (.sc (.fl .f64 4622945017495814144))))], []⟩ k = k (.exit 1) ⟨[(4, .fv (.el (.sc (.fl .f64 (expPoly t p)))))], []⟩ := by kernel_rfl

theorem lk231 : LOK T2 a231 l231 Try.f231.ntmps (loopAt Try.f231 0) := by
  intro ins outs hA s k out h
  have hA' : ([3, 4, 5], [4]) = (ins, outs) := Option.some.inj ((show a231.lp (firstRegion (loopAt Try.f231 0)) = some ([3, 4, 5], [4]) by kernel_rfl).symm.trans hA)
  cases hA'
  have hk : firstRegion (loopAt Try.f231 0) = 7 := by kernel_rfl
  rw [hk] at h
  change lp231 s k = some out at h
  unfold lp231 at h
  split at h
  · rename_i t p i
    cases hg : Nat.beq i 4622945017495814144 with
    | false => rw [hg] at h; cases h
    | true =>
      rw [hg] at h
      replace hg := Nat.eq_of_beq_eq_true hg
      subst hg
      refine ⟨13, ?_⟩
      exact (un231 t p k).trans h
  · cases h
theorem st231_1 (p : Nat) (i : Int) (m : Nat) (k : Ex → St → R) : iterK a231 [4, 25] [4] (codeK T2 a231 l231 Try.f231.ntmps (loopAt Try.f231 1)) (m + 1) ⟨[(4, .fv (.el (.sc (.fl .f64 p)))), (25, .fv (.el (.sc (.int .i64 i))))], []⟩ k = (match (decide ((i : Int) < 8) : Bool) with
  | true => iterK a231 [4, 25] [4] (codeK T2 a231 l231 Try.f231.ntmps (loopAt Try.f231 1)) m ⟨[(4, .fv (.el (.sc (.fl .f64 (fop .mul .f64 p p))))), (25, .fv (.el (.sc (.int .i64 (IntKind.i64.wrap (i + 1))))))], []⟩ k
  | false => k (.exit 3) ⟨[(4, .fv (.el (.sc (.fl .f64 p))))], []⟩) := by kernel_rfl
theorem un231_1 (p : Nat) (k : Ex → St → R) : iterK a231 [4, 25] [4] (codeK T2 a231 l231 Try.f231.ntmps (loopAt Try.f231 1)) 9 ⟨[(4, .fv (.el (.sc (.fl .f64 p)))), (25, .fv (.el (.sc (.int .i64 0))))], []⟩ k = k (.exit 3) ⟨[(4, .fv (.el (.sc (.fl .f64 (sqn 8 p)))))], []⟩ := by kernel_rfl

theorem lk231_1 : LOK T2 a231 l231 Try.f231.ntmps (loopAt Try.f231 1) := by
  intro ins outs hA s k out h
  have hA' : ([4, 25], [4]) = (ins, outs) := Option.some.inj ((show a231.lp (firstRegion (loopAt Try.f231 1)) = some ([4, 25], [4]) by kernel_rfl).symm.trans hA)
  cases hA'
  have hk : firstRegion (loopAt Try.f231 1) = 11 := by kernel_rfl
  rw [hk] at h
  change lp231_1 s k = some out at h
  unfold lp231_1 at h
  split at h
  · rename_i p i
    cases hg : decide (i = 0) with
    | false => rw [hg] at h; cases h
    | true =>
      rw [hg] at h
      replace hg := of_decide_eq_true hg
      subst hg
      refine ⟨9, ?_⟩
      exact (un231_1 p k).trans h
  · cases h
theorem e231 (y : Nat) : runFn T2 a231 l231 Try.f231 [.el (.sc (.fl .f64 y))] = (match (fcmp .gtr .f64 y 4641240890982006784 : Bool) with
  | true => some ⟨[.el (.sc (.fl .f64 (infOf 1)))], none⟩
  | false => (match (fcmp .lss .f64 y 13864612927836782592 : Bool) with
    | true => some ⟨[.el (.sc (.fl .f64 0))], none⟩
    | false => (match (Nat.beq 4622945017495814144 4622945017495814144 : Bool) with
      | true => (match (decide (0 = 0) : Bool) with
        | true => some ⟨[.el (.sc (.fl .f64 (sqn 8 (expPoly (fop .quo .f64 y 4643211215818981376) 4607182418800017408))))], none⟩
        | false => none)
      | false => none))) := by kernel_rfl
theorem s231 (y : Nat) : runFn T2 a231 l231 Try.f231 [.el (.sc (.fl .f64 y))] = some ⟨[.el (.sc (.fl .f64 (expI y)))], none⟩ := by
  rw [e231]
  unfold expI
  cases fcmp .gtr .f64 y 4641240890982006784 <;> cases fcmp .lss .f64 y 13864612927836782592 <;> kernel_rfl
theorem c231 (y : Nat) (k : List RV → R) (out : Out) (h : k [.el (.sc (.fl .f64 (expI y)))] = some out) : ∃ rs, Real Try.prog 231 ∧ COK Try.prog 231 [.el (.sc (.fl .f64 y))] rs ∧ k rs = some out := by
  exact ⟨_, real Try.func231 (by kernel_rfl), fn_ok tok2 (A := a231) (L := l231) (r := none) Try.func231 (by kernel_rfl) (by kernel_rfl) (loops2 (by kernel_rfl) lk231 lk231_1) (by rw [s231]), h⟩

def S3 : SFn := fun f args k => match f, args with
  | 117, [.vw none ⟨.line, xs⟩] => (match (Nat.ble xs.length wide : Bool) with
    | true => k [.el (.sc (.bo (linesOk xs)))]
    | false => none)
  | 190, [.vw none ⟨.f32, xs⟩, .fn 157 []] => (match (Nat.ble xs.length big : Bool) with
    | true => k [.el (.sc (.int .i64 (firstAt notFin xs)))]
    | false => none)
  | 190, [.vw none ⟨.f32, xs⟩, .fn 201 []] => (match (Nat.ble xs.length big : Bool) with
    | true => k [.el (.sc (.int .i64 (firstAt notPos xs)))]
    | false => none)
  | 204, [.el (.sc (.fl .f64 y))] => k [.el (.sc (.fl .f64 (expS y)))]
  | 231, [.el (.sc (.fl .f64 y))] => k [.el (.sc (.fl .f64 (expI y)))]
  | _, _ => S2 f args k
abbrev M3 : MFn := M2
def T3 : TT := tab.T S3 muts M3
theorem tok3 : TOK Try.prog T3 := by
  refine (tab_ok tabok).tok (fun f args k out h => ?_) (fun f vec args k out h => ?_)
  · change S3 f args k = some out at h
    unfold S3 at h
    split at h
    · exact (fun k out h => cok_call (c117 _ k out h)) k out h
    · exact (fun k out h => cok_call (c190 _ k out h)) k out h
    · exact (fun k out h => cok_call (c190b _ k out h)) k out h
    · exact (fun k out h => cok_call (c204 _ k out h)) k out h
    · exact (fun k out h => cok_call (c231 _ k out h)) k out h
    · exact tok2.S f args k out h
  · exact tok2.M f vec args k out h

end Go.Sm.Ytdeplgocckdbiaa
