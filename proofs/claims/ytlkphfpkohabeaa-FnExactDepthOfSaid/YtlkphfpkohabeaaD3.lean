/- What the functions hand back: level 2. -/
import Derived.Test.YtlkphfpkohabeaaD2
namespace Go.Sm.Ytlkphfpkohabeaa
open Go Go.Sm Go.RowKit Go.Proofs

/-! spec.l06Bins -/
theorem e57 (xs : List Nat) (n : Int) : runFn T2 none0 noL Try.f57 [.vw none ⟨.f32, xs⟩, .el (.sc (.int .i64 n))] = (match (decide (((xs.length : Int) : Int) ≥ n) : Bool) with
  | true => (match (decide (((xs.length : Int) : Int) ≤ 64) : Bool) with
    | true => (match (Nat.ble xs.length big : Bool) with
      | true => some ⟨[.el (.sc (.bo (xs.all fin)))], none⟩
      | false => none)
    | false => some ⟨[.el (.sc (.bo false))], none⟩)
  | false => some ⟨[.el (.sc (.bo false))], none⟩) := by kernel_rfl
theorem s57 (xs : List Nat) (n : Int) : runFn T2 none0 noL Try.f57 [.vw none ⟨.f32, xs⟩, .el (.sc (.int .i64 n))] = some ⟨[.el (.sc (.bo (bins xs n)))], none⟩ := by
  rw [e57]
  unfold bins
  have e4 : ((xs.length : Int) ≤ 64) ↔ xs.length ≤ 64 := by omega
  by_cases h4 : xs.length ≤ 64
  · have h : Nat.ble xs.length big = true := Nat.ble_eq_true_of_le (by unfold big; omega)
    cases h3 : decide ((xs.length : Int) ≥ n) <;> simp [e4, h4, h]
  · cases h3 : decide ((xs.length : Int) ≥ n) <;> simp [e4, h4]
theorem c57 (xs : List Nat) (n : Int) (k : List RV → R) (out : Out) (h : k [.el (.sc (.bo (bins xs n)))] = some out) : ∃ rs, Real Try.prog 57 ∧ COK Try.prog 57 [.vw none ⟨.f32, xs⟩, .el (.sc (.int .i64 n))] rs ∧ k rs = some out := by
  exact ⟨_, real Try.func57 (by kernel_rfl), fn_ok tok2 (A := none0) (L := noL) (r := none) Try.func57 (by kernel_rfl) (by kernel_rfl) (loops0 (by kernel_rfl)) (by rw [s57]), h⟩

/-! spec.l02List -/
theorem e61 (xs : List Nat) : runFn T2 none0 noL Try.f61 [.vw none ⟨.f32, xs⟩] = (match (Nat.ble xs.length big : Bool) with
  | true => (match (!(xs.all fin) : Bool) with
    | true => some ⟨[.nil, .el (.sc (.bo false))], none⟩
    | false => some ⟨[.arg 0, .el (.sc (.bo true))], none⟩)
  | false => none) := by kernel_rfl
theorem s61 (xs : List Nat) : runFn T2 none0 noL Try.f61 [.vw none ⟨.f32, xs⟩] = (match (Nat.ble xs.length big : Bool) with
  | true => (match (xs.all fin : Bool) with
    | true => some ⟨[.arg 0, .el (.sc (.bo true))], none⟩
    | false => some ⟨[.nil, .el (.sc (.bo false))], none⟩)
  | false => none) := by
  rw [e61]
  cases Nat.ble xs.length big <;> cases xs.all fin <;> simp
theorem c61 (xs : List Nat) (k : List RV → R) (out : Out) (h : (match (Nat.ble xs.length big : Bool) with
  | true => (match (xs.all fin : Bool) with
    | true => k [.arg 0, .el (.sc (.bo true))]
    | false => k [.nil, .el (.sc (.bo false))])
  | false => none) = some out) : ∃ rs, Real Try.prog 61 ∧ COK Try.prog 61 [.vw none ⟨.f32, xs⟩] rs ∧ k rs = some out := by
  cases g0 : (Nat.ble xs.length big : Bool) with
  | true =>
    rw [g0] at h
    cases g1 : (xs.all fin : Bool) with
    | true =>
      rw [g1] at h
      exact ⟨_, real Try.func61 (by kernel_rfl), fn_ok tok2 (A := none0) (L := noL) (r := none) Try.func61 (by kernel_rfl) (by kernel_rfl) (loops0 (by kernel_rfl)) (by rw [s61, g0, g1]), h⟩
    | false =>
      rw [g1] at h
      exact ⟨_, real Try.func61 (by kernel_rfl), fn_ok tok2 (A := none0) (L := noL) (r := none) Try.func61 (by kernel_rfl) (by kernel_rfl) (loops0 (by kernel_rfl)) (by rw [s61, g0, g1]), h⟩
  | false =>
    rw [g0] at h
    cases h

/-! spec.l06Positive -/
def a86 : Ann := ann [(2, [0, 3], [])] [2] 0
def lp86 : St → (Ex → St → R) → R := fun s k => match s with
  | ⟨[(0, .fv (.vw (some 0) ⟨.f32, xs⟩)), (3, .fv (.el (.sc (.int .i64 i))))], []⟩ => (match ((decide (i = 0) && Nat.ble xs.length big) : Bool) with
    | true => (match (xs.all above : Bool) with
      | true => k (.exit 0) ⟨[], []⟩
      | false => k .ret ⟨[(2, .fv (.el (.sc (.bo false))))], []⟩)
    | false => none)
  | _ => none
def l86 : Loops := fun key s k => bif Nat.beq key 2 then lp86 s k else none
theorem st86 (xs : List Nat) (i : Int) (m : Nat) (k : Ex → St → R) : iterK a86 [0, 3] [] (codeK T2 a86 l86 Try.f86.ntmps (loopAt Try.f86 0)) (m + 1) ⟨[(0, .fv (.vw (some 0) ⟨.f32, xs⟩)), (3, .fv (.el (.sc (.int .i64 i))))], []⟩ k = (match (decide ((i : Int) < (xs.length : Int)) : Bool) with
  | true => (match (decide (0 ≤ (i : Int) ∧ (i : Int) < (xs.length : Int)) && true : Bool) with
    | true => (match (xs : List Nat)[Int.toNat i]? with
      | some x1 => (match (!(above x1) : Bool) with
        | true => k .ret ⟨[(2, .fv (.el (.sc (.bo false))))], []⟩
        | false => iterK a86 [0, 3] [] (codeK T2 a86 l86 Try.f86.ntmps (loopAt Try.f86 0)) m ⟨[(0, .fv (.vw (some 0) ⟨.f32, xs⟩)), (3, .fv (.el (.sc (.int .i64 (IntKind.i64.wrap (i + 1))))))], []⟩ k)
      | none => none)
    | false => none)
  | false => k (.exit 0) ⟨[], []⟩) := by kernel_rfl
theorem ind86 (xs : List Nat)  (hx : Nat.ble xs.length big = true) (k : Ex → St → R) : ∀ (m j : Nat), j + m = xs.length → iterK a86 [0, 3] [] (codeK T2 a86 l86 Try.f86.ntmps (loopAt Try.f86 0)) (m + 1) ⟨[(0, .fv (.vw (some 0) ⟨.f32, xs⟩)), (3, .fv (.el (.sc (.int .i64 (j : Int)))))], []⟩ k =
    (match (xs.drop j).all above with
    | true => k (.exit 0) ⟨[], []⟩
    | false => k .ret ⟨[(2, .fv (.el (.sc (.bo false))))], []⟩) := by
  intro m
  induction m with
  | zero =>
    intro j hj
    have h1 : ¬ ((j : Int) < (xs.length : Int)) := by omega
    rw [st86, List.drop_of_length_le (by omega)]
    simp [h1]
  | succ m ih =>
    intro j hj
    have hlt : j < xs.length := by omega
    have h1 : ((j : Int) < (xs.length : Int)) := by omega
    have h2 : (0 : Int) ≤ (j : Int) := by omega
    rw [st86, wrap_succ hlt hx]
    have h3 : xs[Int.toNat (j : Int)]? = some xs[j] := by simp [hlt]
    rw [List.drop_eq_getElem_cons hlt, List.all_cons, ih (j + 1) (by omega)]
    simp only [h1, h2, h3, and_self, decide_true, Bool.and_true]
    cases hp : above xs[j] <;> simp [hp]

theorem lk86 : LOK T2 a86 l86 Try.f86.ntmps (loopAt Try.f86 0) := by
  intro ins outs hA s k out h
  have hA' : ([0, 3], []) = (ins, outs) := Option.some.inj ((show a86.lp (firstRegion (loopAt Try.f86 0)) = some ([0, 3], []) by kernel_rfl).symm.trans hA)
  cases hA'
  have hk : firstRegion (loopAt Try.f86 0) = 2 := by kernel_rfl
  rw [hk] at h
  change lp86 s k = some out at h
  unfold lp86 at h
  split at h
  · rename_i xs i
    cases hg : (decide (i = 0) && Nat.ble xs.length big) with
    | false => rw [hg] at h; cases h
    | true =>
      rw [hg] at h
      simp only [Bool.and_eq_true, decide_eq_true_eq] at hg
      obtain ⟨rfl, hx⟩ := hg
      refine ⟨xs.length + 1, ?_⟩
      exact (ind86 xs  hx k xs.length 0 (by omega)).trans h
  · cases h
theorem e86 (xs : List Nat) : runFn T2 a86 l86 Try.f86 [.vw none ⟨.f32, xs⟩] = (match ((decide (0 = 0) && Nat.ble xs.length big) : Bool) with
  | true => (match (xs.all above : Bool) with
    | true => some ⟨[.el (.sc (.bo true))], none⟩
    | false => some ⟨[.el (.sc (.bo false))], none⟩)
  | false => none) := by kernel_rfl
theorem s86 (xs : List Nat) : runFn T2 a86 l86 Try.f86 [.vw none ⟨.f32, xs⟩] = (match (Nat.ble xs.length big : Bool) with
  | true => some ⟨[.el (.sc (.bo (xs.all above)))], none⟩
  | false => none) := by
  rw [e86]
  cases h : Nat.ble xs.length big with
  | false => simp
  | true => cases h2 : xs.all above <;> simp
theorem c86 (xs : List Nat) (k : List RV → R) (out : Out) (h : (match (Nat.ble xs.length big : Bool) with
  | true => k [.el (.sc (.bo (xs.all above)))]
  | false => none) = some out) : ∃ rs, Real Try.prog 86 ∧ COK Try.prog 86 [.vw none ⟨.f32, xs⟩] rs ∧ k rs = some out := by
  cases g0 : (Nat.ble xs.length big : Bool) with
  | true =>
    rw [g0] at h
    exact ⟨_, real Try.func86 (by kernel_rfl), fn_ok tok2 (A := a86) (L := l86) (r := none) Try.func86 (by kernel_rfl) (by kernel_rfl) (loops1 (by kernel_rfl) lk86) (by rw [s86, g0]), h⟩
  | false =>
    rw [g0] at h
    cases h

/-! impl.LogNumber -/
theorem e89 (z : Nat) : runFn T2 none0 noL Try.f89 [.el (.sc (.fl .f32 z))] = (match (fcmp .eql .f32 z 0 : Bool) with
  | true => (match fconv .f64 .f32 (infOf ((-1))) with
    | some r1 => some ⟨[.el (.sc (.fl .f32 r1))], none⟩
    | none => none)
  | false => (match (fcmp .neq .f32 z z : Bool) with
    | true => (match fconv .f64 .f32 (nanOf .f64) with
      | some r2 => some ⟨[.el (.sc (.fl .f32 r2))], none⟩
      | none => none)
    | false => (match (fcmp .lss .f32 z 0 : Bool) with
      | true => (match fconv .f64 .f32 (nanOf .f64) with
        | some r3 => some ⟨[.el (.sc (.fl .f32 r3))], none⟩
        | none => none)
      | false => (match (!(fin z) : Bool) with
        | true => some ⟨[.el (.sc (.fl .f32 z))], none⟩
        | false => (match (lgIn (wid z) : Bool) with
          | true => (match fconv .f64 .f32 (logV (wid z)) with
            | some r4 => some ⟨[.el (.sc (.fl .f32 r4))], none⟩
            | none => none)
          | false => none))))) := by kernel_rfl
theorem s89 (z : Nat) (hg : (logOk z) = true) : runFn T2 none0 noL Try.f89 [.el (.sc (.fl .f32 z))] = some ⟨[.el (.sc (.fl .f32 (logF z)))], none⟩ := by
  rw [e89]
  rcases logOk_cases hg with ⟨n, v⟩ | ⟨n, v⟩ | e
  · obtain ⟨a1, a2, a3, a4⟩ := log_zero n v
    have hc : fconv .f64 .f32 (infOf (-1)) = some 4286578688 := by decide +kernel
    unfold logF
    simp only [a1, hc, cond_true]
  · obtain ⟨a1, a2, a3, a4, a5, a6, a7, a8, a9, a10⟩ := log_pos n v
    unfold logF
    simp only [a1, a2, a3, a4, a5, a10, Bool.or_self, Bool.not_true, cond_true, cond_false]
  · subst e
    kernel_rfl
theorem c89 (z : Nat) (k : List RV → R) (out : Out) (h : (match (logOk z : Bool) with
  | true => k [.el (.sc (.fl .f32 (logF z)))]
  | false => none) = some out) : ∃ rs, Real Try.prog 89 ∧ COK Try.prog 89 [.el (.sc (.fl .f32 z))] rs ∧ k rs = some out := by
  cases g0 : (logOk z : Bool) with
  | true =>
    rw [g0] at h
    exact ⟨_, real Try.func89 (by kernel_rfl), fn_ok tok2 (A := none0) (L := noL) (r := none) Try.func89 (by kernel_rfl) (by kernel_rfl) (loops0 (by kernel_rfl)) (by rw [s89 _ g0]), h⟩
  | false =>
    rw [g0] at h
    cases h

/-! slices.IndexFunc[[]float32,float32] -/
def a136 : Ann := ann [(2, [0, 1, 7, 8], [])] [4] 0
def lp136 : St → (Ex → St → R) → R := fun s k => match s with
  | ⟨[(0, .fv (.vw (some 0) ⟨.f32, xs⟩)), (1, .fv (.fn 114 [])), (7, .fv (.el (.sc (.int .i64 n)))), (8, .fv (.el (.sc (.int .i64 i))))], []⟩ => (match (decide (n = (xs.length : Int)) && (decide (i = 0) && Nat.ble xs.length big) : Bool) with
    | true => (match xs.findIdx? notFin with
      | some q => k .ret ⟨[(4, .fv (.el (.sc (.int .i64 ((q : Int))))))], []⟩
      | none => k (.exit 0) ⟨[], []⟩)
    | false => none)
  | _ => none
def l136 : Loops := fun key s k => bif Nat.beq key 2 then lp136 s k else none
theorem st136 (xs : List Nat) (n : Int) (i : Int) (m : Nat) (k : Ex → St → R) : iterK a136 [0, 1, 7, 8] [] (codeK T2 a136 l136 Try.f136.ntmps (loopAt Try.f136 0)) (m + 1) ⟨[(0, .fv (.vw (some 0) ⟨.f32, xs⟩)), (1, .fv (.fn 114 [])), (7, .fv (.el (.sc (.int .i64 n)))), (8, .fv (.el (.sc (.int .i64 i))))], []⟩ k = (match (decide ((i : Int) < n) : Bool) with
  | true => (match (decide (0 ≤ (i : Int) ∧ (i : Int) < (xs.length : Int)) && true : Bool) with
    | true => (match (xs : List Nat)[Int.toNat i]? with
      | some x1 => (match (notFin x1 : Bool) with
        | true => k .ret ⟨[(4, .fv (.el (.sc (.int .i64 i))))], []⟩
        | false => iterK a136 [0, 1, 7, 8] [] (codeK T2 a136 l136 Try.f136.ntmps (loopAt Try.f136 0)) m ⟨[(0, .fv (.vw (some 0) ⟨.f32, xs⟩)), (1, .fv (.fn 114 [])), (7, .fv (.el (.sc (.int .i64 n)))), (8, .fv (.el (.sc (.int .i64 (IntKind.i64.wrap (i + 1))))))], []⟩ k)
      | none => none)
    | false => none)
  | false => k (.exit 0) ⟨[], []⟩) := by kernel_rfl
theorem ind136 (xs : List Nat) (hx : Nat.ble xs.length big = true) (k : Ex → St → R) : ∀ (m j : Nat), j + m = xs.length → iterK a136 [0, 1, 7, 8] [] (codeK T2 a136 l136 Try.f136.ntmps (loopAt Try.f136 0)) (m + 1) ⟨[(0, .fv (.vw (some 0) ⟨.f32, xs⟩)), (1, .fv (.fn 114 [])), (7, .fv (.el (.sc (.int .i64 (xs.length : Int))))), (8, .fv (.el (.sc (.int .i64 (j : Int)))))], []⟩ k =
    (match (xs.drop j).findIdx? notFin with
    | some q => k .ret ⟨[(4, .fv (.el (.sc (.int .i64 ((j + q : Nat) : Int)))))], []⟩
    | none => k (.exit 0) ⟨[], []⟩) := by
  intro m
  induction m with
  | zero =>
    intro j hj
    have h1 : ¬ ((j : Int) < (xs.length : Int)) := by omega
    rw [st136]
    have h2 : xs.drop j = [] := List.drop_of_length_le (by omega)
    simp [h1, h2]
  | succ m ih =>
    intro j hj
    have hlt : j < xs.length := by omega
    have h1 : ((j : Int) < (xs.length : Int)) := by omega
    have h2 : (0 : Int) ≤ (j : Int) := by omega
    rw [st136, wrap_succ hlt hx]
    have h3 : xs[Int.toNat (j : Int)]? = some xs[j] := by simp [hlt]
    rw [List.drop_eq_getElem_cons hlt, List.findIdx?_cons]
    simp only [h1, h2, h3, and_self, decide_true, Bool.and_true]
    cases hp : notFin xs[j] with
    | true => simp
    | false =>
      rw [ih (j + 1) (by omega)]
      cases (xs.drop (j + 1)).findIdx? notFin with
      | none => rfl
      | some q => simp only [Bool.false_eq_true, if_false, Option.map_some]; rw [show j + 1 + q = j + (q + 1) by omega]
theorem lk136 : LOK T2 a136 l136 Try.f136.ntmps (loopAt Try.f136 0) := by
  intro ins outs hA s k out h
  have hA' : ([0, 1, 7, 8], []) = (ins, outs) := Option.some.inj ((show a136.lp (firstRegion (loopAt Try.f136 0)) = some ([0, 1, 7, 8], []) by kernel_rfl).symm.trans hA)
  cases hA'
  have hk : firstRegion (loopAt Try.f136 0) = 2 := by kernel_rfl
  rw [hk] at h
  change lp136 s k = some out at h
  unfold lp136 at h
  split at h
  · rename_i xs n i
    cases hg : (decide (n = (xs.length : Int)) && (decide (i = 0) && Nat.ble xs.length big)) with
    | false => rw [hg] at h; cases h
    | true =>
      rw [hg] at h
      simp only [Bool.and_eq_true, decide_eq_true_eq] at hg
      obtain ⟨rfl, rfl, hx⟩ := hg
      refine ⟨xs.length + 1, ?_⟩
      have := ind136 xs hx k xs.length 0 (by omega)
      simp only [List.drop_zero, Nat.zero_add] at this
      exact this.trans h
  · cases h
theorem e136 (xs : List Nat) : runFn T2 a136 l136 Try.f136 [.vw none ⟨.f32, xs⟩, .fn 114 []] = (match (decide ((xs.length : Int) = (xs.length : Int)) && (decide (0 = 0) && Nat.ble xs.length big) : Bool) with
  | true => (match xs.findIdx? notFin with
    | some q => some ⟨[.el (.sc (.int .i64 ((q : Int))))], none⟩
    | none => some ⟨[.el (.sc (.int .i64 ((-1))))], none⟩)
  | false => none) := by kernel_rfl
theorem s136 (xs : List Nat) : runFn T2 a136 l136 Try.f136 [.vw none ⟨.f32, xs⟩, .fn 114 []] = (match (Nat.ble xs.length big : Bool) with
  | true => some ⟨[.el (.sc (.int .i64 (firstAt notFin xs)))], none⟩
  | false => none) := by
  rw [e136]
  unfold firstAt
  cases h : Nat.ble xs.length big with
  | false => simp [h]
  | true =>
    cases h2 : xs.findIdx? notFin with
    | some q => simp [h, h2]
    | none => simp [h, h2]
theorem c136 (xs : List Nat) (k : List RV → R) (out : Out) (h : (match (Nat.ble xs.length big : Bool) with
  | true => k [.el (.sc (.int .i64 (firstAt notFin xs)))]
  | false => none) = some out) : ∃ rs, Real Try.prog 136 ∧ COK Try.prog 136 [.vw none ⟨.f32, xs⟩, .fn 114 []] rs ∧ k rs = some out := by
  cases g0 : (Nat.ble xs.length big : Bool) with
  | true =>
    rw [g0] at h
    exact ⟨_, real Try.func136 (by kernel_rfl), fn_ok tok2 (A := a136) (L := l136) (r := none) Try.func136 (by kernel_rfl) (by kernel_rfl) (loops1 (by kernel_rfl) lk136) (by rw [s136, g0]), h⟩
  | false =>
    rw [g0] at h
    cases h

/-! slices.IndexFunc[[]float32,float32] -/
def a136b : Ann := ann [(2, [0, 1, 7, 8], [])] [4] 0
def lp136b : St → (Ex → St → R) → R := fun s k => match s with
  | ⟨[(0, .fv (.vw (some 0) ⟨.f32, xs⟩)), (1, .fv (.fn 121 [])), (7, .fv (.el (.sc (.int .i64 n)))), (8, .fv (.el (.sc (.int .i64 i))))], []⟩ => (match (decide (n = (xs.length : Int)) && (decide (i = 0) && Nat.ble xs.length big) : Bool) with
    | true => (match xs.findIdx? notPos with
      | some q => k .ret ⟨[(4, .fv (.el (.sc (.int .i64 ((q : Int))))))], []⟩
      | none => k (.exit 0) ⟨[], []⟩)
    | false => none)
  | _ => none
def l136b : Loops := fun key s k => bif Nat.beq key 2 then lp136b s k else none
theorem st136b (xs : List Nat) (n : Int) (i : Int) (m : Nat) (k : Ex → St → R) : iterK a136b [0, 1, 7, 8] [] (codeK T2 a136b l136b Try.f136.ntmps (loopAt Try.f136 0)) (m + 1) ⟨[(0, .fv (.vw (some 0) ⟨.f32, xs⟩)), (1, .fv (.fn 121 [])), (7, .fv (.el (.sc (.int .i64 n)))), (8, .fv (.el (.sc (.int .i64 i))))], []⟩ k = (match (decide ((i : Int) < n) : Bool) with
  | true => (match (decide (0 ≤ (i : Int) ∧ (i : Int) < (xs.length : Int)) && true : Bool) with
    | true => (match (xs : List Nat)[Int.toNat i]? with
      | some x1 => (match (notPos x1 : Bool) with
        | true => k .ret ⟨[(4, .fv (.el (.sc (.int .i64 i))))], []⟩
        | false => iterK a136b [0, 1, 7, 8] [] (codeK T2 a136b l136b Try.f136.ntmps (loopAt Try.f136 0)) m ⟨[(0, .fv (.vw (some 0) ⟨.f32, xs⟩)), (1, .fv (.fn 121 [])), (7, .fv (.el (.sc (.int .i64 n)))), (8, .fv (.el (.sc (.int .i64 (IntKind.i64.wrap (i + 1))))))], []⟩ k)
      | none => none)
    | false => none)
  | false => k (.exit 0) ⟨[], []⟩) := by kernel_rfl
theorem ind136b (xs : List Nat) (hx : Nat.ble xs.length big = true) (k : Ex → St → R) : ∀ (m j : Nat), j + m = xs.length → iterK a136b [0, 1, 7, 8] [] (codeK T2 a136b l136b Try.f136.ntmps (loopAt Try.f136 0)) (m + 1) ⟨[(0, .fv (.vw (some 0) ⟨.f32, xs⟩)), (1, .fv (.fn 121 [])), (7, .fv (.el (.sc (.int .i64 (xs.length : Int))))), (8, .fv (.el (.sc (.int .i64 (j : Int)))))], []⟩ k =
    (match (xs.drop j).findIdx? notPos with
    | some q => k .ret ⟨[(4, .fv (.el (.sc (.int .i64 ((j + q : Nat) : Int)))))], []⟩
    | none => k (.exit 0) ⟨[], []⟩) := by
  intro m
  induction m with
  | zero =>
    intro j hj
    have h1 : ¬ ((j : Int) < (xs.length : Int)) := by omega
    rw [st136b]
    have h2 : xs.drop j = [] := List.drop_of_length_le (by omega)
    simp [h1, h2]
  | succ m ih =>
    intro j hj
    have hlt : j < xs.length := by omega
    have h1 : ((j : Int) < (xs.length : Int)) := by omega
    have h2 : (0 : Int) ≤ (j : Int) := by omega
    rw [st136b, wrap_succ hlt hx]
    have h3 : xs[Int.toNat (j : Int)]? = some xs[j] := by simp [hlt]
    rw [List.drop_eq_getElem_cons hlt, List.findIdx?_cons]
    simp only [h1, h2, h3, and_self, decide_true, Bool.and_true]
    cases hp : notPos xs[j] with
    | true => simp
    | false =>
      rw [ih (j + 1) (by omega)]
      cases (xs.drop (j + 1)).findIdx? notPos with
      | none => rfl
      | some q => simp only [Bool.false_eq_true, if_false, Option.map_some]; rw [show j + 1 + q = j + (q + 1) by omega]
theorem lk136b : LOK T2 a136b l136b Try.f136.ntmps (loopAt Try.f136 0) := by
  intro ins outs hA s k out h
  have hA' : ([0, 1, 7, 8], []) = (ins, outs) := Option.some.inj ((show a136b.lp (firstRegion (loopAt Try.f136 0)) = some ([0, 1, 7, 8], []) by kernel_rfl).symm.trans hA)
  cases hA'
  have hk : firstRegion (loopAt Try.f136 0) = 2 := by kernel_rfl
  rw [hk] at h
  change lp136b s k = some out at h
  unfold lp136b at h
  split at h
  · rename_i xs n i
    cases hg : (decide (n = (xs.length : Int)) && (decide (i = 0) && Nat.ble xs.length big)) with
    | false => rw [hg] at h; cases h
    | true =>
      rw [hg] at h
      simp only [Bool.and_eq_true, decide_eq_true_eq] at hg
      obtain ⟨rfl, rfl, hx⟩ := hg
      refine ⟨xs.length + 1, ?_⟩
      have := ind136b xs hx k xs.length 0 (by omega)
      simp only [List.drop_zero, Nat.zero_add] at this
      exact this.trans h
  · cases h
theorem e136b (xs : List Nat) : runFn T2 a136b l136b Try.f136 [.vw none ⟨.f32, xs⟩, .fn 121 []] = (match (decide ((xs.length : Int) = (xs.length : Int)) && (decide (0 = 0) && Nat.ble xs.length big) : Bool) with
  | true => (match xs.findIdx? notPos with
    | some q => some ⟨[.el (.sc (.int .i64 ((q : Int))))], none⟩
    | none => some ⟨[.el (.sc (.int .i64 ((-1))))], none⟩)
  | false => none) := by kernel_rfl
theorem s136b (xs : List Nat) : runFn T2 a136b l136b Try.f136 [.vw none ⟨.f32, xs⟩, .fn 121 []] = (match (Nat.ble xs.length big : Bool) with
  | true => some ⟨[.el (.sc (.int .i64 (firstAt notPos xs)))], none⟩
  | false => none) := by
  rw [e136b]
  unfold firstAt
  cases h : Nat.ble xs.length big with
  | false => simp [h]
  | true =>
    cases h2 : xs.findIdx? notPos with
    | some q => simp [h, h2]
    | none => simp [h, h2]
theorem c136b (xs : List Nat) (k : List RV → R) (out : Out) (h : (match (Nat.ble xs.length big : Bool) with
  | true => k [.el (.sc (.int .i64 (firstAt notPos xs)))]
  | false => none) = some out) : ∃ rs, Real Try.prog 136 ∧ COK Try.prog 136 [.vw none ⟨.f32, xs⟩, .fn 121 []] rs ∧ k rs = some out := by
  cases g0 : (Nat.ble xs.length big : Bool) with
  | true =>
    rw [g0] at h
    exact ⟨_, real Try.func136 (by kernel_rfl), fn_ok tok2 (A := a136b) (L := l136b) (r := none) Try.func136 (by kernel_rfl) (by kernel_rfl) (loops1 (by kernel_rfl) lk136b) (by rw [s136b, g0]), h⟩
  | false =>
    rw [g0] at h
    cases h

/-! math.IsInf -/
theorem e140 (c : Nat) (n : Int) : runFn T2 none0 noL Try.f140 [.el (.sc (.fl .f64 c)), .el (.sc (.int .i64 n))] = (match ((n : Int) == 0 : Bool) with
  | true => (match (!isN .f64 c : Bool) with
    | true => some ⟨[.el (.sc (.bo (fcmp .gtr .f64 (fabs c) 9218868437227405311)))], none⟩
    | false => none)
  | false => (match (decide ((n : Int) < 0) : Bool) with
    | true => some ⟨[.el (.sc (.bo (fcmp .gtr .f64 (fneg .f64 c) 9218868437227405311)))], none⟩
    | false => some ⟨[.el (.sc (.bo (fcmp .gtr .f64 c 9218868437227405311)))], none⟩)) := by kernel_rfl
theorem s140 (c : Nat) (n : Int) (hg : (n == (1 : Int)) = true) : runFn T2 none0 noL Try.f140 [.el (.sc (.fl .f64 c)), .el (.sc (.int .i64 n))] = some ⟨[.el (.sc (.bo (fcmp .gtr .f64 c 9218868437227405311)))], none⟩ := by
  rw [e140]
  have e := eq_of_beq hg
  subst e
  rfl
theorem c140 (c : Nat) (n : Int) (k : List RV → R) (out : Out) (h : (match (n == (1 : Int) : Bool) with
  | true => k [.el (.sc (.bo (fcmp .gtr .f64 c 9218868437227405311)))]
  | false => none) = some out) : ∃ rs, Real Try.prog 140 ∧ COK Try.prog 140 [.el (.sc (.fl .f64 c)), .el (.sc (.int .i64 n))] rs ∧ k rs = some out := by
  cases g0 : (n == (1 : Int) : Bool) with
  | true =>
    rw [g0] at h
    exact ⟨_, real Try.func140 (by kernel_rfl), fn_ok tok2 (A := none0) (L := noL) (r := none) Try.func140 (by kernel_rfl) (by kernel_rfl) (loops0 (by kernel_rfl)) (by rw [s140 _ _ g0]), h⟩
  | false =>
    rw [g0] at h
    cases h

def S3 : SFn := fun f args k => match f, args with
  | 57, [.vw none ⟨.f32, xs⟩, .el (.sc (.int .i64 n))] => k [.el (.sc (.bo (bins xs n)))]
  | 61, [.vw none ⟨.f32, xs⟩] => (match (Nat.ble xs.length big : Bool) with
    | true => (match (xs.all fin : Bool) with
      | true => k [.arg 0, .el (.sc (.bo true))]
      | false => k [.nil, .el (.sc (.bo false))])
    | false => none)
  | 86, [.vw none ⟨.f32, xs⟩] => (match (Nat.ble xs.length big : Bool) with
    | true => k [.el (.sc (.bo (xs.all above)))]
    | false => none)
  | 89, [.el (.sc (.fl .f32 z))] => (match (logOk z : Bool) with
    | true => k [.el (.sc (.fl .f32 (logF z)))]
    | false => none)
  | 136, [.vw none ⟨.f32, xs⟩, .fn 114 []] => (match (Nat.ble xs.length big : Bool) with
    | true => k [.el (.sc (.int .i64 (firstAt notFin xs)))]
    | false => none)
  | 136, [.vw none ⟨.f32, xs⟩, .fn 121 []] => (match (Nat.ble xs.length big : Bool) with
    | true => k [.el (.sc (.int .i64 (firstAt notPos xs)))]
    | false => none)
  | 140, [.el (.sc (.fl .f64 c)), .el (.sc (.int .i64 n))] => (match (n == (1 : Int) : Bool) with
    | true => k [.el (.sc (.bo (fcmp .gtr .f64 c 9218868437227405311)))]
    | false => none)
  | _, _ => S2 f args k
abbrev M3 : MFn := M2
def T3 : TT := tab.T S3 muts M3
theorem tok3 : TOK Try.prog T3 := by
  refine (tab_ok tabok).tok (fun f args k out h => ?_) (fun f vec args k out h => ?_)
  · change S3 f args k = some out at h
    unfold S3 at h
    split at h
    · exact (fun k out h => cok_call (c57 _ _ k out h)) k out h
    · exact (fun k out h => cok_call (c61 _ k out h)) k out h
    · exact (fun k out h => cok_call (c86 _ k out h)) k out h
    · exact (fun k out h => cok_call (c89 _ k out h)) k out h
    · exact (fun k out h => cok_call (c136 _ k out h)) k out h
    · exact (fun k out h => cok_call (c136b _ k out h)) k out h
    · exact (fun k out h => cok_call (c140 _ _ k out h)) k out h
    · exact tok2.S f args k out h
  · exact tok2.M f vec args k out h

end Go.Sm.Ytlkphfpkohabeaa
