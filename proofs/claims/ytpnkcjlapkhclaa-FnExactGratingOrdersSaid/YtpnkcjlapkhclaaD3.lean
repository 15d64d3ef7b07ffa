/- What the functions hand back: level 2. -/
import Derived.Test.YtpnkcjlapkhclaaD2
namespace Go.Sm.Ytpnkcjlapkhclaa
open Go Go.Sm Go.RowKit Go.Proofs

/-! spec.FreeRange -/
theorem e17 (w : Nat) (n : Int) : runFn T2 none0 noL Try.f17 [.el (.sc (.fl .f32 w)), .el (.sc (.int .i64 n))] = (match (!(above w) : Bool) with
  | true => some ⟨[.el (.sc (.fl .f32 0)), .el (.sc (.bo false))], none⟩
  | false => (match (!(within n 1 100) : Bool) with
    | true => some ⟨[.el (.sc (.fl .f32 0)), .el (.sc (.bo false))], none⟩
    | false => some ⟨[.el (.sc (.fl .f32 (fop .quo .f32 w (fint .f32 n)))), .el (.sc (.bo true))], none⟩)) := by kernel_rfl
theorem s17 (w : Nat) (n : Int) : runFn T2 none0 noL Try.f17 [.el (.sc (.fl .f32 w)), .el (.sc (.int .i64 n))] = some ⟨[.el (.sc (.fl .f32 (orZero (above w && within n 1 100) (fop .quo .f32 w (fint .f32 n))))), .el (.sc (.bo (above w && within n 1 100)))], none⟩ := by
  rw [e17]
  unfold orZero
  cases above w <;> cases within n 1 100 <;> simp
theorem c17 (w : Nat) (n : Int) (k : List RV → R) (out : Out) (h : k [.el (.sc (.fl .f32 (orZero (above w && within n 1 100) (fop .quo .f32 w (fint .f32 n))))), .el (.sc (.bo (above w && within n 1 100)))] = some out) : ∃ rs, Real Try.prog 17 ∧ COK Try.prog 17 [.el (.sc (.fl .f32 w)), .el (.sc (.int .i64 n))] rs ∧ k rs = some out := by
  exact ⟨_, real Try.func17 (by kernel_rfl), fn_ok tok2 (A := none0) (L := noL) (r := none) Try.func17 (by kernel_rfl) (by kernel_rfl) (loops0 (by kernel_rfl)) (by rw [s17]), h⟩

/-! spec.GratingOrders -/
def a39 : Ann := ann [(5, [0, 1, 2, 8, 9], [8])] [6, 7] 0
def l39 : Loops := fun key s k => match key, s with
  | 5, ⟨[(0, .fv (.el (.sc (.fl .f32 a)))), (1, .fv (.el (.sc (.fl .f32 b)))), (2, .fv (.el (.sc (.fl .f32 c)))), (8, .fv (.own 0)), (9, .fv (.el (.sc (.int .i64 i))))], [some ⟨2, ⟨.i64, zs⟩⟩]⟩ => (match (decide (i = (-100)) && Nat.ble ((zs : List Int).length + 201) big : Bool) with
    | true => k (.exit 0) ⟨[(8, .fv (.own 0))], [some ⟨2, ⟨.i64, (zs : List Int) ++ ordersOf (fun n => unit (gout a b c n))⟩⟩]⟩
    | false => none)
  | _, _ => none
theorem st39 (a : Nat) (b : Nat) (c : Nat) (i : Int) (zs : List Int) (m : Nat) (k : Ex → St → R) : iterK a39 [0, 1, 2, 8, 9] [8] (codeK T2 a39 l39 Try.f39.ntmps (loopAt Try.f39 0)) (m + 1) ⟨[(0, .fv (.el (.sc (.fl .f32 a)))), (1, .fv (.el (.sc (.fl .f32 b)))), (2, .fv (.el (.sc (.fl .f32 c)))), (8, .fv (.own 0)), (9, .fv (.el (.sc (.int .i64 i))))], [some ⟨2, ⟨.i64, zs⟩⟩]⟩ k = (match (decide ((i : Int) ≤ 100) : Bool) with
  | true => (match (unit (gout a b c i) : Bool) with
    | true => (match (Nat.beq 2 2 && decide ((zs : List Int).length + ([i] : List Int).length ≤ 1099511627776) : Bool) with
      | true => iterK a39 [0, 1, 2, 8, 9] [8] (codeK T2 a39 l39 Try.f39.ntmps (loopAt Try.f39 0)) m ⟨[(0, .fv (.el (.sc (.fl .f32 a)))), (1, .fv (.el (.sc (.fl .f32 b)))), (2, .fv (.el (.sc (.fl .f32 c)))), (8, .fv (.own 0)), (9, .fv (.el (.sc (.int .i64 (IntKind.i64.wrap (i + 1))))))], [some ⟨2, ⟨.i64, (zs : List Int) ++ ([i])⟩⟩]⟩ k
      | false => none)
    | false => iterK a39 [0, 1, 2, 8, 9] [8] (codeK T2 a39 l39 Try.f39.ntmps (loopAt Try.f39 0)) m ⟨[(0, .fv (.el (.sc (.fl .f32 a)))), (1, .fv (.el (.sc (.fl .f32 b)))), (2, .fv (.el (.sc (.fl .f32 c)))), (8, .fv (.own 0)), (9, .fv (.el (.sc (.int .i64 (IntKind.i64.wrap (i + 1))))))], [some ⟨2, ⟨.i64, zs⟩⟩]⟩ k)
  | false => k (.exit 0) ⟨[(8, .fv (.own 0))], [some ⟨2, ⟨.i64, zs⟩⟩]⟩) := by kernel_rfl
theorem ind39 (a b c : Nat) (k : Ex → St → R) : ∀ (m : Nat) (i : Int) (zs : List Int), zs.length + m ≤ 1099511627776 → -100 ≤ i → i + (m : Int) = 101 → iterK a39 [0, 1, 2, 8, 9] [8] (codeK T2 a39 l39 Try.f39.ntmps (loopAt Try.f39 0)) (m + 1) ⟨[(0, .fv (.el (.sc (.fl .f32 a)))), (1, .fv (.el (.sc (.fl .f32 b)))), (2, .fv (.el (.sc (.fl .f32 c)))), (8, .fv (.own 0)), (9, .fv (.el (.sc (.int .i64 i))))], [some ⟨2, ⟨.i64, zs⟩⟩]⟩ k =
    k (.exit 0) ⟨[(8, .fv (.own 0))], [some ⟨2, ⟨.i64, zs ++ (ints i m).filter (fun n => unit (gout a b c n))⟩⟩]⟩ := by
  intro m
  induction m with
  | zero =>
    intro i zs hz h0 hi
    have h1 : ¬ (i ≤ 100) := by omega
    rw [st39]
    simp [h1, ints]
  | succ m ih =>
    intro i zs hz h0 hi
    have h1 : i ≤ 100 := by omega
    have hw : IntKind.i64.wrap (i + 1) = i + 1 := wrap64 (by omega) (by omega)
    rw [st39, hw]
    have hg : zs.length + ([i] : List Int).length ≤ 1099511627776 := by simp; omega
    have hbq : Nat.beq 2 2 = true := rfl
    simp only [h1, hg, hbq, decide_true, Bool.and_true, ints, List.filter_cons]
    rw [ih (i + 1) (zs ++ [i]) (by simp; omega) (by omega) (by omega), ih (i + 1) zs (by omega) (by omega) (by omega)]
    cases hp : ((fun n => unit (gout a b c n)) i) <;> simp [hp]

theorem lk39 : LOK T2 a39 l39 Try.f39.ntmps (loopAt Try.f39 0) := by
  intro ins outs hA s k out h
  have hA' : ([0, 1, 2, 8, 9], [8]) = (ins, outs) := Option.some.inj ((show a39.lp (firstRegion (loopAt Try.f39 0)) = some ([0, 1, 2, 8, 9], [8]) by kernel_rfl).symm.trans hA)
  cases hA'
  have hk : firstRegion (loopAt Try.f39 0) = 5 := by kernel_rfl
  rw [hk] at h
  unfold l39 at h
  split at h
  · rename_i a b c i zs _
    cases hg : (decide (i = (-100)) && Nat.ble (zs.length + 201) big) with
    | false => rw [hg] at h; cases h
    | true =>
      rw [hg] at h
      simp only [Bool.and_eq_true, decide_eq_true_eq] at hg
      obtain ⟨rfl, hx⟩ := hg
      refine ⟨202, ?_⟩
      have hxl := Nat.le_of_ble_eq_true hx
      unfold big at hxl
      exact (ind39 a b c k 201 (-100) zs (by omega) (by omega) (by omega)).trans h
  · cases h
theorem e39 (a : Nat) (b : Nat) (c : Nat) : runFn T2 a39 l39 Try.f39 [.el (.sc (.fl .f32 a)), .el (.sc (.fl .f32 b)), .el (.sc (.fl .f32 c))] = (match (!(above a) : Bool) with
  | true => some ⟨[.nil, .el (.sc (.bo false))], none⟩
  | false => (match (!(above b) : Bool) with
    | true => some ⟨[.nil, .el (.sc (.bo false))], none⟩
    | false => (match (!(fin c) : Bool) with
      | true => some ⟨[.nil, .el (.sc (.bo false))], none⟩
      | false => (match (decide ((-100) = (-100)) && Nat.ble (([] : List Int).length + 201) big : Bool) with
        | true => some ⟨[.fresh 2 ⟨.i64, ([] : List Int) ++ ordersOf (fun n => unit (gout a b c n))⟩, .el (.sc (.bo true))], none⟩
        | false => none)))) := by kernel_rfl
theorem s39 (a : Nat) (b : Nat) (c : Nat) : runFn T2 a39 l39 Try.f39 [.el (.sc (.fl .f32 a)), .el (.sc (.fl .f32 b)), .el (.sc (.fl .f32 c))] = (match ((above a && above b) && fin c : Bool) with
  | true => some ⟨[.fresh 2 ⟨.i64, ordersOf (fun n => unit (gout a b c n))⟩, .el (.sc (.bo true))], none⟩
  | false => some ⟨[.nil, .el (.sc (.bo false))], none⟩) := by
  rw [e39]
  have hb : Nat.ble (0 + 201) big = true := by decide
  cases above a <;> cases above b <;> cases fin c <;> simp [hb]
theorem c39 (a : Nat) (b : Nat) (c : Nat) (k : List RV → R) (out : Out) (h : k [.fresh 2 ⟨.i64, orNil ((above a && above b) && fin c) (ordersOf (fun n => unit (gout a b c n)))⟩, .el (.sc (.bo ((above a && above b) && fin c)))] = some out) : ∃ rs, Real Try.prog 39 ∧ COK Try.prog 39 [.el (.sc (.fl .f32 a)), .el (.sc (.fl .f32 b)), .el (.sc (.fl .f32 c))] rs ∧ k rs = some out := by
  cases g0 : ((above a && above b) && fin c : Bool) with
  | true =>
    rw [g0] at h
    exact ⟨_, real Try.func39 (by kernel_rfl), fn_ok tok2 (A := a39) (L := l39) (r := none) Try.func39 (by kernel_rfl) (by kernel_rfl) (loops1 (by kernel_rfl) lk39) (by rw [s39, g0]; rfl), h⟩
  | false =>
    rw [g0] at h
    exact ⟨_, real Try.func39 (by kernel_rfl), COK.nil (fn_ok tok2 (A := a39) (L := l39) (r := none) Try.func39 (by kernel_rfl) (by kernel_rfl) (loops1 (by kernel_rfl) lk39) (by rw [s39, g0])), h⟩

/-! spec.l06Curve -/
theorem e69 (xs : List Nat) : runFn T2 none0 noL Try.f69 [.vw none ⟨.f32, xs⟩] = (match (decide (((xs.length : Int) : Int) ≥ 1) : Bool) with
  | true => (match (decide (((xs.length : Int) : Int) ≤ 3) : Bool) with
    | true => (match (Nat.ble xs.length big : Bool) with
      | true => some ⟨[.el (.sc (.bo (xs.all fin)))], none⟩
      | false => none)
    | false => some ⟨[.el (.sc (.bo false))], none⟩)
  | false => some ⟨[.el (.sc (.bo false))], none⟩) := by kernel_rfl
theorem s69 (xs : List Nat) : runFn T2 none0 noL Try.f69 [.vw none ⟨.f32, xs⟩] = some ⟨[.el (.sc (.bo (xs.all fin && (decide (xs.length ≥ 1) && decide (xs.length ≤ 3)))))], none⟩ := by
  rw [e69]
  have e3 : ((xs.length : Int) ≥ 1) ↔ xs.length ≥ 1 := by omega
  have e4 : ((xs.length : Int) ≤ 3) ↔ xs.length ≤ 3 := by omega
  by_cases h4 : xs.length ≤ 3
  · have h : Nat.ble xs.length big = true := Nat.ble_eq_true_of_le (by unfold big; omega)
    by_cases h3 : xs.length ≥ 1 <;> simp [e3, e4, h3, h4, h]
  · by_cases h3 : xs.length ≥ 1 <;> simp [e3, e4, h3, h4]
theorem c69 (xs : List Nat) (k : List RV → R) (out : Out) (h : k [.el (.sc (.bo (xs.all fin && (decide (xs.length ≥ 1) && decide (xs.length ≤ 3)))))] = some out) : ∃ rs, Real Try.prog 69 ∧ COK Try.prog 69 [.vw none ⟨.f32, xs⟩] rs ∧ k rs = some out := by
  exact ⟨_, real Try.func69 (by kernel_rfl), fn_ok tok2 (A := none0) (L := noL) (r := none) Try.func69 (by kernel_rfl) (by kernel_rfl) (loops0 (by kernel_rfl)) (by rw [s69]), h⟩

/-! slices.IndexFunc[[]float32,float32] -/
def a77 : Ann := ann [(2, [0, 1, 7, 8], [])] [4] 0
def l77 : Loops := fun key s k => match key, s with
  | 2, ⟨[(0, .fv (.vw (some 0) ⟨.f32, xs⟩)), (1, .fv (.fn 73 [])), (7, .fv (.el (.sc (.int .i64 n)))), (8, .fv (.el (.sc (.int .i64 i))))], []⟩ => (match (decide (n = (xs.length : Int)) && (decide (i = 0) && Nat.ble xs.length big) : Bool) with
    | true => (match xs.findIdx? notFin with
      | some q => k .ret ⟨[(4, .fv (.el (.sc (.int .i64 ((q : Int))))))], []⟩
      | none => k (.exit 0) ⟨[], []⟩)
    | false => none)
  | _, _ => none
theorem st77 (xs : List Nat) (n : Int) (i : Int) (m : Nat) (k : Ex → St → R) : iterK a77 [0, 1, 7, 8] [] (codeK T2 a77 l77 Try.f77.ntmps (loopAt Try.f77 0)) (m + 1) ⟨[(0, .fv (.vw (some 0) ⟨.f32, xs⟩)), (1, .fv (.fn 73 [])), (7, .fv (.el (.sc (.int .i64 n)))), (8, .fv (.el (.sc (.int .i64 i))))], []⟩ k = (match (decide ((i : Int) < n) : Bool) with
  | true => (match (decide (0 ≤ (i : Int) ∧ (i : Int) < (xs.length : Int)) && true : Bool) with
    | true => (match (xs : List Nat)[Int.toNat i]? with
      | some x1 => (match (notFin x1 : Bool) with
        | true => k .ret ⟨[(4, .fv (.el (.sc (.int .i64 i))))], []⟩
        | false => iterK a77 [0, 1, 7, 8] [] (codeK T2 a77 l77 Try.f77.ntmps (loopAt Try.f77 0)) m ⟨[(0, .fv (.vw (some 0) ⟨.f32, xs⟩)), (1, .fv (.fn 73 [])), (7, .fv (.el (.sc (.int .i64 n)))), (8, .fv (.el (.sc (.int .i64 (IntKind.i64.wrap (i + 1))))))], []⟩ k)
      | none => none)
    | false => none)
  | false => k (.exit 0) ⟨[], []⟩) := by kernel_rfl
theorem ind77 (xs : List Nat) (hx : Nat.ble xs.length big = true) (k : Ex → St → R) : ∀ (m j : Nat), j + m = xs.length → iterK a77 [0, 1, 7, 8] [] (codeK T2 a77 l77 Try.f77.ntmps (loopAt Try.f77 0)) (m + 1) ⟨[(0, .fv (.vw (some 0) ⟨.f32, xs⟩)), (1, .fv (.fn 73 [])), (7, .fv (.el (.sc (.int .i64 (xs.length : Int))))), (8, .fv (.el (.sc (.int .i64 (j : Int)))))], []⟩ k =
    (match (xs.drop j).findIdx? notFin with
    | some q => k .ret ⟨[(4, .fv (.el (.sc (.int .i64 ((j + q : Nat) : Int)))))], []⟩
    | none => k (.exit 0) ⟨[], []⟩) := by
  intro m
  induction m with
  | zero =>
    intro j hj
    have h1 : ¬ ((j : Int) < (xs.length : Int)) := by omega
    rw [st77]
    have h2 : xs.drop j = [] := List.drop_of_length_le (by omega)
    simp [h1, h2]
  | succ m ih =>
    intro j hj
    have hlt : j < xs.length := by omega
    have h1 : ((j : Int) < (xs.length : Int)) := by omega
    have h2 : (0 : Int) ≤ (j : Int) := by omega
    rw [st77, wrap_succ hlt hx]
    have h3 : xs[Int.toNat (j : Int)]? = some xs[j] := by simp [hlt]
    rw [List.drop_eq_getElem_cons hlt, List.findIdx?_cons]
    simp only [h1, h2, h3, and_self, decide_true, Bool.and_true]
    cases hp : notFin xs[j] with
    | true => simp
    | false =>
      rw [ih (j + 1) (by omega)]
      cases (xs.drop (j + 1)).findIdx? notFin with
      | none => rfl
      | some q => simp only [Bool.false_eq_true, if_false, Option.map_some]; rw [show j + 1 + q = j + (q + 1) by omega]
theorem lk77 : LOK T2 a77 l77 Try.f77.ntmps (loopAt Try.f77 0) := by
  intro ins outs hA s k out h
  have hA' : ([0, 1, 7, 8], []) = (ins, outs) := Option.some.inj ((show a77.lp (firstRegion (loopAt Try.f77 0)) = some ([0, 1, 7, 8], []) by kernel_rfl).symm.trans hA)
  cases hA'
  have hk : firstRegion (loopAt Try.f77 0) = 2 := by kernel_rfl
  rw [hk] at h
  unfold l77 at h
  split at h
  · rename_i xs n i _
    cases hg : (decide (n = (xs.length : Int)) && (decide (i = 0) && Nat.ble xs.length big)) with
    | false => rw [hg] at h; cases h
    | true =>
      rw [hg] at h
      simp only [Bool.and_eq_true, decide_eq_true_eq] at hg
      obtain ⟨rfl, rfl, hx⟩ := hg
      refine ⟨xs.length + 1, ?_⟩
      have := ind77 xs hx k xs.length 0 (by omega)
      simp only [List.drop_zero, Nat.zero_add] at this
      exact this.trans h
  · cases h
theorem e77 (xs : List Nat) : runFn T2 a77 l77 Try.f77 [.vw none ⟨.f32, xs⟩, .fn 73 []] = (match (decide ((xs.length : Int) = (xs.length : Int)) && (decide (0 = 0) && Nat.ble xs.length big) : Bool) with
  | true => (match xs.findIdx? notFin with
    | some q => some ⟨[.el (.sc (.int .i64 ((q : Int))))], none⟩
    | none => some ⟨[.el (.sc (.int .i64 ((-1))))], none⟩)
  | false => none) := by kernel_rfl
theorem s77 (xs : List Nat) : runFn T2 a77 l77 Try.f77 [.vw none ⟨.f32, xs⟩, .fn 73 []] = (match (Nat.ble xs.length big : Bool) with
  | true => some ⟨[.el (.sc (.int .i64 (firstAt notFin xs)))], none⟩
  | false => none) := by
  rw [e77]
  unfold firstAt
  cases h : Nat.ble xs.length big with
  | false => simp [h]
  | true =>
    cases h2 : xs.findIdx? notFin with
    | some q => simp [h, h2]
    | none => simp [h, h2]
theorem c77 (xs : List Nat) (k : List RV → R) (out : Out) (h : (match (Nat.ble xs.length big : Bool) with
  | true => k [.el (.sc (.int .i64 (firstAt notFin xs)))]
  | false => none) = some out) : ∃ rs, Real Try.prog 77 ∧ COK Try.prog 77 [.vw none ⟨.f32, xs⟩, .fn 73 []] rs ∧ k rs = some out := by
  cases g0 : (Nat.ble xs.length big : Bool) with
  | true =>
    rw [g0] at h
    exact ⟨_, real Try.func77 (by kernel_rfl), fn_ok tok2 (A := a77) (L := l77) (r := none) Try.func77 (by kernel_rfl) (by kernel_rfl) (loops1 (by kernel_rfl) lk77) (by rw [s77, g0]), h⟩
  | false =>
    rw [g0] at h
    cases h

/-! slices.IndexFunc[[]float32,float32] -/
def a77b : Ann := ann [(2, [0, 1, 7, 8], [])] [4] 0
def l77b : Loops := fun key s k => match key, s with
  | 2, ⟨[(0, .fv (.vw (some 0) ⟨.f32, xs⟩)), (1, .fv (.fn 74 [])), (7, .fv (.el (.sc (.int .i64 n)))), (8, .fv (.el (.sc (.int .i64 i))))], []⟩ => (match (decide (n = (xs.length : Int)) && (decide (i = 0) && Nat.ble xs.length big) : Bool) with
    | true => (match xs.findIdx? notPos with
      | some q => k .ret ⟨[(4, .fv (.el (.sc (.int .i64 ((q : Int))))))], []⟩
      | none => k (.exit 0) ⟨[], []⟩)
    | false => none)
  | _, _ => none
theorem st77b (xs : List Nat) (n : Int) (i : Int) (m : Nat) (k : Ex → St → R) : iterK a77b [0, 1, 7, 8] [] (codeK T2 a77b l77b Try.f77.ntmps (loopAt Try.f77 0)) (m + 1) ⟨[(0, .fv (.vw (some 0) ⟨.f32, xs⟩)), (1, .fv (.fn 74 [])), (7, .fv (.el (.sc (.int .i64 n)))), (8, .fv (.el (.sc (.int .i64 i))))], []⟩ k = (match (decide ((i : Int) < n) : Bool) with
  | true => (match (decide (0 ≤ (i : Int) ∧ (i : Int) < (xs.length : Int)) && true : Bool) with
    | true => (match (xs : List Nat)[Int.toNat i]? with
      | some x1 => (match (notPos x1 : Bool) with
        | true => k .ret ⟨[(4, .fv (.el (.sc (.int .i64 i))))], []⟩
        | false => iterK a77b [0, 1, 7, 8] [] (codeK T2 a77b l77b Try.f77.ntmps (loopAt Try.f77 0)) m ⟨[(0, .fv (.vw (some 0) ⟨.f32, xs⟩)), (1, .fv (.fn 74 [])), (7, .fv (.el (.sc (.int .i64 n)))), (8, .fv (.el (.sc (.int .i64 (IntKind.i64.wrap (i + 1))))))], []⟩ k)
      | none => none)
    | false => none)
  | false => k (.exit 0) ⟨[], []⟩) := by kernel_rfl
theorem ind77b (xs : List Nat) (hx : Nat.ble xs.length big = true) (k : Ex → St → R) : ∀ (m j : Nat), j + m = xs.length → iterK a77b [0, 1, 7, 8] [] (codeK T2 a77b l77b Try.f77.ntmps (loopAt Try.f77 0)) (m + 1) ⟨[(0, .fv (.vw (some 0) ⟨.f32, xs⟩)), (1, .fv (.fn 74 [])), (7, .fv (.el (.sc (.int .i64 (xs.length : Int))))), (8, .fv (.el (.sc (.int .i64 (j : Int)))))], []⟩ k =
    (match (xs.drop j).findIdx? notPos with
    | some q => k .ret ⟨[(4, .fv (.el (.sc (.int .i64 ((j + q : Nat) : Int)))))], []⟩
    | none => k (.exit 0) ⟨[], []⟩) := by
  intro m
  induction m with
  | zero =>
    intro j hj
    have h1 : ¬ ((j : Int) < (xs.length : Int)) := by omega
    rw [st77b]
    have h2 : xs.drop j = [] := List.drop_of_length_le (by omega)
    simp [h1, h2]
  | succ m ih =>
    intro j hj
    have hlt : j < xs.length := by omega
    have h1 : ((j : Int) < (xs.length : Int)) := by omega
    have h2 : (0 : Int) ≤ (j : Int) := by omega
    rw [st77b, wrap_succ hlt hx]
    have h3 : xs[Int.toNat (j : Int)]? = some xs[j] := by simp [hlt]
    rw [List.drop_eq_getElem_cons hlt, List.findIdx?_cons]
    simp only [h1, h2, h3, and_self, decide_true, Bool.and_true]
    cases hp : notPos xs[j] with
    | true => simp
    | false =>
      rw [ih (j + 1) (by omega)]
      cases (xs.drop (j + 1)).findIdx? notPos with
      | none => rfl
      | some q => simp only [Bool.false_eq_true, if_false, Option.map_some]; rw [show j + 1 + q = j + (q + 1) by omega]
theorem lk77b : LOK T2 a77b l77b Try.f77.ntmps (loopAt Try.f77 0) := by
  intro ins outs hA s k out h
  have hA' : ([0, 1, 7, 8], []) = (ins, outs) := Option.some.inj ((show a77b.lp (firstRegion (loopAt Try.f77 0)) = some ([0, 1, 7, 8], []) by kernel_rfl).symm.trans hA)
  cases hA'
  have hk : firstRegion (loopAt Try.f77 0) = 2 := by kernel_rfl
  rw [hk] at h
  unfold l77b at h
  split at h
  · rename_i xs n i _
    cases hg : (decide (n = (xs.length : Int)) && (decide (i = 0) && Nat.ble xs.length big)) with
    | false => rw [hg] at h; cases h
    | true =>
      rw [hg] at h
      simp only [Bool.and_eq_true, decide_eq_true_eq] at hg
      obtain ⟨rfl, rfl, hx⟩ := hg
      refine ⟨xs.length + 1, ?_⟩
      have := ind77b xs hx k xs.length 0 (by omega)
      simp only [List.drop_zero, Nat.zero_add] at this
      exact this.trans h
  · cases h
theorem e77b (xs : List Nat) : runFn T2 a77b l77b Try.f77 [.vw none ⟨.f32, xs⟩, .fn 74 []] = (match (decide ((xs.length : Int) = (xs.length : Int)) && (decide (0 = 0) && Nat.ble xs.length big) : Bool) with
  | true => (match xs.findIdx? notPos with
    | some q => some ⟨[.el (.sc (.int .i64 ((q : Int))))], none⟩
    | none => some ⟨[.el (.sc (.int .i64 ((-1))))], none⟩)
  | false => none) := by kernel_rfl
theorem s77b (xs : List Nat) : runFn T2 a77b l77b Try.f77 [.vw none ⟨.f32, xs⟩, .fn 74 []] = (match (Nat.ble xs.length big : Bool) with
  | true => some ⟨[.el (.sc (.int .i64 (firstAt notPos xs)))], none⟩
  | false => none) := by
  rw [e77b]
  unfold firstAt
  cases h : Nat.ble xs.length big with
  | false => simp [h]
  | true =>
    cases h2 : xs.findIdx? notPos with
    | some q => simp [h, h2]
    | none => simp [h, h2]
theorem c77b (xs : List Nat) (k : List RV → R) (out : Out) (h : (match (Nat.ble xs.length big : Bool) with
  | true => k [.el (.sc (.int .i64 (firstAt notPos xs)))]
  | false => none) = some out) : ∃ rs, Real Try.prog 77 ∧ COK Try.prog 77 [.vw none ⟨.f32, xs⟩, .fn 74 []] rs ∧ k rs = some out := by
  cases g0 : (Nat.ble xs.length big : Bool) with
  | true =>
    rw [g0] at h
    exact ⟨_, real Try.func77 (by kernel_rfl), fn_ok tok2 (A := a77b) (L := l77b) (r := none) Try.func77 (by kernel_rfl) (by kernel_rfl) (loops1 (by kernel_rfl) lk77b) (by rw [s77b, g0]), h⟩
  | false =>
    rw [g0] at h
    cases h

def S3 : SFn := fun f args k => match f, args with
  | 17, [.el (.sc (.fl .f32 w)), .el (.sc (.int .i64 n))] => k [.el (.sc (.fl .f32 (orZero (above w && within n 1 100) (fop .quo .f32 w (fint .f32 n))))), .el (.sc (.bo (above w && within n 1 100)))]
  | 39, [.el (.sc (.fl .f32 a)), .el (.sc (.fl .f32 b)), .el (.sc (.fl .f32 c))] => k [.fresh 2 ⟨.i64, orNil ((above a && above b) && fin c) (ordersOf (fun n => unit (gout a b c n)))⟩, .el (.sc (.bo ((above a && above b) && fin c)))]
  | 69, [.vw none ⟨.f32, xs⟩] => k [.el (.sc (.bo (xs.all fin && (decide (xs.length ≥ 1) && decide (xs.length ≤ 3)))))]
  | 77, [.vw none ⟨.f32, xs⟩, .fn 73 []] => (match (Nat.ble xs.length big : Bool) with
    | true => k [.el (.sc (.int .i64 (firstAt notFin xs)))]
    | false => none)
  | 77, [.vw none ⟨.f32, xs⟩, .fn 74 []] => (match (Nat.ble xs.length big : Bool) with
    | true => k [.el (.sc (.int .i64 (firstAt notPos xs)))]
    | false => none)
  | _, _ => S2 f args k
abbrev M3 : MFn := M2
def T3 : TT := tab.T S3 muts M3
theorem tok3 : TOK Try.prog T3 := by
  refine (tab_ok tabok).tok (fun f args k out h => ?_) (fun f vec args k out h => ?_)
  · change S3 f args k = some out at h
    unfold S3 at h
    split at h
    · exact c17 _ _ k out h
    · exact c39 _ _ _ k out h
    · exact c69 _ k out h
    · exact c77 _ k out h
    · exact c77b _ k out h
    · exact tok2.S f args k out h
  · exact tok2.M f vec args k out h

end Go.Sm.Ytpnkcjlapkhclaa
