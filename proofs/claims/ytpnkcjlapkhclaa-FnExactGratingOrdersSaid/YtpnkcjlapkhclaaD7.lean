/- What the functions hand back: level 6. -/
import Derived.Test.YtpnkcjlapkhclaaD6
namespace Go.Sm.Ytpnkcjlapkhclaa
open Go Go.Sm Go.RowKit Go.Proofs

/-! impl.DifferencesOf -/
def a36 : Ann := ann [(5, [1, 6, 35, 36, 37], [6])] [4, 5] 0
def l36 : Loops := fun key s k => match key, s with
  | 5, ⟨[(1, .fv (.vw (some 1) ⟨.f32, ys⟩)), (6, .fv (.own 0)), (35, .fv (.vw (some 0) ⟨.f32, xs⟩)), (36, .fv (.el (.sc (.int .i64 n)))), (37, .fv (.el (.sc (.int .i64 i))))], [some ⟨22, ⟨.f32, zs⟩⟩]⟩ => (match (decide (n = (xs.length : Int)) && (decide (i = 0) && (Nat.beq xs.length ys.length && Nat.ble ((zs : List Nat).length + xs.length) big)) : Bool) with
    | true => k (.exit 0) ⟨[(6, .fv (.own 0))], [some ⟨22, ⟨.f32, (zs : List Nat) ++ diffs xs ys⟩⟩]⟩
    | false => none)
  | _, _ => none
theorem st36 (ys : List Nat) (xs : List Nat) (n : Int) (i : Int) (zs : List Nat) (m : Nat) (k : Ex → St → R) : iterK a36 [1, 6, 35, 36, 37] [6] (codeK T6 a36 l36 Try.f36.ntmps (loopAt Try.f36 0)) (m + 1) ⟨[(1, .fv (.vw (some 1) ⟨.f32, ys⟩)), (6, .fv (.own 0)), (35, .fv (.vw (some 0) ⟨.f32, xs⟩)), (36, .fv (.el (.sc (.int .i64 n)))), (37, .fv (.el (.sc (.int .i64 i))))], [some ⟨22, ⟨.f32, zs⟩⟩]⟩ k = (match (decide ((i : Int) < n) : Bool) with
  | true => (match (decide (0 ≤ (i : Int) ∧ (i : Int) < (xs.length : Int)) && true : Bool) with
    | true => (match (xs : List Nat)[Int.toNat i]? with
      | some x1 => (match (decide (0 ≤ (i : Int) ∧ (i : Int) < (ys.length : Int)) && true : Bool) with
        | true => (match (ys : List Nat)[Int.toNat i]? with
          | some x2 => (match (Nat.beq 22 22 && decide ((zs : List Nat).length + ([fop .sub .f32 x1 x2] : List Nat).length ≤ 1099511627776) : Bool) with
            | true => iterK a36 [1, 6, 35, 36, 37] [6] (codeK T6 a36 l36 Try.f36.ntmps (loopAt Try.f36 0)) m ⟨[(1, .fv (.vw (some 1) ⟨.f32, ys⟩)), (6, .fv (.own 0)), (35, .fv (.vw (some 0) ⟨.f32, xs⟩)), (36, .fv (.el (.sc (.int .i64 n)))), (37, .fv (.el (.sc (.int .i64 (IntKind.i64.wrap (i + 1))))))], [some ⟨22, ⟨.f32, (zs : List Nat) ++ ([fop .sub .f32 x1 x2])⟩⟩]⟩ k
            | false => none)
          | none => none)
        | false => none)
      | none => none)
    | false => none)
  | false => k (.exit 0) ⟨[(6, .fv (.own 0))], [some ⟨22, ⟨.f32, zs⟩⟩]⟩) := by kernel_rfl
theorem ind36 (xs ys : List Nat) (hl : xs.length = ys.length) (hx : Nat.ble xs.length big = true) (k : Ex → St → R) : ∀ (m j : Nat) (zs : List Nat), zs.length + m ≤ 1099511627776 → j + m = xs.length → iterK a36 [1, 6, 35, 36, 37] [6] (codeK T6 a36 l36 Try.f36.ntmps (loopAt Try.f36 0)) (m + 1) ⟨[(1, .fv (.vw (some 1) ⟨.f32, ys⟩)), (6, .fv (.own 0)), (35, .fv (.vw (some 0) ⟨.f32, xs⟩)), (36, .fv (.el (.sc (.int .i64 (xs.length : Int))))), (37, .fv (.el (.sc (.int .i64 (j : Int)))))], [some ⟨22, ⟨.f32, zs⟩⟩]⟩ k =
    k (.exit 0) ⟨[(6, .fv (.own 0))], [some ⟨22, ⟨.f32, zs ++ diffs (xs.drop j) (ys.drop j)⟩⟩]⟩ := by
  intro m
  induction m with
  | zero =>
    intro j zs hz hj
    have h1 : ¬ ((j : Int) < (xs.length : Int)) := by omega
    rw [st36, List.drop_of_length_le (show xs.length ≤ j by omega)]
    simp [h1, diffs]
  | succ m ih =>
    intro j zs hz hj
    have hlt : j < xs.length := by omega
    have hlt2 : j < ys.length := by omega
    have h1 : ((j : Int) < (xs.length : Int)) := by omega
    have h12 : ((j : Int) < (ys.length : Int)) := by omega
    have h2 : (0 : Int) ≤ (j : Int) := by omega
    rw [st36, wrap_succ hlt hx]
    have h3 : xs[Int.toNat (j : Int)]? = some xs[j] := by simp [hlt]
    have h4 : ys[Int.toNat (j : Int)]? = some ys[j] := by simp [hlt2]
    have hg : zs.length + ([fop .sub .f32 xs[j] ys[j]] : List Nat).length ≤ 1099511627776 := by simp; omega
    have hbq : Nat.beq 22 22 = true := rfl
    have ih2 := ih (j + 1) (zs ++ [fop .sub .f32 xs[j] ys[j]]) (by simp; omega) (by omega)
    have h7 : zs ++ [fop .sub .f32 xs[j] ys[j]] ++ diffs (xs.drop (j + 1)) (ys.drop (j + 1)) = zs ++ diffs (xs[j] :: xs.drop (j + 1)) (ys[j] :: ys.drop (j + 1)) := by simp [diffs]
    rw [h7] at ih2
    rw [List.drop_eq_getElem_cons hlt, List.drop_eq_getElem_cons hlt2]
    simp only [h1, h12, h2, h3, h4, hg, hbq, and_self, decide_true, Bool.and_true, ih2]

theorem lk36 : LOK T6 a36 l36 Try.f36.ntmps (loopAt Try.f36 0) := by
  intro ins outs hA s k out h
  have hA' : ([1, 6, 35, 36, 37], [6]) = (ins, outs) := Option.some.inj ((show a36.lp (firstRegion (loopAt Try.f36 0)) = some ([1, 6, 35, 36, 37], [6]) by kernel_rfl).symm.trans hA)
  cases hA'
  have hk : firstRegion (loopAt Try.f36 0) = 5 := by kernel_rfl
  rw [hk] at h
  unfold l36 at h
  split at h
  · rename_i ys xs n i zs _
    cases hg : (decide (n = (xs.length : Int)) && (decide (i = 0) && (Nat.beq xs.length ys.length && Nat.ble (zs.length + xs.length) big))) with
    | false => rw [hg] at h; cases h
    | true =>
      rw [hg] at h
      simp only [Bool.and_eq_true, decide_eq_true_eq] at hg
      obtain ⟨rfl, rfl, hl, hx⟩ := hg
      refine ⟨xs.length + 1, ?_⟩
      have hxl := Nat.le_of_ble_eq_true hx
      unfold big at hxl
      have hh := ind36 xs ys (Nat.eq_of_beq_eq_true hl) (Nat.ble_eq_true_of_le (by unfold big; omega)) k xs.length 0 zs (by omega) (by omega)
      simp only [List.drop_zero] at hh
      exact hh.trans h
  · cases h
theorem e36 (xs : List Nat) (ys : List Nat) : runFn T6 a36 l36 Try.f36 [.vw none ⟨.f32, xs⟩, .vw none ⟨.f32, ys⟩] = (match (decide (((xs.length : Int) : Int) < 1) : Bool) with
  | true => some ⟨[.nil, .el (.sc (.bo false))], none⟩
  | false => (match (decide (((xs.length : Int) : Int) > 32) : Bool) with
    | true => some ⟨[.nil, .el (.sc (.bo false))], none⟩
    | false => (match (!(((ys.length : Int) : Int) == (xs.length : Int)) : Bool) with
      | true => some ⟨[.nil, .el (.sc (.bo false))], none⟩
      | false => (match (Nat.ble xs.length big : Bool) with
        | true => (match (!(xs.all fin) : Bool) with
          | true => some ⟨[.nil, .el (.sc (.bo false))], none⟩
          | false => (match (Nat.ble ys.length big : Bool) with
            | true => (match (!(ys.all fin) : Bool) with
              | true => some ⟨[.nil, .el (.sc (.bo false))], none⟩
              | false => (match (decide ((xs.length : Int) = (xs.length : Int)) && (decide (0 = 0) && (Nat.beq xs.length ys.length && Nat.ble (([] : List Nat).length + xs.length) big)) : Bool) with
                | true => (match (Nat.ble (([] : List Nat) ++ diffs xs ys).length big : Bool) with
                  | true => (match ((([] : List Nat) ++ diffs xs ys).all fin : Bool) with
                    | true => some ⟨[.fresh 22 ⟨.f32, ([] : List Nat) ++ diffs xs ys⟩, .el (.sc (.bo true))], none⟩
                    | false => some ⟨[.nil, .el (.sc (.bo false))], none⟩)
                  | false => none)
                | false => none))
            | false => none))
        | false => none)))) := by kernel_rfl
theorem s36 (xs : List Nat) (ys : List Nat) : runFn T6 a36 l36 Try.f36 [.vw none ⟨.f32, xs⟩, .vw none ⟨.f32, ys⟩] = (match (decide (1 ≤ xs.length ∧ xs.length ≤ 32 ∧ ys.length = xs.length) && diffOk xs ys : Bool) with
  | true => some ⟨[.fresh 22 ⟨.f32, diffs xs ys⟩, .el (.sc (.bo true))], none⟩
  | false => some ⟨[.nil, .el (.sc (.bo false))], none⟩) := by
  rw [e36]
  have e1 : ((xs.length : Int) < 1) ↔ ¬ 1 ≤ xs.length := by omega
  have e2 : ((xs.length : Int) > 32) ↔ ¬ xs.length ≤ 32 := by omega
  have e3 : ((ys.length : Int) == (xs.length : Int)) = decide (ys.length = xs.length) := by
    rw [Bool.eq_iff_iff]; simp; omega
  rw [e3]
  by_cases h1 : 1 ≤ xs.length
  · by_cases h2 : xs.length ≤ 32
    · by_cases h3 : ys.length = xs.length
      · have hb : Nat.ble xs.length big = true := Nat.ble_eq_true_of_le (by unfold big; omega)
        have hb2 : Nat.ble ys.length big = true := Nat.ble_eq_true_of_le (by unfold big; omega)
        have hb3 : Nat.ble (0 + xs.length) big = true := Nat.ble_eq_true_of_le (by unfold big; omega)
        have hq : Nat.beq xs.length ys.length = true := by rw [h3]; exact Nat.beq_refl _
        have hb4 : Nat.ble (diffs xs ys).length big = true := Nat.ble_eq_true_of_le (Nat.le_trans (diffs_len xs ys) (by unfold big; omega))
        rw [diffOk_eq h3.symm]
        cases hx : xs.all fin <;> cases hy : ys.all fin <;> cases hd : (diffs xs ys).all fin <;> simp [e1, e2, h1, h2, h3, hb, hb2, hb3, hb4, hq, hx, hy, hd]
      · simp [e1, e2, h1, h2, h3]
    · simp [e1, e2, h1, h2]
  · simp [e1, e2, h1]
theorem c36 (xs : List Nat) (ys : List Nat) (k : List RV → R) (out : Out) (h : k [.fresh 22 ⟨.f32, orNil (decide (1 ≤ xs.length ∧ xs.length ≤ 32 ∧ ys.length = xs.length) && diffOk xs ys) (diffs xs ys)⟩, .el (.sc (.bo (decide (1 ≤ xs.length ∧ xs.length ≤ 32 ∧ ys.length = xs.length) && diffOk xs ys)))] = some out) : ∃ rs, Real Try.prog 36 ∧ COK Try.prog 36 [.vw none ⟨.f32, xs⟩, .vw none ⟨.f32, ys⟩] rs ∧ k rs = some out := by
  cases g0 : (decide (1 ≤ xs.length ∧ xs.length ≤ 32 ∧ ys.length = xs.length) && diffOk xs ys : Bool) with
  | true =>
    rw [g0] at h
    exact ⟨_, real Try.func36 (by kernel_rfl), fn_ok tok6 (A := a36) (L := l36) (r := none) Try.func36 (by kernel_rfl) (by kernel_rfl) (loops1 (by kernel_rfl) lk36) (by rw [s36, g0]; rfl), h⟩
  | false =>
    rw [g0] at h
    exact ⟨_, real Try.func36 (by kernel_rfl), COK.nil (fn_ok tok6 (A := a36) (L := l36) (r := none) Try.func36 (by kernel_rfl) (by kernel_rfl) (loops1 (by kernel_rfl) lk36) (by rw [s36, g0])), h⟩

/-! impl.GratingOrders -/
def a40 : Ann := ann [(5, [0, 1, 2, 8, 9], [8])] [6, 7] 0
def l40 : Loops := fun key s k => match key, s with
  | 5, ⟨[(0, .fv (.el (.sc (.fl .f32 a)))), (1, .fv (.el (.sc (.fl .f32 b)))), (2, .fv (.el (.sc (.fl .f32 c)))), (8, .fv (.own 0)), (9, .fv (.el (.sc (.int .i64 i))))], [some ⟨2, ⟨.i64, zs⟩⟩]⟩ => (match (decide (i = (-100)) && Nat.ble ((zs : List Int).length + 201) big : Bool) with
    | true => k (.exit 0) ⟨[(8, .fv (.own 0))], [some ⟨2, ⟨.i64, (zs : List Int) ++ ordersOf (fun n => (above a && above b) && (fin c && within n (-100) 100) && unit (gout a b c n))⟩⟩]⟩
    | false => none)
  | _, _ => none
theorem st40 (a : Nat) (b : Nat) (c : Nat) (i : Int) (zs : List Int) (m : Nat) (k : Ex → St → R) : iterK a40 [0, 1, 2, 8, 9] [8] (codeK T6 a40 l40 Try.f40.ntmps (loopAt Try.f40 0)) (m + 1) ⟨[(0, .fv (.el (.sc (.fl .f32 a)))), (1, .fv (.el (.sc (.fl .f32 b)))), (2, .fv (.el (.sc (.fl .f32 c)))), (8, .fv (.own 0)), (9, .fv (.el (.sc (.int .i64 i))))], [some ⟨2, ⟨.i64, zs⟩⟩]⟩ k = (match (decide ((i : Int) ≤ 100) : Bool) with
  | true => (match (((above a && above b) && (fin c && within i (-100) 100)) && unit (gout a b c i) : Bool) with
    | true => (match (Nat.beq 2 2 && decide ((zs : List Int).length + ([i] : List Int).length ≤ 1099511627776) : Bool) with
      | true => iterK a40 [0, 1, 2, 8, 9] [8] (codeK T6 a40 l40 Try.f40.ntmps (loopAt Try.f40 0)) m ⟨[(0, .fv (.el (.sc (.fl .f32 a)))), (1, .fv (.el (.sc (.fl .f32 b)))), (2, .fv (.el (.sc (.fl .f32 c)))), (8, .fv (.own 0)), (9, .fv (.el (.sc (.int .i64 (IntKind.i64.wrap (i + 1))))))], [some ⟨2, ⟨.i64, (zs : List Int) ++ ([i])⟩⟩]⟩ k
      | false => none)
    | false => iterK a40 [0, 1, 2, 8, 9] [8] (codeK T6 a40 l40 Try.f40.ntmps (loopAt Try.f40 0)) m ⟨[(0, .fv (.el (.sc (.fl .f32 a)))), (1, .fv (.el (.sc (.fl .f32 b)))), (2, .fv (.el (.sc (.fl .f32 c)))), (8, .fv (.own 0)), (9, .fv (.el (.sc (.int .i64 (IntKind.i64.wrap (i + 1))))))], [some ⟨2, ⟨.i64, zs⟩⟩]⟩ k)
  | false => k (.exit 0) ⟨[(8, .fv (.own 0))], [some ⟨2, ⟨.i64, zs⟩⟩]⟩) := by kernel_rfl
theorem ind40 (a b c : Nat) (k : Ex → St → R) : ∀ (m : Nat) (i : Int) (zs : List Int), zs.length + m ≤ 1099511627776 → -100 ≤ i → i + (m : Int) = 101 → iterK a40 [0, 1, 2, 8, 9] [8] (codeK T6 a40 l40 Try.f40.ntmps (loopAt Try.f40 0)) (m + 1) ⟨[(0, .fv (.el (.sc (.fl .f32 a)))), (1, .fv (.el (.sc (.fl .f32 b)))), (2, .fv (.el (.sc (.fl .f32 c)))), (8, .fv (.own 0)), (9, .fv (.el (.sc (.int .i64 i))))], [some ⟨2, ⟨.i64, zs⟩⟩]⟩ k =
    k (.exit 0) ⟨[(8, .fv (.own 0))], [some ⟨2, ⟨.i64, zs ++ (ints i m).filter (fun n => (above a && above b) && (fin c && within n (-100) 100) && unit (gout a b c n))⟩⟩]⟩ := by
  intro m
  induction m with
  | zero =>
    intro i zs hz h0 hi
    have h1 : ¬ (i ≤ 100) := by omega
    rw [st40]
    simp [h1, ints]
  | succ m ih =>
    intro i zs hz h0 hi
    have h1 : i ≤ 100 := by omega
    have hw : IntKind.i64.wrap (i + 1) = i + 1 := wrap64 (by omega) (by omega)
    rw [st40, hw]
    have hg : zs.length + ([i] : List Int).length ≤ 1099511627776 := by simp; omega
    have hbq : Nat.beq 2 2 = true := rfl
    simp only [h1, hg, hbq, decide_true, Bool.and_true, ints, List.filter_cons]
    rw [ih (i + 1) (zs ++ [i]) (by simp; omega) (by omega) (by omega), ih (i + 1) zs (by omega) (by omega) (by omega)]
    cases hp : ((fun n => (above a && above b) && (fin c && within n (-100) 100) && unit (gout a b c n)) i) <;> simp [hp]

theorem lk40 : LOK T6 a40 l40 Try.f40.ntmps (loopAt Try.f40 0) := by
  intro ins outs hA s k out h
  have hA' : ([0, 1, 2, 8, 9], [8]) = (ins, outs) := Option.some.inj ((show a40.lp (firstRegion (loopAt Try.f40 0)) = some ([0, 1, 2, 8, 9], [8]) by kernel_rfl).symm.trans hA)
  cases hA'
  have hk : firstRegion (loopAt Try.f40 0) = 5 := by kernel_rfl
  rw [hk] at h
  unfold l40 at h
  split at h
  · rename_i a b c i zs _
    cases hg : (decide (i = (-100)) && Nat.ble (zs.length + 201) big) with
    | false => rw [hg] at h; cases h
    | true =>
      rw [hg] at h
      simp only [Bool.and_eq_true, decide_eq_true_eq] at hg
      obtain ⟨rfl, hx⟩ := hg
      refine ⟨202, ?_⟩
      have hxl := Nat.le_of_ble_eq_true hx
      unfold big at hxl
      exact (ind40 a b c k 201 (-100) zs (by omega) (by omega) (by omega)).trans h
  · cases h
theorem e40 (a : Nat) (b : Nat) (c : Nat) : runFn T6 a40 l40 Try.f40 [.el (.sc (.fl .f32 a)), .el (.sc (.fl .f32 b)), .el (.sc (.fl .f32 c))] = (match (!(([a, b]).all above) : Bool) with
  | true => some ⟨[.nil, .el (.sc (.bo false))], none⟩
  | false => (match (!(fin c) : Bool) with
    | true => some ⟨[.nil, .el (.sc (.bo false))], none⟩
    | false => (match (decide ((-100) = (-100)) && Nat.ble (([] : List Int).length + 201) big : Bool) with
      | true => some ⟨[.fresh 2 ⟨.i64, ([] : List Int) ++ ordersOf (fun n => (above a && above b) && (fin c && within n (-100) 100) && unit (gout a b c n))⟩, .el (.sc (.bo true))], none⟩
      | false => none))) := by kernel_rfl
theorem s40 (a : Nat) (b : Nat) (c : Nat) : runFn T6 a40 l40 Try.f40 [.el (.sc (.fl .f32 a)), .el (.sc (.fl .f32 b)), .el (.sc (.fl .f32 c))] = (match ((above a && above b) && fin c : Bool) with
  | true => some ⟨[.fresh 2 ⟨.i64, ordersOf (fun n => unit (gout a b c n))⟩, .el (.sc (.bo true))], none⟩
  | false => some ⟨[.nil, .el (.sc (.bo false))], none⟩) := by
  rw [e40]
  have hb : Nat.ble (0 + 201) big = true := by decide
  cases h1 : above a <;> cases h2 : above b <;> cases h3 : fin c <;> simp [hb, h1, h2, h3]
  exact orders_congr fun n hn1 hn2 => by simp [within, hn1, hn2]
theorem c40 (a : Nat) (b : Nat) (c : Nat) (k : List RV → R) (out : Out) (h : k [.fresh 2 ⟨.i64, orNil ((above a && above b) && fin c) (ordersOf (fun n => unit (gout a b c n)))⟩, .el (.sc (.bo ((above a && above b) && fin c)))] = some out) : ∃ rs, Real Try.prog 40 ∧ COK Try.prog 40 [.el (.sc (.fl .f32 a)), .el (.sc (.fl .f32 b)), .el (.sc (.fl .f32 c))] rs ∧ k rs = some out := by
  cases g0 : ((above a && above b) && fin c : Bool) with
  | true =>
    rw [g0] at h
    exact ⟨_, real Try.func40 (by kernel_rfl), fn_ok tok6 (A := a40) (L := l40) (r := none) Try.func40 (by kernel_rfl) (by kernel_rfl) (loops1 (by kernel_rfl) lk40) (by rw [s40, g0]; rfl), h⟩
  | false =>
    rw [g0] at h
    exact ⟨_, real Try.func40 (by kernel_rfl), COK.nil (fn_ok tok6 (A := a40) (L := l40) (r := none) Try.func40 (by kernel_rfl) (by kernel_rfl) (loops1 (by kernel_rfl) lk40) (by rw [s40, g0])), h⟩

/-! impl.WaveAt -/
def a45 : Ann := ann [(5, [0, 1, 6, 7], [6])] [4, 5] 0
def l45 : Loops := fun key s k => match key, s with
  | 5, ⟨[(0, .fv (.vw (some 0) ⟨.f32, xs⟩)), (1, .fv (.el (.sc (.fl .f32 p)))), (6, .fv (.el (.sc (.fl .f32 x)))), (7, .fv (.el (.sc (.int .i64 i))))], []⟩ => (match (decide (i = (xs.length : Int) - 1) && Nat.ble xs.length big : Bool) with
    | true => k (.exit 0) ⟨[(6, .fv (.el (.sc (.fl .f32 (horner p x xs)))))], []⟩
    | false => none)
  | _, _ => none
theorem st45 (xs : List Nat) (p : Nat) (x : Nat) (i : Int) (m : Nat) (k : Ex → St → R) : iterK a45 [0, 1, 6, 7] [6] (codeK T6 a45 l45 Try.f45.ntmps (loopAt Try.f45 0)) (m + 1) ⟨[(0, .fv (.vw (some 0) ⟨.f32, xs⟩)), (1, .fv (.el (.sc (.fl .f32 p)))), (6, .fv (.el (.sc (.fl .f32 x)))), (7, .fv (.el (.sc (.int .i64 i))))], []⟩ k = (match (decide ((i : Int) ≥ 0) : Bool) with
  | true => (match (decide (0 ≤ (i : Int) ∧ (i : Int) < (xs.length : Int)) && true : Bool) with
    | true => (match (xs : List Nat)[Int.toNat i]? with
      | some x1 => iterK a45 [0, 1, 6, 7] [6] (codeK T6 a45 l45 Try.f45.ntmps (loopAt Try.f45 0)) m ⟨[(0, .fv (.vw (some 0) ⟨.f32, xs⟩)), (1, .fv (.el (.sc (.fl .f32 p)))), (6, .fv (.el (.sc (.fl .f32 (fop .add .f32 (fop .mul .f32 x p) x1))))), (7, .fv (.el (.sc (.int .i64 (IntKind.i64.wrap (i - 1))))))], []⟩ k
      | none => none)
    | false => none)
  | false => k (.exit 0) ⟨[(6, .fv (.el (.sc (.fl .f32 x))))], []⟩) := by kernel_rfl
theorem ind45 (xs : List Nat) (p : Nat) (hx : Nat.ble xs.length big = true) (k : Ex → St → R) : ∀ (j : Nat) (x : Nat), j ≤ xs.length → iterK a45 [0, 1, 6, 7] [6] (codeK T6 a45 l45 Try.f45.ntmps (loopAt Try.f45 0)) (j + 1) ⟨[(0, .fv (.vw (some 0) ⟨.f32, xs⟩)), (1, .fv (.el (.sc (.fl .f32 p)))), (6, .fv (.el (.sc (.fl .f32 x)))), (7, .fv (.el (.sc (.int .i64 ((j : Int) - 1)))))], []⟩ k =
    k (.exit 0) ⟨[(6, .fv (.el (.sc (.fl .f32 (horner p x (xs.take j))))))], []⟩ := by
  intro j
  induction j with
  | zero =>
    intro x hj
    have h1 : ¬ (((0 : Nat) : Int) - 1 ≥ 0) := by omega
    rw [st45]
    simp [horner]
  | succ j ih =>
    intro x hj
    have hlt : j < xs.length := by omega
    have hxl := Nat.le_of_ble_eq_true hx
    unfold big at hxl
    have e1 : ((j + 1 : Nat) : Int) - 1 = (j : Int) := by omega
    rw [e1, st45]
    have h1 : ((j : Int) ≥ 0) := by omega
    have h2 : (0 : Int) ≤ (j : Int) ∧ (j : Int) < (xs.length : Int) := by omega
    have hw : IntKind.i64.wrap ((j : Int) - 1) = (j : Int) - 1 := wrap64 (by omega) (by omega)
    have h3 : xs[Int.toNat (j : Int)]? = some xs[j] := by simp [hlt]
    rw [hw]
    simp only [h1, h2, h3, and_self, decide_true, Bool.and_true]
    refine (ih _ (by omega)).trans ?_
    have h5 : horner p x (xs.take (j + 1)) = horner p (fop .add .f32 (fop .mul .f32 x p) xs[j]) (xs.take j) := by
      unfold horner
      rw [List.take_succ_eq_append_getElem hlt, List.foldr_append]
      rfl
    rw [h5]

theorem lk45 : LOK T6 a45 l45 Try.f45.ntmps (loopAt Try.f45 0) := by
  intro ins outs hA s k out h
  have hA' : ([0, 1, 6, 7], [6]) = (ins, outs) := Option.some.inj ((show a45.lp (firstRegion (loopAt Try.f45 0)) = some ([0, 1, 6, 7], [6]) by kernel_rfl).symm.trans hA)
  cases hA'
  have hk : firstRegion (loopAt Try.f45 0) = 5 := by kernel_rfl
  rw [hk] at h
  unfold l45 at h
  split at h
  · rename_i xs p x i _
    cases hg : (decide (i = (xs.length : Int) - 1) && Nat.ble xs.length big) with
    | false => rw [hg] at h; cases h
    | true =>
      rw [hg] at h
      simp only [Bool.and_eq_true, decide_eq_true_eq] at hg
      obtain ⟨rfl, hx⟩ := hg
      refine ⟨xs.length + 1, ?_⟩
      have hh := ind45 xs p hx k xs.length x (Nat.le_refl _)
      rw [List.take_length] at hh
      exact hh.trans h
  · cases h
theorem e45 (xs : List Nat) (p : Nat) : runFn T6 a45 l45 Try.f45 [.vw none ⟨.f32, xs⟩, .el (.sc (.fl .f32 p))] = (match (!(xs.all fin && (decide (xs.length ≥ 1) && decide (xs.length ≤ 3))) : Bool) with
  | true => some ⟨[.el (.sc (.fl .f32 0)), .el (.sc (.bo false))], none⟩
  | false => (match (!(fin p) : Bool) with
    | true => some ⟨[.el (.sc (.fl .f32 0)), .el (.sc (.bo false))], none⟩
    | false => (match (decide (IntKind.i64.wrap (((xs.length : Int)) - 1) = (xs.length : Int) - 1) && Nat.ble xs.length big : Bool) with
      | true => some ⟨[.el (.sc (.fl .f32 (numOf (horner p 0 xs)))), .el (.sc (.bo (fin (horner p 0 xs))))], none⟩
      | false => none))) := by kernel_rfl
theorem s45 (xs : List Nat) (p : Nat) : runFn T6 a45 l45 Try.f45 [.vw none ⟨.f32, xs⟩, .el (.sc (.fl .f32 p))] = some ⟨[.el (.sc (.fl .f32 (orZero (((xs.all fin && (decide (xs.length ≥ 1) && decide (xs.length ≤ 3))) && fin p) && fin (horner p 0 xs)) (horner p 0 xs)))), .el (.sc (.bo (((xs.all fin && (decide (xs.length ≥ 1) && decide (xs.length ≤ 3))) && fin p) && fin (horner p 0 xs))))], none⟩ := by
  rw [e45]
  cases h : (xs.all fin && (decide (xs.length ≥ 1) && decide (xs.length ≤ 3))) with
  | false => simp [orZero]
  | true =>
    have h2 := h
    simp only [Bool.and_eq_true, decide_eq_true_eq] at h2
    have hb : Nat.ble xs.length big = true := Nat.ble_eq_true_of_le (by unfold big; omega)
    have hw : IntKind.i64.wrap ((xs.length : Int) - 1) = (xs.length : Int) - 1 := wrap64 (by omega) (by omega)
    unfold orZero numOf
    cases fin p <;> cases fin (horner p 0 xs) <;> simp [hb, hw]
theorem c45 (xs : List Nat) (p : Nat) (k : List RV → R) (out : Out) (h : k [.el (.sc (.fl .f32 (orZero (((xs.all fin && (decide (xs.length ≥ 1) && decide (xs.length ≤ 3))) && fin p) && fin (horner p 0 xs)) (horner p 0 xs)))), .el (.sc (.bo (((xs.all fin && (decide (xs.length ≥ 1) && decide (xs.length ≤ 3))) && fin p) && fin (horner p 0 xs))))] = some out) : ∃ rs, Real Try.prog 45 ∧ COK Try.prog 45 [.vw none ⟨.f32, xs⟩, .el (.sc (.fl .f32 p))] rs ∧ k rs = some out := by
  exact ⟨_, real Try.func45 (by kernel_rfl), fn_ok tok6 (A := a45) (L := l45) (r := none) Try.func45 (by kernel_rfl) (by kernel_rfl) (loops1 (by kernel_rfl) lk45) (by rw [s45]), h⟩

def S7 : SFn := fun f args k => match f, args with
  | 36, [.vw none ⟨.f32, xs⟩, .vw none ⟨.f32, ys⟩] => k [.fresh 22 ⟨.f32, orNil (decide (1 ≤ xs.length ∧ xs.length ≤ 32 ∧ ys.length = xs.length) && diffOk xs ys) (diffs xs ys)⟩, .el (.sc (.bo (decide (1 ≤ xs.length ∧ xs.length ≤ 32 ∧ ys.length = xs.length) && diffOk xs ys)))]
  | 40, [.el (.sc (.fl .f32 a)), .el (.sc (.fl .f32 b)), .el (.sc (.fl .f32 c))] => k [.fresh 2 ⟨.i64, orNil ((above a && above b) && fin c) (ordersOf (fun n => unit (gout a b c n)))⟩, .el (.sc (.bo ((above a && above b) && fin c)))]
  | 45, [.vw none ⟨.f32, xs⟩, .el (.sc (.fl .f32 p))] => k [.el (.sc (.fl .f32 (orZero (((xs.all fin && (decide (xs.length ≥ 1) && decide (xs.length ≤ 3))) && fin p) && fin (horner p 0 xs)) (horner p 0 xs)))), .el (.sc (.bo (((xs.all fin && (decide (xs.length ≥ 1) && decide (xs.length ≤ 3))) && fin p) && fin (horner p 0 xs))))]
  | _, _ => S6 f args k
abbrev M7 : MFn := M6
def T7 : TT := tab.T S7 muts M7
theorem tok7 : TOK Try.prog T7 := by
  refine (tab_ok tabok).tok (fun f args k out h => ?_) (fun f vec args k out h => ?_)
  · change S7 f args k = some out at h
    unfold S7 at h
    split at h
    · exact c36 _ _ k out h
    · exact c40 _ _ _ k out h
    · exact c45 _ _ k out h
    · exact tok6.S f args k out h
  · exact tok6.M f vec args k out h

end Go.Sm.Ytpnkcjlapkhclaa
