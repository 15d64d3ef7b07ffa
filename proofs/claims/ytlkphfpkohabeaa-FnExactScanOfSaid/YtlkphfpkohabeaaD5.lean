/- What the functions hand back: level 4. -/
import Derived.Test.YtlkphfpkohabeaaD4
namespace Go.Sm.Ytlkphfpkohabeaa
open Go Go.Sm Go.RowKit Go.Proofs

/-! spec.ScanOf -/
def a55 : Ann := ann [(5, [0, 1, 2, 3, 10, 11], [10]), (9, [0, 1, 2, 3, 10, 11, 12, 13], [0, 1, 2, 3, 10, 11, 12])] [8, 9] 0
def lp55 : St → (Ex → St → R) → R := fun s k => match s with
  | ⟨[(0, .fv (.vw (some 0) ⟨.f32, xs⟩)), (1, .fv (.vw (some 1) ⟨.f32, ys⟩)), (2, .fv (.el (.sc (.fl .f32 b)))), (3, .fv (.el (.sc (.int .i64 n)))), (10, .fv (.own 0)), (11, .fv (.el (.sc (.int .i64 i))))], [some ⟨30, ⟨.f32, zs⟩⟩]⟩ => (match ((decide (i = 0) && (Nat.ble xs.length big && (Nat.ble xs.length ys.length && (Nat.ble ((zs : List Nat).length + n.toNat) big && decide (n ≤ 1099511627776))))) : Bool) with
    | true => k (.exit 0) ⟨[(10, .fv (.own 0))], [some ⟨30, ⟨.f32, rep (fun j zs => zs ++ [scanAt xs ys b j]) (n.toNat) 0 ((zs : List Nat) : (List Nat))⟩⟩]⟩
    | false => none)
  | _ => none
def lp55_1 : St → (Ex → St → R) → R := fun s k => match s with
  | ⟨[(0, .fv (.vw (some 0) ⟨.f32, xs⟩)), (1, .fv (.vw (some 1) ⟨.f32, ys⟩)), (2, .fv (.el (.sc (.fl .f32 b)))), (3, .fv (.el (.sc (.int .i64 n)))), (10, .fv (.own 0)), (11, .fv (.el (.sc (.int .i64 o)))), (12, .fv (.el (.sc (.fl .f32 a)))), (13, .fv (.el (.sc (.int .i64 i))))], [some ⟨30, ⟨.f32, zs⟩⟩]⟩ => (match ((decide (i = 0) && (Nat.ble xs.length big && Nat.ble xs.length ys.length)) : Bool) with
    | true => k (.exit 2) ⟨[(0, .fv (.vw (some 0) ⟨.f32, xs⟩)), (1, .fv (.vw (some 1) ⟨.f32, ys⟩)), (2, .fv (.el (.sc (.fl .f32 b)))), (3, .fv (.el (.sc (.int .i64 n)))), (10, .fv (.own 0)), (11, .fv (.el (.sc (.int .i64 o)))), (12, .fv (.el (.sc (.fl .f32 (rep (scanTerm xs ys b o) (xs.length) 0 (a : Nat))))))], [some ⟨30, ⟨.f32, (zs : List Nat)⟩⟩]⟩
    | false => none)
  | _ => none
def l55 : Loops := fun key s k => bif Nat.beq key 5 then lp55 s k else bif Nat.beq key 9 then lp55_1 s k else none
theorem st55 (xs : List Nat) (ys : List Nat) (b : Nat) (n : Int) (i : Int) (zs : List Nat) (m : Nat) (k : Ex → St → R) : iterK a55 [0, 1, 2, 3, 10, 11] [10] (codeK T4 a55 l55 Try.f55.ntmps (loopAt Try.f55 0)) (m + 1) ⟨[(0, .fv (.vw (some 0) ⟨.f32, xs⟩)), (1, .fv (.vw (some 1) ⟨.f32, ys⟩)), (2, .fv (.el (.sc (.fl .f32 b)))), (3, .fv (.el (.sc (.int .i64 n)))), (10, .fv (.own 0)), (11, .fv (.el (.sc (.int .i64 i))))], [some ⟨30, ⟨.f32, zs⟩⟩]⟩ k = (match (decide ((i : Int) < n) : Bool) with
  | true => (match ((decide (0 = 0) && (Nat.ble xs.length big && Nat.ble xs.length ys.length)) : Bool) with
    | true => (match (Nat.beq 30 30 && decide (((zs : List Nat) : List Nat).length + ([rep (scanTerm xs ys b i) (xs.length) 0 (0 : Nat)] : List Nat).length ≤ 1099511627776) : Bool) with
      | true => iterK a55 [0, 1, 2, 3, 10, 11] [10] (codeK T4 a55 l55 Try.f55.ntmps (loopAt Try.f55 0)) m ⟨[(0, .fv (.vw (some 0) ⟨.f32, xs⟩)), (1, .fv (.vw (some 1) ⟨.f32, ys⟩)), (2, .fv (.el (.sc (.fl .f32 b)))), (3, .fv (.el (.sc (.int .i64 n)))), (10, .fv (.own 0)), (11, .fv (.el (.sc (.int .i64 (IntKind.i64.wrap (i + 1))))))], [some ⟨30, ⟨.f32, ((zs : List Nat) : List Nat) ++ ([rep (scanTerm xs ys b i) (xs.length) 0 (0 : Nat)])⟩⟩]⟩ k
      | false => none)
    | false => none)
  | false => k (.exit 0) ⟨[(10, .fv (.own 0))], [some ⟨30, ⟨.f32, zs⟩⟩]⟩) := by kernel_rfl
theorem ind55 (xs : List Nat) (ys : List Nat) (b : Nat) (n : Int) (hx : (Nat.ble xs.length big) = true) (hl : (Nat.ble xs.length ys.length) = true) (k : Ex → St → R) : ∀ (m j : Nat) (zs : List Nat), zs.length + m ≤ 1099511627776 → n ≤ 1099511627776 → 0 ≤ j → j + m = n.toNat → iterK a55 [0, 1, 2, 3, 10, 11] [10] (codeK T4 a55 l55 Try.f55.ntmps (loopAt Try.f55 0)) (m + 1) ⟨[(0, .fv (.vw (some 0) ⟨.f32, xs⟩)), (1, .fv (.vw (some 1) ⟨.f32, ys⟩)), (2, .fv (.el (.sc (.fl .f32 b)))), (3, .fv (.el (.sc (.int .i64 n)))), (10, .fv (.own 0)), (11, .fv (.el (.sc (.int .i64 (j : Int)))))], [some ⟨30, ⟨.f32, zs⟩⟩]⟩ k =
    k (.exit 0) ⟨[(10, .fv (.own 0))], [some ⟨30, ⟨.f32, rep (fun j zs => zs ++ [scanAt xs ys b j]) m j (zs : (List Nat))⟩⟩]⟩ := by
  intro m
  induction m with
  | zero =>
    intro j zs hs0 hs1 hlo hj
    have hx_ := big_le hx
    have hl_ := Nat.le_of_ble_eq_true hl
    have h1 : ¬ ((j : Int) < n) := by omega
    rw [st55]
    simp only [h1, rep, decide_false, hx, hl, Bool.true_and, Bool.and_self, List.length_singleton] <;> rfl
  | succ m ih =>
    intro j zs hs0 hs1 hlo hj
    have hx_ := big_le hx
    have hl_ := Nat.le_of_ble_eq_true hl
    have h1 : (j : Int) < n := by omega
    have hbq : Nat.beq 30 30 = true := rfl
    have hzl : zs.length + 1 ≤ 1099511627776 := by omega
    have wn : IntKind.i64.wrap ((j : Int) + 1) = ((j + 1 : Nat) : Int) := wrapN (by omega) (by omega)
    rw [st55]
    simp only [h1, wn, hbq, hzl, and_self, decide_true, Bool.and_true, Int.le_refl, hx, hl, Bool.true_and, Bool.and_self, List.length_singleton]
    exact ih (j + 1) _ (by simp; omega) (hs1) (by omega) (by omega)

theorem lk55 : LOK T4 a55 l55 Try.f55.ntmps (loopAt Try.f55 0) := by
  intro ins outs hA s k out h
  have hA' : ([0, 1, 2, 3, 10, 11], [10]) = (ins, outs) := Option.some.inj ((show a55.lp (firstRegion (loopAt Try.f55 0)) = some ([0, 1, 2, 3, 10, 11], [10]) by kernel_rfl).symm.trans hA)
  cases hA'
  have hk : firstRegion (loopAt Try.f55 0) = 5 := by kernel_rfl
  rw [hk] at h
  change lp55 s k = some out at h
  unfold lp55 at h
  split at h
  · rename_i xs ys b n i zs
    cases hg : (decide (i = 0) && (Nat.ble xs.length big && (Nat.ble xs.length ys.length && (Nat.ble (zs.length + n.toNat) big && decide (n ≤ 1099511627776))))) with
    | false => rw [hg] at h; cases h
    | true =>
      rw [hg] at h
      simp only [Bool.and_eq_true, decide_eq_true_eq] at hg
      obtain ⟨rfl, hx, hl, gs0, gs1⟩ := hg
      refine ⟨(n.toNat) + 1, ?_⟩
      have hx_ := big_le hx
      have hl_ := Nat.le_of_ble_eq_true hl
      have gs0_ := big_le gs0
      exact (ind55 xs ys b n hx hl k (n.toNat) 0 zs (by omega) (by omega) (by omega) (by omega)).trans h
  · cases h
theorem st55_1 (xs : List Nat) (ys : List Nat) (b : Nat) (n : Int) (o : Int) (a : Nat) (i : Int) (zs : List Nat) (m : Nat) (k : Ex → St → R) : iterK a55 [0, 1, 2, 3, 10, 11, 12, 13] [0, 1, 2, 3, 10, 11, 12] (codeK T4 a55 l55 Try.f55.ntmps (loopAt Try.f55 1)) (m + 1) ⟨[(0, .fv (.vw (some 0) ⟨.f32, xs⟩)), (1, .fv (.vw (some 1) ⟨.f32, ys⟩)), (2, .fv (.el (.sc (.fl .f32 b)))), (3, .fv (.el (.sc (.int .i64 n)))), (10, .fv (.own 0)), (11, .fv (.el (.sc (.int .i64 o)))), (12, .fv (.el (.sc (.fl .f32 a)))), (13, .fv (.el (.sc (.int .i64 i))))], [some ⟨30, ⟨.f32, zs⟩⟩]⟩ k = (match (decide ((i : Int) < (xs.length : Int)) : Bool) with
  | true => (match (decide (0 ≤ (i : Int) ∧ (i : Int) < (xs.length : Int)) && true : Bool) with
    | true => (match (xs : List Nat)[Int.toNat i]? with
      | some x1 => (match (decide (0 ≤ (i : Int) ∧ (i : Int) < (ys.length : Int)) && true : Bool) with
        | true => (match (ys : List Nat)[Int.toNat i]? with
          | some x2 => iterK a55 [0, 1, 2, 3, 10, 11, 12, 13] [0, 1, 2, 3, 10, 11, 12] (codeK T4 a55 l55 Try.f55.ntmps (loopAt Try.f55 1)) m ⟨[(0, .fv (.vw (some 0) ⟨.f32, xs⟩)), (1, .fv (.vw (some 1) ⟨.f32, ys⟩)), (2, .fv (.el (.sc (.fl .f32 b)))), (3, .fv (.el (.sc (.int .i64 n)))), (10, .fv (.own 0)), (11, .fv (.el (.sc (.int .i64 o)))), (12, .fv (.el (.sc (.fl .f32 (fop .add .f32 a (fop .mul .f32 x2 (fop .add .f32 1065353216 (phRe (wid (fop .mul .f32 x1 (fop .mul .f32 (fint .f32 o) b))))))))))), (13, .fv (.el (.sc (.int .i64 (IntKind.i64.wrap (i + 1))))))], [some ⟨30, ⟨.f32, zs⟩⟩]⟩ k
          | none => none)
        | false => none)
      | none => none)
    | false => none)
  | false => k (.exit 2) ⟨[(0, .fv (.vw (some 0) ⟨.f32, xs⟩)), (1, .fv (.vw (some 1) ⟨.f32, ys⟩)), (2, .fv (.el (.sc (.fl .f32 b)))), (3, .fv (.el (.sc (.int .i64 n)))), (10, .fv (.own 0)), (11, .fv (.el (.sc (.int .i64 o)))), (12, .fv (.el (.sc (.fl .f32 a))))], [some ⟨30, ⟨.f32, zs⟩⟩]⟩) := by kernel_rfl
theorem ind55_1 (xs : List Nat) (ys : List Nat) (b : Nat) (n : Int) (o : Int) (zs : List Nat) (hx : (Nat.ble xs.length big) = true) (hl : (Nat.ble xs.length ys.length) = true) (k : Ex → St → R) : ∀ (m j : Nat) (a : Nat), 0 ≤ j → j + m = xs.length → iterK a55 [0, 1, 2, 3, 10, 11, 12, 13] [0, 1, 2, 3, 10, 11, 12] (codeK T4 a55 l55 Try.f55.ntmps (loopAt Try.f55 1)) (m + 1) ⟨[(0, .fv (.vw (some 0) ⟨.f32, xs⟩)), (1, .fv (.vw (some 1) ⟨.f32, ys⟩)), (2, .fv (.el (.sc (.fl .f32 b)))), (3, .fv (.el (.sc (.int .i64 n)))), (10, .fv (.own 0)), (11, .fv (.el (.sc (.int .i64 o)))), (12, .fv (.el (.sc (.fl .f32 a)))), (13, .fv (.el (.sc (.int .i64 (j : Int)))))], [some ⟨30, ⟨.f32, zs⟩⟩]⟩ k =
    k (.exit 2) ⟨[(0, .fv (.vw (some 0) ⟨.f32, xs⟩)), (1, .fv (.vw (some 1) ⟨.f32, ys⟩)), (2, .fv (.el (.sc (.fl .f32 b)))), (3, .fv (.el (.sc (.int .i64 n)))), (10, .fv (.own 0)), (11, .fv (.el (.sc (.int .i64 o)))), (12, .fv (.el (.sc (.fl .f32 (rep (scanTerm xs ys b o) m j (a : Nat))))))], [some ⟨30, ⟨.f32, zs⟩⟩]⟩ := by
  intro m
  induction m with
  | zero =>
    intro j a hlo hj
    have hx_ := big_le hx
    have hl_ := Nat.le_of_ble_eq_true hl
    have h1 : ¬ (((j : Int) < (xs.length : Int))) := by omega
    rw [st55_1]
    simp only [h1, rep, decide_false] <;> rfl
  | succ m ih =>
    intro j a hlo hj
    have hx_ := big_le hx
    have hl_ := Nat.le_of_ble_eq_true hl
    have h1 : ((j : Int) < (xs.length : Int)) := by omega
    have xb : (0 : Int) ≤ ((j : Nat) : Int) ∧ ((j : Nat) : Int) < (xs.length : Int) := by omega
    have xq : xs[Int.toNat ((j : Nat) : Int)]? = some (xs.getD (j) 0) := getI (by omega)
    have xp : xs[j]? = some (xs.getD (j) 0) := getI2 (by omega)
    have yl : j < ys.length := by omega
    have yb : (0 : Int) ≤ ((j : Nat) : Int) ∧ ((j : Nat) : Int) < (ys.length : Int) := by omega
    have yq : ys[Int.toNat ((j : Nat) : Int)]? = some (ys.getD (j) 0) := getI (by omega)
    have yp : ys[j]? = some (ys.getD (j) 0) := getI2 (by omega)
    have wn : IntKind.i64.wrap ((j : Int) + 1) = ((j + 1 : Nat) : Int) := wrapN (by omega) (by omega)
    rw [st55_1]
    simp only [h1, wn, xb, xq, xp, yl, yb, yq, yp, and_self, decide_true, Bool.and_true, Int.le_refl]
    exact ih (j + 1) _ (by omega) (by omega)

theorem lk55_1 : LOK T4 a55 l55 Try.f55.ntmps (loopAt Try.f55 1) := by
  intro ins outs hA s k out h
  have hA' : ([0, 1, 2, 3, 10, 11, 12, 13], [0, 1, 2, 3, 10, 11, 12]) = (ins, outs) := Option.some.inj ((show a55.lp (firstRegion (loopAt Try.f55 1)) = some ([0, 1, 2, 3, 10, 11, 12, 13], [0, 1, 2, 3, 10, 11, 12]) by kernel_rfl).symm.trans hA)
  cases hA'
  have hk : firstRegion (loopAt Try.f55 1) = 9 := by kernel_rfl
  rw [hk] at h
  change lp55_1 s k = some out at h
  unfold lp55_1 at h
  split at h
  · rename_i xs ys b n o a i zs
    cases hg : (decide (i = 0) && (Nat.ble xs.length big && Nat.ble xs.length ys.length)) with
    | false => rw [hg] at h; cases h
    | true =>
      rw [hg] at h
      simp only [Bool.and_eq_true, decide_eq_true_eq] at hg
      obtain ⟨rfl, hx, hl⟩ := hg
      refine ⟨(xs.length) + 1, ?_⟩
      have hx_ := big_le hx
      have hl_ := Nat.le_of_ble_eq_true hl
      exact (ind55_1 xs ys b n o zs hx hl k (xs.length) 0 a (by omega) (by omega)).trans h
  · cases h
theorem e55 (xs : List Nat) (ys : List Nat) (b : Nat) (n : Int) : runFn T4 a55 l55 Try.f55 [.vw none ⟨.f32, xs⟩, .vw none ⟨.f32, ys⟩, .el (.sc (.fl .f32 b)), .el (.sc (.int .i64 n))] = (match (!(lamps xs ys 1) : Bool) with
  | true => some ⟨[.nil, .el (.sc (.bo false))], none⟩
  | false => (match (!(fin b) : Bool) with
    | true => some ⟨[.nil, .el (.sc (.bo false))], none⟩
    | false => (match (!(within n 2 64) : Bool) with
      | true => some ⟨[.nil, .el (.sc (.bo false))], none⟩
      | false => (match ((decide (0 = 0) && (Nat.ble xs.length big && (Nat.ble xs.length ys.length && (Nat.ble (([] : List Nat).length + n.toNat) big && decide (n ≤ 1099511627776))))) : Bool) with
        | true => (match (Nat.ble (rep (fun j zs => zs ++ [scanAt xs ys b j]) (n.toNat) 0 (([] : List Nat) : (List Nat))).length big : Bool) with
          | true => (match ((rep (fun j zs => zs ++ [scanAt xs ys b j]) (n.toNat) 0 (([] : List Nat) : (List Nat))).all fin : Bool) with
            | true => some ⟨[.fresh 30 ⟨.f32, rep (fun j zs => zs ++ [scanAt xs ys b j]) (n.toNat) 0 (([] : List Nat) : (List Nat))⟩, .el (.sc (.bo true))], none⟩
            | false => some ⟨[.nil, .el (.sc (.bo false))], none⟩)
          | false => none)
        | false => none)))) := by kernel_rfl
theorem s55 (xs : List Nat) (ys : List Nat) (b : Nat) (n : Int) : runFn T4 a55 l55 Try.f55 [.vw none ⟨.f32, xs⟩, .vw none ⟨.f32, ys⟩, .el (.sc (.fl .f32 b)), .el (.sc (.int .i64 n))] = (match (scanOk xs ys b n : Bool) with
  | true => some ⟨[.fresh 30 ⟨.f32, scanX xs ys b n⟩, .el (.sc (.bo true))], none⟩
  | false => some ⟨[.nil, .el (.sc (.bo false))], none⟩) := by
  rw [e55]
  unfold scanOk
  cases h1 : lamps xs ys 1 with
  | false => simp
  | true =>
    have h1b := h1
    unfold lamps at h1b
    simp only [Bool.and_eq_true, decide_eq_true_eq] at h1b
    have hx : Nat.ble xs.length big = true := big_of (by omega)
    have hl : Nat.ble xs.length ys.length = true := Nat.ble_eq_true_of_le (by omega)
    cases h2 : fin b with
    | false => simp
    | true =>
      cases h3 : within n 2 64 with
      | false => simp
      | true =>
        have h3b : 2 ≤ n ∧ n ≤ 64 := by
          unfold within at h3
          simpa using h3
        have hn : n ≤ 1099511627776 := by omega
        have hz : Nat.ble (0 + n.toNat) big = true := big_of (by omega)
        have hr : Nat.ble (scanX xs ys b n).length big = true := big_of (by rw [scanX_len]; omega)
        have e := rep_map (scanAt xs ys b) n.toNat 0 []
        have e2 : (fromTo 0 n.toNat).map (scanAt xs ys b) = scanX xs ys b n := rfl
        rw [List.nil_append, e2] at e
        simp only [hx, hl, hz, hn, e, hr, List.length_nil, decide_true, Bool.and_self, Bool.not_true, Bool.true_and, Bool.and_true]
        try (cases h6 : (scanX xs ys b n).all fin <;> simp)
theorem c55 (xs : List Nat) (ys : List Nat) (b : Nat) (n : Int) (k : List RV → R) (out : Out) (h : k [.fresh 30 ⟨.f32, orNil (scanOk xs ys b n) (scanX xs ys b n)⟩, .el (.sc (.bo (scanOk xs ys b n)))] = some out) : ∃ rs, Real Try.prog 55 ∧ COK Try.prog 55 [.vw none ⟨.f32, xs⟩, .vw none ⟨.f32, ys⟩, .el (.sc (.fl .f32 b)), .el (.sc (.int .i64 n))] rs ∧ k rs = some out := by
  cases g0 : (scanOk xs ys b n : Bool) with
  | true =>
    rw [g0] at h
    exact ⟨_, real Try.func55 (by kernel_rfl), fn_ok tok4 (A := a55) (L := l55) (r := none) Try.func55 (by kernel_rfl) (by kernel_rfl) (loops2 (by kernel_rfl) lk55 lk55_1) (by rw [s55, g0]; rfl), h⟩
  | false =>
    rw [g0] at h
    exact ⟨_, real Try.func55 (by kernel_rfl), COK.nil (fn_ok tok4 (A := a55) (L := l55) (r := none) Try.func55 (by kernel_rfl) (by kernel_rfl) (loops2 (by kernel_rfl) lk55 lk55_1) (by rw [s55, g0] <;> rfl)), h⟩

/-! impl.areFinite -/
theorem e70 (xs : List Nat) : runFn T4 none0 noL Try.f70 [.vw none ⟨.f32, xs⟩] = (match (Nat.ble xs.length big : Bool) with
  | true => some ⟨[.el (.sc (.bo (!(xs.any notFin))))], none⟩
  | false => none) := by kernel_rfl
theorem s70 (xs : List Nat) : runFn T4 none0 noL Try.f70 [.vw none ⟨.f32, xs⟩] = (match (Nat.ble xs.length big : Bool) with
  | true => some ⟨[.el (.sc (.bo (xs.all fin)))], none⟩
  | false => none) := by
  rw [e70]
  rw [notFin_fun, not_any]
theorem c70 (xs : List Nat) (k : List RV → R) (out : Out) (h : (match (Nat.ble xs.length big : Bool) with
  | true => k [.el (.sc (.bo (xs.all fin)))]
  | false => none) = some out) : ∃ rs, Real Try.prog 70 ∧ COK Try.prog 70 [.vw none ⟨.f32, xs⟩] rs ∧ k rs = some out := by
  cases g0 : (Nat.ble xs.length big : Bool) with
  | true =>
    rw [g0] at h
    exact ⟨_, real Try.func70 (by kernel_rfl), fn_ok tok4 (A := none0) (L := noL) (r := none) Try.func70 (by kernel_rfl) (by kernel_rfl) (loops0 (by kernel_rfl)) (by rw [s70, g0]), h⟩
  | false =>
    rw [g0] at h
    cases h

/-! impl.PhasorOf -/
def a110 : Ann := ann [(7, [4, 5], [4, 5])] [2] 0
def lp110 : St → (Ex → St → R) → R := fun s k => match s with
  | ⟨[(4, .fv (.el (.sc (.fl .f64 f)))), (5, .fv (.el (.sc (.int .i64 q))))], []⟩ => (match (decide (q = 0) && !fcmp .geq .f64 (qrun 4 f 0).1 4598175219545276416 : Bool) with
    | true => k (.exit 1) ⟨[(4, .fv (.el (.sc (.fl .f64 ((qrun 4 f 0).1))))), (5, .fv (.el (.sc (.int .i64 ((qrun 4 f 0).2)))))], []⟩
    | false => none)
  | _ => none
def l110 : Loops := fun key s k => bif Nat.beq key 7 then lp110 s k else none
theorem st110 (f : Nat) (q : Int) (m : Nat) (k : Ex → St → R) : iterK a110 [4, 5] [4, 5] (codeK T4 a110 l110 Try.f110.ntmps (loopAt Try.f110 0)) (m + 1) ⟨[(4, .fv (.el (.sc (.fl .f64 f)))), (5, .fv (.el (.sc (.int .i64 q))))], []⟩ k = (match (fcmp .geq .f64 f 4598175219545276416 : Bool) with
  | true => iterK a110 [4, 5] [4, 5] (codeK T4 a110 l110 Try.f110.ntmps (loopAt Try.f110 0)) m ⟨[(4, .fv (.el (.sc (.fl .f64 (fop .sub .f64 f 4598175219545276416))))), (5, .fv (.el (.sc (.int .i64 (IntKind.i64.wrap (q + 1))))))], []⟩ k
  | false => k (.exit 1) ⟨[(4, .fv (.el (.sc (.fl .f64 f)))), (5, .fv (.el (.sc (.int .i64 q))))], []⟩) := by kernel_rfl
theorem ind110 (k : Ex → St → R) : ∀ (m f : Nat) (q : Int), 0 ≤ q → q + m ≤ 100 → fcmp .geq .f64 (qrun m f q).1 4598175219545276416 = false → iterK a110 [4, 5] [4, 5] (codeK T4 a110 l110 Try.f110.ntmps (loopAt Try.f110 0)) (m + 1) ⟨[(4, .fv (.el (.sc (.fl .f64 f)))), (5, .fv (.el (.sc (.int .i64 q))))], []⟩ k = k (.exit 1) ⟨[(4, .fv (.el (.sc (.fl .f64 ((qrun m f q).1))))), (5, .fv (.el (.sc (.int .i64 ((qrun m f q).2)))))], []⟩ := by
  intro m
  induction m with
  | zero =>
    intro f q h0 hq hd
    rw [st110]
    have hd2 : fcmp .geq .f64 f 4598175219545276416 = false := hd
    rw [hd2]
    rfl
  | succ m ih =>
    intro f q h0 hq hd
    have hw : IntKind.i64.wrap (q + 1) = q + 1 := wrap64 (by omega) (by omega)
    rw [st110, hw]
    unfold qrun at hd ⊢
    cases hg : fcmp .geq .f64 f 4598175219545276416 with
    | true =>
      rw [hg] at hd
      exact ih _ _ (by omega) (by omega) hd
    | false => rfl

theorem lk110 : LOK T4 a110 l110 Try.f110.ntmps (loopAt Try.f110 0) := by
  intro ins outs hA s k out h
  have hA' : ([4, 5], [4, 5]) = (ins, outs) := Option.some.inj ((show a110.lp (firstRegion (loopAt Try.f110 0)) = some ([4, 5], [4, 5]) by kernel_rfl).symm.trans hA)
  cases hA'
  have hk : firstRegion (loopAt Try.f110 0) = 7 := by kernel_rfl
  rw [hk] at h
  change lp110 s k = some out at h
  unfold lp110 at h
  split at h
  · rename_i f q
    cases hg : (decide (q = 0) && !fcmp .geq .f64 (qrun 4 f 0).1 4598175219545276416) with
    | false => rw [hg] at h; cases h
    | true =>
      rw [hg] at h
      simp only [Bool.and_eq_true, decide_eq_true_eq] at hg
      obtain ⟨rfl, hd⟩ := hg
      refine ⟨5, ?_⟩
      exact (ind110 k 4 f 0 (by omega) (by omega) (by rw [Bool.not_eq_true'] at hd; exact hd)).trans h
  · cases h
theorem e110 (t : Nat) : runFn T4 a110 l110 Try.f110 [.el (.sc (.fl .f64 t))] = (match fconv .f64 .f32 (nanOf .f64) with
  | some r1 => (match (fcmp .neq .f64 (fop .sub .f64 t t) 0 : Bool) with
    | true => some ⟨[.el (.sc (.cx .f32 r1 r1))], none⟩
    | false => (match (!isN .f64 t : Bool) with
      | true => (match (fcmp .geq .f64 (fabs t) big52 : Bool) with
        | true => some ⟨[.el (.sc (.cx .f32 1065353216 0))], none⟩
        | false => (match (decide (0 = 0) && !fcmp .geq .f64 (qrun 4 (part t) 0).1 4598175219545276416 : Bool) with
          | true => (match (((qrun 4 (part t) 0).2 : Int) == 1 : Bool) with
            | true => (match fconv .f64 .f32 (fop .sub .f64 0 (sinCore (part ((qrun 4 (part t) 0).1)))) with
              | some r2 => (match fconv .f64 .f32 (sinCore (part (fop .sub .f64 4598175219545276416 ((qrun 4 (part t) 0).1)))) with
                | some r3 => some ⟨[.el (.sc (.cx .f32 r2 r3))], none⟩
                | none => none)
              | none => none)
            | false => (match (((qrun 4 (part t) 0).2 : Int) == 2 : Bool) with
              | true => (match fconv .f64 .f32 (fop .sub .f64 0 (sinCore (part (fop .sub .f64 4598175219545276416 ((qrun 4 (part t) 0).1))))) with
                | some r4 => (match fconv .f64 .f32 (fop .sub .f64 0 (sinCore (part ((qrun 4 (part t) 0).1)))) with
                  | some r5 => some ⟨[.el (.sc (.cx .f32 r4 r5))], none⟩
                  | none => none)
                | none => none)
              | false => (match (((qrun 4 (part t) 0).2 : Int) == 3 : Bool) with
                | true => (match fconv .f64 .f32 (sinCore (part ((qrun 4 (part t) 0).1))) with
                  | some r6 => (match fconv .f64 .f32 (fop .sub .f64 0 (sinCore (part (fop .sub .f64 4598175219545276416 ((qrun 4 (part t) 0).1))))) with
                    | some r7 => some ⟨[.el (.sc (.cx .f32 r6 r7))], none⟩
                    | none => none)
                  | none => none)
                | false => (match fconv .f64 .f32 (sinCore (part (fop .sub .f64 4598175219545276416 ((qrun 4 (part t) 0).1)))) with
                  | some r8 => (match fconv .f64 .f32 (sinCore (part ((qrun 4 (part t) 0).1))) with
                    | some r9 => some ⟨[.el (.sc (.cx .f32 r8 r9))], none⟩
                    | none => none)
                  | none => none))))
          | false => none))
      | false => none))
  | none => none) := by kernel_rfl
theorem s110 (t : Nat) : runFn T4 a110 l110 Try.f110 [.el (.sc (.fl .f64 t))] = some ⟨[.el (.sc (.cx .f32 (phRe t) (phIm t)))], none⟩ := by
  rw [e110]
  unfold phRe phIm
  have hneq : fcmp .neq .f64 (fop .sub .f64 t t) 0 = !isNum .f64 t := sub_self_fin t
  rw [hneq]
  cases h : isNum .f64 t with
  | false => rfl
  | true =>
    have hN := isNum_notN h
    have ha := huge_abs h
    have hnan : fconv .f64 .f32 (nanOf .f64) = some (nanOf .f32) := narrow_nan (isN_nanOf .f64)
    rw [ha, hN]
    cases hh : huge t with
    | true => simp [hnan]
    | false =>
      obtain ⟨r3, s1, c1, s2, s3, c2, c3⟩ := ph_ok h hh
      have ns := nar_ok s2 s3
      have nc := nar_ok c2 c3
      have eF : (qrun 4 (part t) 0).1 = phF t := rfl
      have eQ : (qrun 4 (part t) 0).2 = phQ t := rfl
      have eC : sinCore (part (fop .sub .f64 4598175219545276416 (phF t))) = phC t := rfl
      have eS : sinCore (part (phF t)) = phS t := rfl
      rw [eF] at r3
      simp only [hnan, eF, eQ, eC, eS, r3, ns.1, ns.2, nc.1, nc.2, decide_true, Bool.not_false, Bool.not_true, Bool.and_self, cond_false, cond_true]
      cases phQ t == 1 <;> cases phQ t == 2 <;> cases phQ t == 3 <;> rfl
theorem c110 (t : Nat) (k : List RV → R) (out : Out) (h : k [.el (.sc (.cx .f32 (phRe t) (phIm t)))] = some out) : ∃ rs, Real Try.prog 110 ∧ COK Try.prog 110 [.el (.sc (.fl .f64 t))] rs ∧ k rs = some out := by
  exact ⟨_, real Try.func110 (by kernel_rfl), fn_ok tok4 (A := a110) (L := l110) (r := none) Try.func110 (by kernel_rfl) (by kernel_rfl) (loops1 (by kernel_rfl) lk110) (by rw [s110]), h⟩

def S5 : SFn := fun f args k => match f, args with
  | 55, [.vw none ⟨.f32, xs⟩, .vw none ⟨.f32, ys⟩, .el (.sc (.fl .f32 b)), .el (.sc (.int .i64 n))] => k [.fresh 30 ⟨.f32, orNil (scanOk xs ys b n) (scanX xs ys b n)⟩, .el (.sc (.bo (scanOk xs ys b n)))]
  | 70, [.vw none ⟨.f32, xs⟩] => (match (Nat.ble xs.length big : Bool) with
    | true => k [.el (.sc (.bo (xs.all fin)))]
    | false => none)
  | 110, [.el (.sc (.fl .f64 t))] => k [.el (.sc (.cx .f32 (phRe t) (phIm t)))]
  | _, _ => S4 f args k
abbrev M5 : MFn := M4
def T5 : TT := tab.T S5 muts M5
theorem tok5 : TOK Try.prog T5 := by
  refine (tab_ok tabok).tok (fun f args k out h => ?_) (fun f vec args k out h => ?_)
  · change S5 f args k = some out at h
    unfold S5 at h
    split at h
    · exact (fun k out h => cok_call (c55 _ _ _ _ k out h)) k out h
    · exact (fun k out h => cok_call (c70 _ k out h)) k out h
    · exact (fun k out h => cok_call (c110 _ k out h)) k out h
    · exact tok4.S f args k out h
  · exact tok4.M f vec args k out h

end Go.Sm.Ytlkphfpkohabeaa
